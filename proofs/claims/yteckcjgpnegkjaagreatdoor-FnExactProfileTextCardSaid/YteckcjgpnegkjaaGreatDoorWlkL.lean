/-
 The functions do what their models say. Printed by wip/ab/gen.py.
-/
import Derived.Test.YteckcjgpnegkjaaGreatDoorModL
import Derived.Test.YteckcjgpnegkjaaGreatDoorTi2
import Derived.Test.YteckcjgpnegkjaaGreatDoorWlkU
namespace Go.Proofs.YteckcjgpnegkjaaGreatDoor.Ab
set_option linter.defProp false
set_option linter.unusedVariables false
set_option linter.unusedSimpArgs false
set_option maxRecDepth 20000
set_option maxHeartbeats 4000000
open Go.RowKit
theorem FU (a0 a1 a2 r) (h:s_l11Link a0 a1 a2=some r):AG Tryz.prog 112 [.box 1 0,.agg [.int .i64 a1.agent,.int .i64 a1.slot],.agg [.int .i64 a2.agent,.int .i64 a2.slot]] [(1001,⟨List.map Agent.ds a0.agents,some 5,0,false⟩)] [(1,[.own 1001])] (.tup []) [(1501,⟨List.map Agent.ds r.agents,some 5,0,false⟩)] [(1,[.own 1501])] :=by
 unfold s_l11Link at h
 refine agF Tryz.func112 mixed (h:=Z ?_)
 refine Aa [false,false,false,false,false,false,false,false,false,false,false,false,false,true] (Tr.sq [13] .fin) (by kernel_rfl) (Z ?_)
 replace h:=AB h; obtain⟨u,w,h⟩:=h
 refine AM w (Agent.ds_len _) (Z ?_)
 refine Ac (AX w) (Z ?_)
 replace h:=AB h; obtain⟨y,q,h⟩:=h
 refine Ac (E2 (sz:=5) (j:=4) (r:=List.map Port.ds u.ports) (AX (f:=Agent.ds) w) (Agent.ds_len _) (by rw [Agent.ds_eq]; rfl)) (Z ?_)
 refine AM q (Port.ds_len _) (Z ?_)
 replace h:=AB h; obtain⟨g,k,h⟩:=h
 replace h:=AB h; obtain⟨b,d,h⟩:=h
 refine Ac (E2 (sz:=5) (j:=4) (r:=List.map Port.ds u.ports) (AX (f:=Agent.ds) w) (Agent.ds_len _) (by rw [Agent.ds_eq]; rfl)) (Z ?_)
 refine Ac (AX q) (Z ?_)
 try refine Al ⟨List.cons_ne_nil _ _,by rfl,by decide,by rfl⟩ ?_
 try simp only [go_sem]
 refine A6 (b.map Agent.ds) ((ND (AX (f:=Agent.ds) w) (d':=.sl (u.ports.map Port.ds)) (by simp only [go_sem,Agent.ds_eq])).trans (by rw [← BW d,← BW k]; simp only [List.map_set,List.set_cons_succ,List.set_cons_zero,go_sem,Agent.ds_eq,Port.ds_eq])) (Z ?_)
 refine AF ?_
 refine Aa [false,false,false,false,false,false,false,false,false,false,false,false,false,true] (Tr.sq [13] .fin) (by kernel_rfl) (Z ?_)
 replace h:=AB h; obtain⟨c,e,h⟩:=h
 refine AM e (Agent.ds_len _) (Z ?_)
 refine Ac (AX e) (Z ?_)
 replace h:=AB h; obtain⟨i,l,h⟩:=h
 refine Ac (E2 (sz:=5) (j:=4) (r:=List.map Port.ds c.ports) (AX (f:=Agent.ds) e) (Agent.ds_len _) (by rw [Agent.ds_eq]; rfl)) (Z ?_)
 refine AM l (Port.ds_len _) (Z ?_)
 replace h:=AB h; obtain⟨t,s,h⟩:=h
 replace h:=AB h; obtain⟨o,z,h⟩:=h
 refine Ac (E2 (sz:=5) (j:=4) (r:=List.map Port.ds c.ports) (AX (f:=Agent.ds) e) (Agent.ds_len _) (by rw [Agent.ds_eq]; rfl)) (Z ?_)
 refine Ac (AX l) (Z ?_)
 try refine Al ⟨List.cons_ne_nil _ _,by rfl,by decide,by rfl⟩ ?_
 try simp only [go_sem]
 refine A6 (o.map Agent.ds) ((ND (AX (f:=Agent.ds) e) (d':=.sl (c.ports.map Port.ds)) (by simp only [go_sem,Agent.ds_eq])).trans (by rw [← BW z,← BW s]; simp only [List.map_set,List.set_cons_succ,List.set_cons_zero,go_sem,Agent.ds_eq,Port.ds_eq])) (Z ?_)
 cases h
 refine BB (.done _) [(1501,1001)] [(1,1)] ?_
 simp only [go_sem]
theorem Ka (a0 a1 r) (h:F5 a0 a1=some r):AC Tryz.prog 111 [.rop (Net.avs a0) 0,.agg (Port.avs a1)] (.agg (Port.rv r)):=by
 unfold F5 at h
 refine acF Tryz.func111 mixed (h:=Z ?_)
 refine AF ?_
 refine Aa [false,false,false,false,false,false,false,false,false,false,false,false,false,true] (Tr.sq [13] .fin) (by kernel_rfl) (Z ?_)
 replace h:=AB h; obtain⟨u,w,h⟩:=h
 refine AM w (Agent.ds_len _) (Z ?_)
 replace h:=AB h; obtain⟨y,q,h⟩:=h
 refine AM q (Port.ds_len _) (Z ?_)
 refine AF ?_
 cases h
 simp only [go_sem]
theorem OI (a0 a1 a2 r) (h:FO a0 a1 a2=some r):AG Tryz.prog 62 [.box 1 0,.agg [.int .i64 a1.agent,.int .i64 a1.slot],.agg [.int .i64 a2.agent,.int .i64 a2.slot]] [(1001,⟨List.map Agent.ds a0.agents,some 5,0,false⟩)] [(1,[.own 1001])] (.tup []) [(1501,⟨List.map Agent.ds r.agents,some 5,0,false⟩)] [(1,[.own 1501])] :=by
 unfold FO at h
 refine agF Tryz.func62 mixed (h:=Z ?_)
 replace h:=AB h; obtain⟨u,w,h⟩:=h
 refine AI (Ka _ _ _ w) (Z ?_)
 refine AF ?_
 replace h:=AB h; obtain⟨y,q,h⟩:=h
 refine AI (Ka _ _ _ q) (Z ?_)
 refine AF ?_
 refine AD h (fun h=>Z ?_) (fun h=>Z ?_)
 ·replace h:=AB h; obtain⟨g,j,h⟩:=h
  refine caG ⟨[],[(1001,1001)],[(1,1,0)],[(1501,80048)],[],true⟩ (FU _ _ _ _ j) (Z ?_)
  cases h
  refine BB (.done _) [(1501,80048)] [(1,1)] ?_
  simp only [go_sem]
 ·cases h
  refine BB (.done _) [(1501,1001)] [(1,1)] ?_
  simp only [go_sem]
theorem Ch (a0 a1 a2 r) (h:Bj a0 a1 a2=some r):AG Tryz.prog 66 [.box 1 0,.agg [.int .i64 a1.agent,.int .i64 a1.slot],.agg [.int .i64 a2.agent,.int .i64 a2.slot]] [(1001,⟨List.map Agent.ds a0.agents,some 5,0,false⟩)] [(1,[.own 1001])] (.tup []) [(1501,⟨List.map Agent.ds r.agents,some 5,0,false⟩)] [(1,[.own 1501])] :=by
 unfold Bj at h
 refine agF Tryz.func66 mixed (h:=Z ?_)
 refine Aa [false,false,false,false,false,true] (Tr.sq [5] .fin) (by kernel_rfl) (Z ?_)
 replace h:=AB h; obtain⟨u,w,h⟩:=h
 refine AI (Ka _ _ _ w) (Z ?_)
 replace h:=AB h; obtain⟨y,q,h⟩:=h
 refine caG ⟨[],[(1001,1001)],[(1,1,0)],[(1501,32080)],[],true⟩ (FU _ _ _ _ q) (Z ?_)
 cases h
 refine BB (.done _) [(1501,32080)] [(1,1)] ?_
 simp only [go_sem]
theorem OJ (a0 a1 a2 a3 r) (h:H5 a0 a1 a2 a3=some r):AC Tryz.prog 147 [.int .i64 a0,.int .i64 a1,.int .i64 a2,.int .i64 a3] (.bool r):=by
 unfold H5 at h
 refine acF Tryz.func147 mixed (h:=Z ?_)
 replace h:=AB h; obtain⟨u,w,h⟩:=h
 refine AI (G4 _ _ _ w) (Z ?_)
 refine AD h (fun h=>Z ?_) (fun h=>Z ?_)
 ·replace h:=AB h; obtain⟨y,q,h⟩:=h
  refine AI (G4 _ _ _ q) (Z ?_)
  refine AD h (fun h=>Z ?_) (fun h=>Z ?_)
  ·refine AD h (fun h=>Z ?_) (fun h=>Z ?_)
   ·refine AF ?_
    cases h
    simp only [go_sem]
   ·refine AF ?_
    cases h
    simp only [go_sem]
  ·refine AF ?_
   cases h
   simp only [go_sem]
 ·refine AF ?_
  cases h
  simp only [go_sem]
theorem Io (a0:Int) (a1:Int) (a2:Int) (u:Bool) (r:Bool) (h:Ef a0 a1 a2 u=some r):Aq Tryz.prog Tryz.f176 [1,1,0,1] (.bool r) ⟨[(0,.int .i64 a0),(1,.int .i64 a1),(2,.int .i64 a2),(21,.bool u)],[],[]⟩:=by
 unfold Ef at h
 refine AO rfl rfl (Z ?_)
 refine AD h (fun h=>Z ?_) (fun h=>Z ?_)
 ·cases h
  simp only [go_sem]
 ·refine AF ?_
  replace h:=AB h; obtain⟨w,y,h⟩:=h
  refine AI (JP _ _ y) (Z ?_)
  refine AD h (fun h=>Z ?_) (fun h=>Z ?_)
  ·refine AF ?_
   cases h
   simp only [go_sem]
  ·refine AF ?_
   cases h
   simp only [go_sem]
theorem Ip (a0:Int) (a1:Int) (a2:Int) (u:Bool) (r:Bool) (h:Eg a0 a1 a2 u=some r):Aq Tryz.prog Tryz.f176 [1,0,1] (.bool r) ⟨[(0,.int .i64 a0),(1,.int .i64 a1),(2,.int .i64 a2),(15,.bool u)],[],[]⟩:=by
 unfold Eg at h
 refine AO rfl rfl (Z ?_)
 refine AD h (fun h=>Z ?_) (fun h=>Z ?_)
 ·cases h
  simp only [go_sem]
 ·refine AF ?_
  refine AD h (fun h=>Z ?_) (fun h=>Z ?_)
  ·exact AY (Io a0 a1 a2 true _ h) [] []
  ·exact AY (Io a0 a1 a2 (decide (a1=12)) _ h) [] []
theorem Pm (a0 a1 a2 r) (h:GM a0 a1 a2=some r):AC Tryz.prog 176 [.int .i64 a0,.int .i64 a1,.int .i64 a2] (.bool r):=by
 unfold GM at h
 refine acF Tryz.func176 mixed (h:=Z ?_)
 replace h:=AB h; obtain⟨u,w,h⟩:=h
 refine AI (BV _ _ _ _ w) (Z ?_)
 refine AD h (fun h=>Z ?_) (fun h=>Z ?_)
 ·exact AY (Ip a0 a1 a2 true _ h) [] []
 ·replace h:=AB h; obtain⟨y,q,h⟩:=h
  refine AI (G4 _ _ _ q) (Z ?_)
  exact AY (Ip a0 a1 a2 (!y) _ h) [] []
theorem DT (u:Bool) (r:Bool) (h:CR u=some r):Aq Tryz.prog Tryz.f177 [1,0,1,0,1] (.bool r) ⟨[(4,.bool u)],[],[]⟩:=by
 unfold CR at h
 refine AO rfl rfl (Z ?_)
 refine AD h (fun h=>Z ?_) (fun h=>Z ?_)
 ·cases h
  simp only [go_sem]
 ·refine AF ?_
  cases h
  simp only [go_sem]
theorem Pn (a0 r) (h:GN a0=some r):AC Tryz.prog 177 [.int .i64 a0] (.bool r):=by
 unfold GN at h
 refine acF Tryz.func177 mixed (h:=Z ?_)
 refine AD h (fun h=>Z ?_) (fun h=>Z ?_)
 ·exact AY (DT (decide (a0=3)) _ h) [] []
 ·refine AD h (fun h=>Z ?_) (fun h=>Z ?_)
  ·exact AY (DT (decide (a0=7)) _ h) [] []
  ·refine AD h (fun h=>Z ?_) (fun h=>Z ?_)
   ·exact AY (DT (decide (a0=8)) _ h) [] []
   ·refine AD h (fun h=>Z ?_) (fun h=>Z ?_)
    ·exact AY (DT (decide (a0=10)) _ h) [] []
    ·exact AY (DT (decide (a0=11)) _ h) [] []
theorem Kh (a1:Int) (a2:Int) (a3:Int) (u:Bool) (r:Int) (h:GO a1 a2 a3 u=some r):Aq Tryz.prog Tryz.f148 [1,0,1,0,1,1,1,0,0,1] (.int .i64 r) ⟨[(1,.int .i64 a1),(2,.int .i64 a2),(3,.int .i64 a3),(20,.bool u)],[],[]⟩:=by
 unfold GO at h
 refine AO rfl rfl (Z ?_)
 refine AD h (fun h=>Z ?_) (fun h=>Z ?_)
 ·cases h
  simp only [go_sem]
 ·refine AF ?_
  replace h:=AB h; obtain⟨w,y,h⟩:=h
  refine AI (Pm _ _ _ _ y) (Z ?_)
  refine AF ?_
  refine AD h (fun h=>Z ?_) (fun h=>Z ?_)
  ·cases h
   simp only [go_sem]
  ·refine AF ?_
   cases h
   simp only [go_sem]
theorem Ki (u:Bool) (r:Int) (h:GP u=some r):Aq Tryz.prog Tryz.f148 [1,0,1,0,1,1,1,1,1,0,1] (.int .i64 r) ⟨[(33,.bool u)],[],[]⟩:=by
 unfold GP at h
 refine AO rfl rfl (Z ?_)
 refine AD h (fun h=>Z ?_) (fun h=>Z ?_)
 ·cases h
  simp only [go_sem]
 ·refine AF ?_
  cases h
  simp only [go_sem]
theorem Kj (a2:Int) (u:Bool) (r:Int) (h:GQ a2 u=some r):Aq Tryz.prog Tryz.f148 [1,0,1,0,1,1,1,1,1,1,1,0,1,0,1] (.int .i64 r) ⟨[(36,.int .i64 a2),(37,.bool u)],[],[]⟩:=by
 unfold GQ at h
 refine AO rfl rfl (Z ?_)
 refine AD h (fun h=>Z ?_) (fun h=>Z ?_)
 ·cases h
  simp only [go_sem]
 ·refine AD h (fun h=>Z ?_) (fun h=>Z ?_)
  ·cases h
   simp only [go_sem]
  ·refine AF ?_
   cases h
   simp only [go_sem]
theorem Hs (a0 a1 a2 a3 r) (h:F6 a0 a1 a2 a3=some r):AC Tryz.prog 148 [.int .i64 a0,.int .i64 a1,.int .i64 a2,.int .i64 a3] (.int .i64 r):=by
 unfold F6 at h
 refine acF Tryz.func148 mixed (h:=Z ?_)
 refine AD h (fun h=>Z ?_) (fun h=>Z ?_)
 ·cases h
  simp only [go_sem]
 ·refine AD h (fun h=>Z ?_) (fun h=>Z ?_)
  ·refine AD h (fun h=>Z ?_) (fun h=>Z ?_)
   ·exact AY (Kh a1 a2 a3 (decide (a1=a3)) _ h) [] []
   ·exact AY (Kh a1 a2 a3 false _ h) [] []
  ·refine AD h (fun h=>Z ?_) (fun h=>Z ?_)
   ·refine AD h (fun h=>Z ?_) (fun h=>Z ?_)
    ·exact AY (Ki (decide (a1=a3)) _ h) [] []
    ·exact AY (Ki false _ h) [] []
   ·refine AD h (fun h=>Z ?_) (fun h=>Z ?_)
    ·refine AD h (fun h=>Z ?_) (fun h=>Z ?_)
     ·exact AY (Kj a2 (decide (a2=7)) _ h) [] []
     ·exact AY (Kj a2 (decide (a2=8)) _ h) [] []
    ·refine AD h (fun h=>Z ?_) (fun h=>Z ?_)
     ·refine AD h (fun h=>Z ?_) (fun h=>Z ?_)
      ·cases h
       simp only [go_sem]
      ·refine AF ?_
       cases h
       simp only [go_sem]
     ·refine AD h (fun h=>Z ?_) (fun h=>Z ?_)
      ·replace h:=AB h; obtain⟨u,w,h⟩:=h
       refine AI (Pn _ _ w) (Z ?_)
       refine AF ?_
       refine AD h (fun h=>Z ?_) (fun h=>Z ?_)
       ·cases h
        simp only [go_sem]
       ·refine AF ?_
        cases h
        simp only [go_sem]
      ·refine AF ?_
       cases h
       simp only [go_sem]
theorem O4 (a0 a1 a2 a3 r) (h:Fd a0 a1 a2 a3=some r):AC Tryz.prog 106 [.int .i64 a0,.int .i64 a1,.int .i64 a2,.int .i64 a3] (.int .i64 r):=by
 unfold Fd at h
 refine acF Tryz.func106 mixed (h:=Z ?_)
 replace h:=AB h; obtain⟨u,w,h⟩:=h
 refine AI (OJ _ _ _ _ _ w) (Z ?_)
 refine AF ?_
 refine AD h (fun h=>Z ?_) (fun h=>Z ?_)
 ·cases h
  simp only [go_sem]
 ·refine AF ?_
  replace h:=AB h; obtain⟨y,q,h⟩:=h
  refine AI (Hs _ _ _ _ _ q) (Z ?_)
  refine AF ?_
  refine AD h (fun h=>Z ?_) (fun h=>Z ?_)
  ·cases h
   simp only [go_sem]
  ·refine AF ?_
   replace h:=AB h; obtain⟨g,j,h⟩:=h
   refine AI (Hs _ _ _ _ _ j) (Z ?_)
   refine AF ?_
   refine AD h (fun h=>Z ?_) (fun h=>Z ?_)
   ·cases h
    simp only [go_sem]
   ·refine AF ?_
    cases h
    simp only [go_sem]
theorem Mj (a0 a1 a2 r) (h:E6 a0 a1 a2=some r):AC Tryz.prog 58 [.rop (Net.avs a0) 0,.int .i64 a1,.int .i64 a2] (.tup [.int .i64 r.1,.int .i64 r.2]):=by
 unfold E6 at h
 refine acF Tryz.func58 mixed (h:=Z ?_)
 replace h:=AB h; obtain⟨u,w,h⟩:=h
 refine AM w (Agent.ds_len _) (Z ?_)
 replace h:=AB h; obtain⟨y,q,h⟩:=h
 refine AM q (Agent.ds_len _) (Z ?_)
 refine Aa [] .fin (by kernel_rfl) (Z ?_)
 replace h:=AB h; obtain⟨g,j,h⟩:=h
 refine AI (O4 _ _ _ _ _ j) (Z ?_)
 refine AF ?_
 refine AD h (fun h=>Z ?_) (fun h=>Z ?_)
 ·cases h
  simp only [go_sem]
 ·refine AF ?_
  cases h
  simp only [go_sem]
theorem JD (u:Int) (r:Int) (h:E7 u=some r):Aq Tryz.prog Tryz.f107 [1,1,1,1] (.int .i64 r) ⟨[(9,.int .i64 u)],[],[]⟩:=by
 unfold E7 at h
 refine AO rfl rfl (Z ?_)
 refine AD h (fun h=>Z ?_) (fun h=>Z ?_)
 ·cases h
  simp only [go_sem]
 ·refine AF ?_
  cases h
  simp only [go_sem]
theorem RO (a0 a1 a2 a3 r) (h:HF a0 a1 a2 a3=some r):AC Tryz.prog 107 [.int .i64 a0,.int .i64 a1,.int .i64 a2,.int .i64 a3] (.int .i64 r):=by
 unfold HF at h
 refine acF Tryz.func107 mixed (h:=Z ?_)
 replace h:=AB h; obtain⟨u,w,h⟩:=h
 refine AI (OJ _ _ _ _ _ w) (Z ?_)
 refine AF ?_
 refine AD h (fun h=>Z ?_) (fun h=>Z ?_)
 ·cases h
  simp only [go_sem]
 ·refine AF ?_
  replace h:=AB h; obtain⟨y,q,h⟩:=h
  refine AI (Hs _ _ _ _ _ q) (Z ?_)
  refine AF ?_
  refine AD h (fun h=>Z ?_) (fun h=>Z ?_)
  ·replace h:=AB h; obtain⟨g,j,h⟩:=h
   refine AI (Hs _ _ _ _ _ j) (Z ?_)
   exact AY (JD g _ h) [] []
  ·exact AY (JD y _ h) [] []
theorem Gv (a0:Agent) (a1:Agent) (u:Bool) (r:Int) (h:Eo a0 a1 u=some r):Aq Tryz.prog Tryz.f59 [1,1,0,1] (.int .i64 r) ⟨[(0,.rop [.int .i64 a0.kind,.int .i64 a0.level,.int .i64 a0.value,.ro (a0.data.map AS),.ro (a0.ports.map Port.ds)] 0),(1,.rop [.int .i64 a1.kind,.int .i64 a1.level,.int .i64 a1.value,.ro (a1.data.map AS),.ro (a1.ports.map Port.ds)] 0),(52,.bool u)],[],[]⟩:=by
 unfold Eo at h
 refine AO rfl rfl (Z ?_)
 refine AD h (fun h=>Z ?_) (fun h=>Z ?_)
 ·cases h
  simp only [go_sem]
 ·refine AF ?_
  refine Aa [] .fin (by kernel_rfl) (Z ?_)
  replace h:=AB h; obtain⟨w,y,h⟩:=h
  refine AI (RO _ _ _ _ _ y) (Z ?_)
  refine AF ?_
  cases h
  simp only [go_sem]
theorem Gw (a0:Agent) (a1:Agent) (u:Bool) (r:Int) (h:Ep a0 a1 u=some r):Aq Tryz.prog Tryz.f59 [1,0,1] (.int .i64 r) ⟨[(0,.rop [.int .i64 a0.kind,.int .i64 a0.level,.int .i64 a0.value,.ro (a0.data.map AS),.ro (a0.ports.map Port.ds)] 0),(1,.rop [.int .i64 a1.kind,.int .i64 a1.level,.int .i64 a1.value,.ro (a1.data.map AS),.ro (a1.ports.map Port.ds)] 0),(28,.bool u)],[],[]⟩:=by
 unfold Ep at h
 refine AO rfl rfl (Z ?_)
 refine AD h (fun h=>Z ?_) (fun h=>Z ?_)
 ·cases h
  simp only [go_sem]
 ·refine AF ?_
  refine Aa [] .fin (by kernel_rfl) (Z ?_)
  refine AD h (fun h=>Z ?_) (fun h=>Z ?_)
  ·refine AD h (fun h=>Z ?_) (fun h=>Z ?_)
   ·exact AY (Gv a0 a1 (decide ((a0.data.length:Int)≤a1.value)) _ h) [] []
   ·exact AY (Gv a0 a1 false _ h) [] []
  ·exact AY (Gv a0 a1 false _ h) [] []
theorem JQ (a0 a1 r) (h:Fs a0 a1=some r):AC Tryz.prog 59 [.rop (Agent.avs a0) 0,.rop (Agent.avs a1) 0] (.int .i64 r):=by
 unfold Fs at h
 refine acF Tryz.func59 mixed (h:=Z ?_)
 refine Aa [] .fin (by kernel_rfl) (Z ?_)
 refine AD h (fun h=>Z ?_) (fun h=>Z ?_)
 ·refine AD h (fun h=>Z ?_) (fun h=>Z ?_)
  ·exact AY (Gw a0 a1 (decide ((a1.data.length:Int)≤a0.value)) _ h) [] []
  ·exact AY (Gw a0 a1 false _ h) [] []
 ·exact AY (Gw a0 a1 false _ h) [] []
theorem Lq (a0 a1 r) (h:Eh a0 a1=some r):AC Tryz.prog 40 [.int .i64 a0,.int .i64 a1] (.int .i64 r):=by
 unfold Eh at h
 refine acF Tryz.func40 mixed (h:=Z ?_)
 refine AD h (fun h=>Z ?_) (fun h=>Z ?_)
 ·cases h
  simp only [go_sem]
 ·refine AF ?_
  cases h
  simp only [go_sem]
theorem NO (n:Nat):(∀a0 u w r,CS n a0 u w=some r→Aq Tryz.prog Tryz.f109 [1,1,0,1,0] (.int .i64 r) ⟨[(0,.rop [.ro (a0.agents.map Agent.ds)] 0),(3,.int .i64 u),(4,.int .i64 w)],[],[]⟩):=by
 induction n with
 |zero=>exact((fun _ _ _ _ h=>by rw [CS] at h; cases h))
 | succ n ih=>
  have ih0:=ih
  ·intro a0 u w r h
   rw [CS] at h
   refine AO rfl rfl (Z ?_)
   refine AZ (Z ?_)
   refine AD h (fun h=>Z ?_) (fun h=>Z ?_)
   ·refine AF ?_
    replace h:=AB h; obtain⟨y,q,h⟩:=h
    refine AM q (Agent.ds_len _) (Z ?_)
    replace h:=AB h; obtain⟨g,j,h⟩:=h
    refine AI (Lq _ _ _ j) (Z ?_)
    refine AF ?_
    exact lpF (ih0 a0 g (IntKind.i64.wrap (w+1)) _ h) [] []
   ·refine AF ?_
    cases h
    simp only [go_sem]
theorem Po (a0 r) (h:Hj a0=some r):AC Tryz.prog 109 [.rop (Net.avs a0) 0] (.int .i64 r):=by
 unfold Hj at h
 refine acF Tryz.func109 mixed (h:=Z ?_)
 exact loF (NO fuel a0 0 0 _ h) [] []
theorem ED (a1:Int) (u:Int) (w:Int) (y:Int) (r:Int × Int) (h:DA a1 u w y=some r):Aq Tryz.prog Tryz.f110 [1,1,1,1,1] (.tup [.int .i64 r.1,.int .i64 r.2]) ⟨[(1,.int .i64 a1),(6,.int .i64 u),(7,.int .i64 w),(8,.int .i64 y)],[],[]⟩:=by
 unfold DA at h
 refine AO rfl rfl (Z ?_)
 replace h:=AB h; obtain⟨q,g,h⟩:=h
 refine AI (BV _ _ _ _ g) (Z ?_)
 refine AF ?_
 refine AD h (fun h=>Z ?_) (fun h=>Z ?_)
 ·cases h
  simp only [go_sem]
 ·refine AF ?_
  cases h
  simp only [go_sem]
theorem Lr (a0:Int) (a1:Int) (u:Bool) (r:Int × Int) (h:HG a0 a1 u=some r):Aq Tryz.prog Tryz.f110 [1,1,1,1,0,1,0,1] (.tup [.int .i64 r.1,.int .i64 r.2]) ⟨[(1,.int .i64 a1),(6,.int .i64 0),(7,.int .i64 0),(9,.int .i64 a0),(10,.bool u)],[],[]⟩:=by
 unfold HG at h
 refine AO rfl rfl (Z ?_)
 refine AD h (fun h=>Z ?_) (fun h=>Z ?_)
 ·exact AY (ED a1 0 0 (-2) _ h) [] []
 ·refine AD h (fun h=>Z ?_) (fun h=>Z ?_)
  ·exact AY (ED a1 0 3 a1 _ h) [] []
  ·refine AD h (fun h=>Z ?_) (fun h=>Z ?_)
   ·exact AY (ED a1 0 3 (IntKind.i64.wrap (a1 - 2)) _ h) [] []
   ·refine AD h (fun h=>Z ?_) (fun h=>Z ?_)
    ·exact AY (ED a1 0 0 (-1) _ h) [] []
    ·refine AD h (fun h=>Z ?_) (fun h=>Z ?_)
     ·exact AY (ED a1 0 3 (IntKind.i64.wrap (a1 - 1)) _ h) [] []
     ·refine AD h (fun h=>Z ?_) (fun h=>Z ?_)
      ·exact AY (ED a1 2 600 (IntKind.i64.wrap (a1 - 2)) _ h) [] []
      ·cases h
       simp only [go_sem]
theorem WA (a0 a1 r) (h:LP a0 a1=some r):AC Tryz.prog 110 [.int .i64 a0,.int .i64 a1] (.tup [.int .i64 r.1,.int .i64 r.2]):=by
 unfold LP at h
 refine acF Tryz.func110 mixed (h:=Z ?_)
 refine AD h (fun h=>Z ?_) (fun h=>Z ?_)
 ·exact AY (Lr a0 a1 (decide (a0=1)) _ h) [] []
 ·exact AY (Lr a0 a1 (decide (a0=2)) _ h) [] []
theorem Ex (u:Int) (w:Int) (r:Int × Int) (h:Cl u w=some r):Aq Tryz.prog Tryz.f60 [1,1,1,1,1,1,1] (.tup [.int .i64 r.1,.int .i64 r.2]) ⟨[(12,.int .i64 u),(13,.int .i64 w)],[],[]⟩:=by
 unfold Cl at h
 refine AO rfl rfl (Z ?_)
 replace h:=AB h; obtain⟨y,q,h⟩:=h
 refine AI (WA _ _ _ q) (Z ?_)
 refine AF ?_
 cases h
 simp only [go_sem]
theorem JE (a0:List Net) (u:Agent) (w:Agent) (y:Int) (q:Bool) (r:Int × Int) (h:E8 a0 u w y q=some r):Aq Tryz.prog Tryz.f60 [1,1,1,1,1,1,0,1,0,1,1,1] (.tup [.int .i64 r.1,.int .i64 r.2]) ⟨[(0,.ro (a0.map Net.ds)),(10,.rop [.int .i64 u.kind,.int .i64 u.level,.int .i64 u.value,.ro (u.data.map AS),.ro (u.ports.map Port.ds)] 0),(11,.rop [.int .i64 w.kind,.int .i64 w.level,.int .i64 w.value,.ro (w.data.map AS),.ro (w.ports.map Port.ds)] 0),(12,.int .i64 y),(13,.int .i64 0),(38,.int .i64 y),(41,.bool q)],[],[]⟩:=by
 unfold E8 at h
 refine AO rfl rfl (Z ?_)
 refine AD h (fun h=>Z ?_) (fun h=>Z ?_)
 ·exact AY (Ex y (IntKind.i64.wrap ((w.ports.length:Int) - 1)) _ h) [] []
 ·refine AD h (fun h=>Z ?_) (fun h=>Z ?_)
  ·replace h:=AB h; obtain⟨g,j,h⟩:=h
   refine AI (Iq _ _ j) (Z ?_)
   exact AY (Ex y g _ h) [] []
  ·refine AD h (fun h=>Z ?_) (fun h=>Z ?_)
   ·refine AD h (fun h=>Z ?_) (fun h=>Z ?_)
    ·cases h
     simp only [go_sem]
    ·refine AF ?_
     replace h:=AB h; obtain⟨k,b,h⟩:=h
     refine AM b (Net.ds_len _) (Z ?_)
     refine Aa [] .fin (by kernel_rfl) (Z ?_)
     replace h:=AB h; obtain⟨d,c,h⟩:=h
     refine AM c (Net.ds_len _) (Z ?_)
     replace h:=AB h; obtain⟨e,i,h⟩:=h
     refine AI (Po _ _ i) (Z ?_)
     refine AF ?_
     refine AD h (fun h=>Z ?_) (fun h=>Z ?_)
     ·cases h
      simp only [go_sem]
     ·exact AY (Ex y (k.agents.length:Int) _ h) [] []
   ·exact AY (Ex y 0 _ h) [] []
theorem RP (a0 a1 a2 a3 r) (h:HH a0 a1 a2 a3=some r):AC Tryz.prog 60 [.ro (a0.map Net.ds),.rop (Net.avs a1) 0,.int .i64 a2,.int .i64 a3] (.tup [.int .i64 r.1,.int .i64 r.2]):=by
 unfold HH at h
 refine acF Tryz.func60 mixed (h:=Z ?_)
 replace h:=AB h; obtain⟨u,w,h⟩:=h
 refine AI (Mj _ _ _ _ w) (Z ?_)
 refine AF ?_
 replace h:=AB h; obtain⟨y,q,h⟩:=h
 refine AM q (Agent.ds_len _) (Z ?_)
 replace h:=AB h; obtain⟨g,j,h⟩:=h
 refine AM j (Agent.ds_len _) (Z ?_)
 replace h:=AB h; obtain⟨k,b,h⟩:=h
 refine AI (JQ _ _ _ b) (Z ?_)
 refine AF ?_
 refine AD h (fun h=>Z ?_) (fun h=>Z ?_)
 ·cases h
  simp only [go_sem]
 ·refine AD h (fun h=>Z ?_) (fun h=>Z ?_)
  ·exact AY (JE a0 y g k (decide (k=3)) _ h) [] []
  ·exact AY (JE a0 y g k (decide (k=4)) _ h) [] []
theorem Pp (n:Nat):(∀a0 u w r,C3 n a0 u w=some r→Aq Tryz.prog Tryz.f61 [1,1,0,1,0] (.int .i64 r) ⟨[(0,.rop [.ro (a0.agents.map Agent.ds)] 0),(3,.int .i64 u),(4,.int .i64 w)],[],[]⟩):=by
 induction n with
 |zero=>exact((fun _ _ _ _ h=>by rw [C3] at h; cases h))
 | succ n ih=>
  have ih0:=ih
  ·intro a0 u w r h
   rw [C3] at h
   refine AO rfl rfl (Z ?_)
   refine AZ (Z ?_)
   refine AD h (fun h=>Z ?_) (fun h=>Z ?_)
   ·refine AF ?_
    replace h:=AB h; obtain⟨y,q,h⟩:=h
    refine AM q (Agent.ds_len _) (Z ?_)
    refine AD h (fun h=>Z ?_) (fun h=>Z ?_)
    ·refine AF ?_
     exact lpF (ih0 a0 (IntKind.i64.wrap (u+1)) (IntKind.i64.wrap (w+1)) _ h) [] []
    ·refine AF ?_
     exact lpF (ih0 a0 u (IntKind.i64.wrap (w+1)) _ h) [] []
   ·refine AF ?_
    cases h
    simp only [go_sem]
theorem OK (a0 r) (h:H6 a0=some r):AC Tryz.prog 61 [.rop (Net.avs a0) 0] (.int .i64 r):=by
 unfold H6 at h
 refine acF Tryz.func61 mixed (h:=Z ?_)
 exact loF (Pp fuel a0 0 0 _ h) [] []
theorem AT (a0 a1 r) (h:Ad a0 a1=some r):AC Tryz.prog 63 [.int .i64 a0,.int .i64 a1] (.agg (Port.rv r)):=by
 unfold Ad at h
 refine acF Tryz.func63 mixed (h:=Z ?_)
 refine AF ?_
 cases h
 simp only [go_sem]
theorem RQ (n:Nat):(∀a0 a1 a2 a3 u w y r,EG n a0 a1 a2 a3 u w y=some r→DF Tryz.prog Tryz.f65 [1,1,0,1,0] (.int .i64 r.1) [(1501,⟨List.map Agent.ds r.2.agents,some 5,0,false⟩)] [(1,[.own 1501])] ⟨[(0,.box 1 0),(13,.box 1000001500 0),(14,.int .i64 y)],[(1000001000,some ⟨List.map Agent.ds a0.agents,some 5,0,false⟩),(1000001001,some ⟨List.map AS u,some 1,0,false⟩),(1000001002,some ⟨List.map Port.ds w,some 2,0,false⟩)],[(1,some [.own 1000001000]),(1000001500,some [.int .i64 a1,.int .i64 a2,.int .i64 a3,.own 1000001001,.own 1000001002])]⟩):=by
 induction n with
 |zero=>exact((fun _ _ _ _ _ _ _ _ h=>by rw [EG] at h; cases h))
 | succ n ih=>
  have ih0:=ih
  ·intro a0 a1 a2 a3 u w y r h
   rw [EG] at h
   refine A5 rfl rfl (Z ?_)
   refine AZ (Z ?_)
   refine AD h (fun h=>Z ?_) (fun h=>Z ?_)
   ·refine AF ?_
    replace h:=AB h; obtain⟨q,g,h⟩:=h
    have hq_:=Av g
    obtain⟨hv6004a,hv6004b⟩:=hq_
    refine Cz false (Z ?_)
    refine Al (by refine⟨?_,?_⟩ <;> (try simp only [List.length_map,List.length_append,List.length_cons,List.length_nil] at*) <;> (try unfold maxLen) <;> omega) (Z ?_)
    refine A6 (q.map Port.ds) (by rw [← hv6004b]; simp only [List.map_append,List.map_cons,List.map_nil,List.nil_append,List.append_nil,go_sem,Port.ds_eq]) (Z ?_)
    refine AF ?_
    exact lpG (ih0 a0 a1 a2 a3 u q (IntKind.i64.wrap (y - 1)) _ h) [(1000001000,1000001000),(1000001001,1000001001),(1000001002,96064)] [(1,1),(1000001500,1000001500)]
   ·refine AF ?_
    refine Aa [false,false,false,false,false,false,false,true,true,true,true] (Tr.sq [7,8,9,10] .fin) (by kernel_rfl) (Z ?_)
    replace h:=AB h; obtain⟨j,k,h⟩:=h
    have hq_:=Av k
    obtain⟨hv7007a,hv7007b⟩:=hq_
    refine Cz false (Z ?_)
    refine Al (by refine⟨?_,?_⟩ <;> (try simp only [List.length_map,List.length_append,List.length_cons,List.length_nil] at*) <;> (try unfold maxLen) <;> omega) (Z ?_)
    refine A6 (j.map Agent.ds) (by rw [← hv7007b]; simp only [List.map_append,List.map_cons,List.map_nil,List.nil_append,List.append_nil,go_sem,Agent.ds_eq]) (Z ?_)
    refine AF ?_
    cases h
    refine BB (.done _) [(1501,112112)] [(1,1)] ?_
    simp only [go_sem]
theorem Dm (a0 a1 a2 a3 a4 a5 r) (h:CZ a0 a1 a2 a3 a4 a5=some r):AG Tryz.prog 65 [.box 1 0,.int .i64 a1,.int .i64 a2,.int .i64 a3,.ro (a4.map AS),.int .i64 a5] [(1001,⟨List.map Agent.ds a0.agents,some 5,0,false⟩)] [(1,[.own 1001])] (.int .i64 r.1) [(1501,⟨List.map Agent.ds r.2.agents,some 5,0,false⟩)] [(1,[.own 1501])] :=by
 unfold CZ at h
 refine agF Tryz.func65 mixed (h:=Z ?_)
 replace h:=AB h; obtain⟨u,w,h⟩:=h
 refine AI (Ls _ _ w) (Z ?_)
 refine AF ?_
 refine CF (Fm rfl rfl (RQ fuel a0 a1 a2 a3 u [] a5 _ h):) (.one ⟨_,.cell 2006 4 2000000000 (some 2) false _ (by simp only [go_sem]; rfl) (by rfl) (by simp only [go_sem]) (.done _),[(1000001000,1001),(1000001001,32064),(1000001002,2000000000)],[(1,1),(1000001500,2006)],?_⟩)
 simp only [go_sem]
 all_goals try rfl
theorem Lt (n:Nat):(∀a2 u w y q r,Bs n a2 u w y q=some r→DF Tryz.prog Tryz.f64 [1,1,1,1,1,1,1,1,1,0] (.tup []) [(1501,⟨List.map Agent.ds r.agents,some 5,0,false⟩)] [(1,[.own 1501])] ⟨[(0,.box 1 0),(2,.int .i64 a2),(8,.int .i64 (u.ports.length:Int)),(10,.int .i64 w.1),(13,.int .i64 q)],[(1000002000,some ⟨List.map Agent.ds y,some 5,0,false⟩)],[(1,some [.own 1000002000])]⟩):=by
 induction n with
 |zero=>exact((fun _ _ _ _ _ _ h=>by rw [Bs] at h; cases h))
 | succ n ih=>
  have ih0:=ih
  ·intro a2 u w y q r h
   rw [Bs] at h
   refine A5 rfl rfl (Z ?_)
   refine AZ (Z ?_)
   refine AD h (fun h=>Z ?_) (fun h=>Z ?_)
   ·refine AF ?_
    replace h:=AB h; obtain⟨g,j,h⟩:=h
    refine AI (AT _ _ _ j) (Z ?_)
    replace h:=AB h; obtain⟨k,b,h⟩:=h
    refine AI (AT _ _ _ b) (Z ?_)
    replace h:=AB h; obtain⟨d,c,h⟩:=h
    refine caG ⟨[],[(1001,1000002000)],[(1,1,0)],[(1501,272128)],[],true⟩ (Ch _ _ _ _ c) (Z ?_)
    refine AF ?_
    exact lpG (ih0 a2 u w d.agents (IntKind.i64.wrap (q+1)) _ h) [(1000002000,272128)] [(1,1)]
   ·cases h
    refine BB (.done _) [(1501,1000002000)] [(1,1)] ?_
    simp only [go_sem]
theorem Lu (n:Nat):(∀a1 a2 u w y q g j r,Bc n a1 a2 u w y q g j=some r→DF Tryz.prog Tryz.f64 [1,1,1,1,1,0,1,0] (.tup []) [(1501,⟨List.map Agent.ds r.agents,some 5,0,false⟩)] [(1,[.own 1501])] ⟨[(0,.box 1 0),(1,.int .i64 a1),(2,.int .i64 a2),(6,.int .i64 u.level),(8,.int .i64 (w.ports.length:Int)),(9,.int .i64 y.1),(10,.int .i64 q.1),(11,.int .i64 j)],[(1000001000,some ⟨List.map Agent.ds g,some 5,0,false⟩)],[(1,some [.own 1000001000])]⟩):=by
 induction n with
 |zero=>exact((fun _ _ _ _ _ _ _ _ _ h=>by rw [Bc] at h; cases h))
 | succ n ih=>
  have ih0:=ih
  ·intro a1 a2 u w y q g j r h
   rw [Bc] at h
   refine A5 rfl rfl (Z ?_)
   refine AZ (Z ?_)
   refine AD h (fun h=>Z ?_) (fun h=>Z ?_)
   ·refine AF ?_
    replace h:=AB h; obtain⟨k,b,h⟩:=h
    refine caG ⟨[],[(1001,1000001000)],[(1,1,0)],[(1501,144032)],[],true⟩ (Dm _ _ _ _ _ _ _ b) (Z ?_)
    refine AF ?_
    replace h:=AB h; obtain⟨d,c,h⟩:=h
    refine AI (AT _ _ _ c) (Z ?_)
    replace h:=AB h; obtain⟨e,i,h⟩:=h
    refine AI (AT _ _ _ i) (Z ?_)
    replace h:=AB h; obtain⟨l,t,h⟩:=h
    refine caG ⟨[],[(1001,144032)],[(1,1,0)],[(1501,160096)],[],true⟩ (FU _ _ _ _ t) (Z ?_)
    refine AF ?_
    replace h:=AB h; obtain⟨s,o,h⟩:=h
    refine AI (AT _ _ _ o) (Z ?_)
    replace h:=AB h; obtain⟨z,u1,h⟩:=h
    refine AI (AT _ _ _ u1) (Z ?_)
    replace h:=AB h; obtain⟨u2,u3,h⟩:=h
    refine caG ⟨[],[(1001,160096)],[(1,1,0)],[(1501,176096)],[],true⟩ (FU _ _ _ _ u3) (Z ?_)
    refine AF ?_
    exact lpG (ih0 a1 a2 u w y q u2.agents (IntKind.i64.wrap (j+1)) _ h) [(1000001000,176096)] [(1,1)]
   ·refine AF ?_
    replace h:=AB h; obtain⟨u4,u5,h⟩:=h
    refine AI (AT _ _ _ u5) (Z ?_)
    replace h:=AB h; obtain⟨u6,u7,h⟩:=h
    refine AI (AT _ _ _ u7) (Z ?_)
    replace h:=AB h; obtain⟨u8,u9,h⟩:=h
    refine caG ⟨[],[(1001,1000001000)],[(1,1,0)],[(1501,192080)],[],true⟩ (Ch _ _ _ _ u9) (Z ?_)
    refine AF ?_
    replace h:=AB h; obtain⟨u10,u11,h⟩:=h
    refine AI (AT _ _ _ u11) (Z ?_)
    replace h:=AB h; obtain⟨u12,u13,h⟩:=h
    refine AI (AT _ _ _ u13) (Z ?_)
    replace h:=AB h; obtain⟨u14,u15,h⟩:=h
    refine caG ⟨[],[(1001,192080)],[(1,1,0)],[(1501,208080)],[],true⟩ (Ch _ _ _ _ u15) (Z ?_)
    refine AF ?_
    exact loG (Lt fuel a2 w q u14.agents 1 _ h) [(1000002000,208080)] [(1,1)]
theorem OL (a0 a1 a2 r) (h:E9 a0 a1 a2=some r):AG Tryz.prog 64 [.box 1 0,.int .i64 a1,.int .i64 a2] [(1001,⟨List.map Agent.ds a0.agents,some 5,0,false⟩)] [(1,[.own 1001])] (.tup []) [(1501,⟨List.map Agent.ds r.agents,some 5,0,false⟩)] [(1,[.own 1501])] :=by
 unfold E9 at h
 refine agF Tryz.func64 mixed (h:=Z ?_)
 replace h:=AB h; obtain⟨u,w,h⟩:=h
 refine AM w (Agent.ds_len _) (Z ?_)
 refine Ac (AX w) (Z ?_)
 replace h:=AB h; obtain⟨y,q,h⟩:=h
 refine AM q (Agent.ds_len _) (Z ?_)
 replace h:=AB h; obtain⟨g,j,h⟩:=h
 refine LI (by simp only [AX q,Agent.ds_eq,go_sem,Nat.reduceEqDiff,reduceIte] <;> rfl) (DK _ _ j) (Z ?_)
 refine AF ?_
 replace h:=AB h; obtain⟨k,b,h⟩:=h
 refine caG ⟨[],[(1001,1001)],[(1,1,0)],[(1501,64160)],[],false⟩ (Dm _ _ _ _ _ _ _ b) (Z ?_)
 refine AF ?_
 replace h:=AB h; obtain⟨d,c,h⟩:=h
 refine caG ⟨[],[(1001,64160)],[(1,1,0)],[(1501,80160)],[],false⟩ (Dm _ _ _ _ _ _ _ c) (Z ?_)
 refine AF ?_
 exact loG (Lu fuel a1 a2 u g k d d.2.agents 1 _ h) [(1000001000,80160)] [(1,1)]
theorem GC (a0 r) (h:Fe a0=some r):AC Tryz.prog 149 [.int .i64 a0] (.int .i64 r):=by
 unfold Fe at h
 refine acF Tryz.func149 mixed (h:=Z ?_)
 cases h
 simp only [go_sem]
theorem OM (a0 r) (h:Jh a0=some r):AC Tryz.prog 150 [.bool a0] (.int .i64 r):=by
 unfold Jh at h
 refine acF Tryz.func150 mixed (h:=Z ?_)
 refine AD h (fun h=>Z ?_) (fun h=>Z ?_)
 ·cases h
  simp only [go_sem]
 ·refine AF ?_
  cases h
  simp only [go_sem]
theorem T0 (a0 a1 a2 r) (h:Ji a0 a1 a2=some r):AC Tryz.prog 113 [.int .i64 a0,.int .i64 a1,.int .i64 a2] (.int .i64 r):=by
 unfold Ji at h
 refine acF Tryz.func113 mixed (h:=Z ?_)
 replace h:=AB h; obtain⟨u,w,h⟩:=h
 refine AI (GC _ _ w) (Z ?_)
 refine AF ?_
 replace h:=AB h; obtain⟨y,q,h⟩:=h
 refine AI (GC _ _ q) (Z ?_)
 refine AF ?_
 refine AD h (fun h=>Z ?_) (fun h=>Z ?_)
 ·replace h:=AB h; obtain⟨g,j,h⟩:=h
  refine AI (GC _ _ j) (Z ?_)
  refine AF ?_
  cases h
  simp only [go_sem]
 ·refine AD h (fun h=>Z ?_) (fun h=>Z ?_)
  ·replace h:=AB h; obtain⟨k,b,h⟩:=h
   refine AI (GC _ _ b) (Z ?_)
   refine AF ?_
   cases h
   simp only [go_sem]
  ·refine AD h (fun h=>Z ?_) (fun h=>Z ?_)
   ·replace h:=AB h; obtain⟨d,c,h⟩:=h
    refine AI (GC _ _ c) (Z ?_)
    refine AF ?_
    cases h
    simp only [go_sem]
   ·refine AD h (fun h=>Z ?_) (fun h=>Z ?_)
    ·refine AD h (fun h=>Z ?_) (fun h=>Z ?_)
     ·cases h
      simp only [go_sem]
     ·refine AF ?_
      replace h:=AB h; obtain⟨e,i,h⟩:=h
      refine Al (X7 i) (Z ?_)
      replace h:=AB h; obtain⟨l,t,h⟩:=h
      refine AI (GC _ _ t) (Z ?_)
      refine AF ?_
      cases h
      simp only [go_sem]
    ·refine AD h (fun h=>Z ?_) (fun h=>Z ?_)
     ·replace h:=AB h; obtain⟨s,o,h⟩:=h
      refine AI (OM _ _ o) (Z ?_)
      refine AF ?_
      cases h
      simp only [go_sem]
     ·refine AD h (fun h=>Z ?_) (fun h=>Z ?_)
      ·replace h:=AB h; obtain⟨z,u1,h⟩:=h
       refine AI (OM _ _ u1) (Z ?_)
       refine AF ?_
       cases h
       simp only [go_sem]
      ·refine AF ?_
       cases h
       simp only [go_sem]
theorem Pq (a0 a1 a2 r) (h:FP a0 a1 a2=some r):AG Tryz.prog 67 [.box 1 0,.int .i64 a1,.int .i64 a2] [(1001,⟨List.map Agent.ds a0.agents,some 5,0,false⟩)] [(1,[.own 1001])] (.tup []) [(1501,⟨List.map Agent.ds r.agents,some 5,0,false⟩)] [(1,[.own 1501])] :=by
 unfold FP at h
 refine agF Tryz.func67 mixed (h:=Z ?_)
 replace h:=AB h; obtain⟨u,w,h⟩:=h
 refine AM w (Agent.ds_len _) (Z ?_)
 replace h:=AB h; obtain⟨y,q,h⟩:=h
 refine LI (by simp only [AX w,Agent.ds_eq,go_sem,Nat.reduceEqDiff,reduceIte] <;> rfl) (DK _ _ q) (Z ?_)
 refine AF ?_
 replace h:=AB h; obtain⟨g,j,h⟩:=h
 refine AM j (Agent.ds_len _) (Z ?_)
 refine Ac (AX j) (Z ?_)
 refine AD h (fun h=>Z ?_) (fun h=>Z ?_)
 ·refine Aa [false,false,false,false,false,false,false,false,false,true,true] (Tr.sq [9,10] .fin) (by kernel_rfl) (Z ?_)
  replace h:=AB h; obtain⟨k,b,h⟩:=h
  refine AM b rfl (Z ?_)
  refine Ac (AX b) (Z ?_)
  replace h:=AB h; obtain⟨d,c,h⟩:=h
  refine AI (T0 _ _ _ _ c) (Z ?_)
  replace h:=AB h; obtain⟨e,i,h⟩:=h
  refine caG ⟨[],[(1001,1001)],[(1,1,0)],[(1501,64144)],[],true⟩ (Dm _ _ _ _ _ _ _ i) (Z ?_)
  refine AF ?_
  replace h:=AB h; obtain⟨l,t,h⟩:=h
  refine AI (AT _ _ _ t) (Z ?_)
  replace h:=AB h; obtain⟨s,o,h⟩:=h
  refine AI (AT _ _ _ o) (Z ?_)
  replace h:=AB h; obtain⟨z,u1,h⟩:=h
  refine caG ⟨[],[(1001,64144)],[(1,1,0)],[(1501,80080)],[],true⟩ (Ch _ _ _ _ u1) (Z ?_)
  refine AF ?_
  cases h
  refine BB (.done _) [(1501,80080)] [(1,1)] ?_
  simp only [go_sem]
 ·refine AF ?_
  replace h:=AB h; obtain⟨u2,u3,h⟩:=h
  refine caG ⟨[],[(1001,1001)],[(1,1,0)],[(1501,96112)],[],false⟩ (Dm _ _ _ _ _ _ _ u3) (Z ?_)
  refine AF ?_
  replace h:=AB h; obtain⟨u4,u5,h⟩:=h
  refine AI (AT _ _ _ u5) (Z ?_)
  replace h:=AB h; obtain⟨u6,u7,h⟩:=h
  refine AI (AT _ _ _ u7) (Z ?_)
  replace h:=AB h; obtain⟨u8,u9,h⟩:=h
  refine caG ⟨[],[(1001,96112)],[(1,1,0)],[(1501,112080)],[],true⟩ (Ch _ _ _ _ u9) (Z ?_)
  refine AF ?_
  replace h:=AB h; obtain⟨u10,u11,h⟩:=h
  refine AI (AT _ _ _ u11) (Z ?_)
  replace h:=AB h; obtain⟨u12,u13,h⟩:=h
  refine AI (AT _ _ _ u13) (Z ?_)
  replace h:=AB h; obtain⟨u14,u15,h⟩:=h
  refine caG ⟨[],[(1001,112080)],[(1,1,0)],[(1501,128080)],[],true⟩ (Ch _ _ _ _ u15) (Z ?_)
  cases h
  refine BB (.done _) [(1501,128080)] [(1,1)] ?_
  simp only [go_sem]
theorem JF (a0:Net) (a2:Int) (u:Agent) (w:Int) (r:Net) (h:FA a0 a2 u w=some r):DF Tryz.prog Tryz.f68 [1,0,1,0,1,1] (.tup []) [(1501,⟨List.map Agent.ds r.agents,some 5,0,false⟩)] [(1,[.own 1501])] ⟨[(0,.box 1 0),(2,.int .i64 a2),(6,.box 1000000500 0),(7,.int .i64 w)],[(1000000000,some ⟨List.map Agent.ds a0.agents,some 5,0,false⟩),(1000000001,some ⟨List.map AS u.data,some 1,0,false⟩),(1000000002,some ⟨List.map Port.ds u.ports,some 2,0,false⟩)],[(1,some [.own 1000000000]),(1000000500,some [.int .i64 u.kind,.int .i64 u.level,.int .i64 u.value,.own 1000000001,.own 1000000002])]⟩:=by
 unfold FA at h
 refine A5 rfl rfl (Z ?_)
 replace h:=AB h; obtain⟨y,q,h⟩:=h
 refine caG ⟨[],[(1001,1000000000)],[(1,1,0)],[(1501,96064)],[],true⟩ (Dm _ _ _ _ _ _ _ q) (Z ?_)
 refine AF ?_
 replace h:=AB h; obtain⟨g,j,h⟩:=h
 refine AI (AT _ _ _ j) (Z ?_)
 replace h:=AB h; obtain⟨k,b,h⟩:=h
 refine AI (AT _ _ _ b) (Z ?_)
 replace h:=AB h; obtain⟨d,c,h⟩:=h
 refine caG ⟨[],[(1001,96064)],[(1,1,0)],[(1501,112080)],[],true⟩ (Ch _ _ _ _ c) (Z ?_)
 refine AF ?_
 cases h
 refine BB (.done _) [(1501,112080)] [(1,1)] ?_
 simp only [go_sem]
theorem ON (n:Nat):(∀a1 a2 u w y q g j r,Cm n a1 a2 u w y q g j=some r→DF Tryz.prog Tryz.f68 [1,1,1,1,1,0,1,0] (.tup []) [(1501,⟨List.map Agent.ds r.agents,some 5,0,false⟩)] [(1,[.own 1501])] ⟨[(0,.box 1 0),(1,.int .i64 a1),(2,.int .i64 a2),(6,.box 1000002500 0),(9,.int .i64 w),(11,.box 1000002501 0),(12,.int .i64 j)],[(1000002000,some ⟨List.map Agent.ds y,some 5,0,false⟩),(1000002001,some ⟨List.map AS u.data,some 1,0,false⟩),(1000002002,some ⟨List.map Port.ds u.ports,some 2,0,false⟩)],[(1,some [.own 1000002000]),(1000002500,some [.int .i64 u.kind,.int .i64 u.level,.int .i64 u.value,.own 1000002001,.own 1000002002]),(1000002501,some [.int .i64 q,.int .i64 g])]⟩):=by
 induction n with
 |zero=>exact((fun _ _ _ _ _ _ _ _ _ h=>by rw [Cm] at h; cases h))
 | succ n ih=>
  have ih0:=ih
  ·intro a1 a2 u w y q g j r h
   rw [Cm] at h
   refine A5 rfl rfl (Z ?_)
   refine AZ (Z ?_)
   refine AD h (fun h=>Z ?_) (fun h=>Z ?_)
   ·refine AF ?_
    replace h:=AB h; obtain⟨k,b,h⟩:=h
    refine caG ⟨[],[(1001,1000002000)],[(1,1,0)],[(1501,224048)],[],true⟩ (Dm _ _ _ _ _ _ _ b) (Z ?_)
    refine AF ?_
    refine Aa [false,false,false,false,true] (Tr.sq [4] .fin) (by kernel_rfl) (Z ?_)
    replace h:=AB h; obtain⟨d,c,h⟩:=h
    refine AI (AT _ _ _ c) (Z ?_)
    replace h:=AB h; obtain⟨e,i,h⟩:=h
    refine caG ⟨[],[(1001,224048)],[(1,1,0)],[(1501,240064)],[],true⟩ (FU _ _ _ _ i) (Z ?_)
    refine AF ?_
    replace h:=AB h; obtain⟨l,t,h⟩:=h
    refine AI (AT _ _ _ t) (Z ?_)
    replace h:=AB h; obtain⟨s,o,h⟩:=h
    refine AI (AT _ _ _ o) (Z ?_)
    replace h:=AB h; obtain⟨z,u1,h⟩:=h
    refine caG ⟨[],[(1001,240064)],[(1,1,0)],[(1501,256096)],[],true⟩ (Ch _ _ _ _ u1) (Z ?_)
    refine AF ?_
    replace h:=AB h; obtain⟨u2,u3,h⟩:=h
    refine AI (AT _ _ _ u3) (Z ?_)
    refine AF ?_
    exact lpG (ih0 a1 a2 u w z.agents u2.agent u2.slot (IntKind.i64.wrap (j+1)) _ h) [(1000002000,256096),(1000002001,1000002001),(1000002002,1000002002)] [(1,1),(1000002500,1000002500),(1000002501,1000002501)]
   ·refine AF ?_
    refine Aa [false,false,false,false,true] (Tr.sq [4] .fin) (by kernel_rfl) (Z ?_)
    replace h:=AB h; obtain⟨u4,u5,h⟩:=h
    refine AI (AT _ _ _ u5) (Z ?_)
    replace h:=AB h; obtain⟨u6,u7,h⟩:=h
    refine caG ⟨[],[(1001,1000002000)],[(1,1,0)],[(1501,288064)],[],true⟩ (Ch _ _ _ _ u7) (Z ?_)
    cases h
    refine BB (.done _) [(1501,288064)] [(1,1)] ?_
    simp only [go_sem]
theorem RR (a0 a1 a2 r) (h:EH a0 a1 a2=some r):AG Tryz.prog 68 [.box 1 0,.int .i64 a1,.int .i64 a2] [(1001,⟨List.map Agent.ds a0.agents,some 5,0,false⟩)] [(1,[.own 1001])] (.tup []) [(1501,⟨List.map Agent.ds r.agents,some 5,0,false⟩)] [(1,[.own 1501])] :=by
 unfold EH at h
 refine agF Tryz.func68 mixed (h:=Z ?_)
 replace h:=AB h; obtain⟨u,w,h⟩:=h
 refine AM w (Agent.ds_len _) (Z ?_)
 replace h:=AB h; obtain⟨y,q,h⟩:=h
 refine LI (by simp only [AX w,Agent.ds_eq,go_sem,Nat.reduceEqDiff,reduceIte] <;> rfl) (DK _ _ q) (Z ?_)
 refine AF ?_
 refine AD h (fun h=>Z ?_) (fun h=>Z ?_)
 ·replace h:=AB h; obtain⟨g,j,h⟩:=h
  refine AM j rfl (Z ?_)
  refine Ac (AX j) (Z ?_)
  replace h:=AB h; obtain⟨k,b,h⟩:=h
  refine AM b (Agent.ds_len _) (Z ?_)
  refine Ac (AX b) (Z ?_)
  refine AD h (fun h=>Z ?_) (fun h=>Z ?_)
  ·replace h:=AB h; obtain⟨d,c,h⟩:=h
   refine AM c rfl (Z ?_)
   refine Ac (AX c) (Z ?_)
   exact BH (JF a0 a2 y d _ h) [(1000000000,1001),(1000000001,16096),(1000000002,16097)] [(1,1),(1000000500,1007)]
  ·exact BH (JF a0 a2 y g _ h) [(1000000000,1001),(1000000001,16096),(1000000002,16097)] [(1,1),(1000000500,1007)]
 ·refine AF ?_
  replace h:=AB h; obtain⟨e,i,h⟩:=h
  refine AM i (Agent.ds_len _) (Z ?_)
  replace h:=AB h; obtain⟨l,t,h⟩:=h
  refine LI (by simp only [AX i,Agent.ds_eq,go_sem,Nat.reduceEqDiff,reduceIte] <;> rfl) (Iq _ _ t) (Z ?_)
  refine AF ?_
  refine Aa [false,false,false,false,false,false,false,false,false,false,false,false,false,false,false,true,true] (Tr.sq [15,16] .fin) (by kernel_rfl) (Z ?_)
  replace h:=AB h; obtain⟨s,o,h⟩:=h
  refine AM o (Agent.ds_len _) (Z ?_)
  refine Ac (AX o) (Z ?_)
  replace h:=AB h; obtain⟨z,u1,h⟩:=h
  refine AM u1 rfl (Z ?_)
  refine Ac (AX u1) (Z ?_)
  replace h:=AB h; obtain⟨u2,u3,h⟩:=h
  refine caG ⟨[],[(1001,1001)],[(1,1,0)],[(1501,144240)],[],true⟩ (Dm _ _ _ _ _ _ _ u3) (Z ?_)
  refine AF ?_
  replace h:=AB h; obtain⟨u4,u5,h⟩:=h
  refine AI (AT _ _ _ u5) (Z ?_)
  refine AF ?_
  exact loG (ON fuel a1 a2 y l u2.2.agents u4.agent u4.slot 1 _ h) [(1000002000,144240),(1000002001,16096),(1000002002,16097)] [(1,1),(1000002500,1007),(1000002501,10002)]
theorem MV (n:Nat):(∀a0 a1 a3 u w y r,BK n a0 a1 a3 u w y=some r→DF Tryz.prog Tryz.f69 [1,1,0,1,0] (.tup []) [(1501,⟨List.map Agent.ds r.agents,some 5,0,false⟩)] [(1,[.own 1501])] ⟨[(0,.rop [.ro (a0.agents.map Agent.ds)] 0),(1,.box 1 0),(3,.int .i64 a3),(8,.int .i64 u.level),(9,.int .i64 (IntKind.i64.wrap ((a1.agents.length:Int) - 1))),(10,.int .i64 y)],[(1000006000,some ⟨List.map Agent.ds w,some 5,0,false⟩)],[(1,some [.own 1000006000])]⟩)∧
    (∀a0 a1 a3 w y u q g r,Cu n a0 a1 a3 w y u q g=some r→DF Tryz.prog Tryz.f69 [1,1,0,1,0,0,1,0,0,1,1] (.tup []) [(1501,⟨List.map Agent.ds r.agents,some 5,0,false⟩)] [(1,[.own 1501])] ⟨[(0,.rop [.ro (a0.agents.map Agent.ds)] 0),(1,.box 1 0),(3,.int .i64 a3),(8,.int .i64 u.level),(9,.int .i64 (IntKind.i64.wrap ((a1.agents.length:Int) - 1))),(10,.int .i64 y),(11,.box 1000007500 0)],[(1000007000,some ⟨List.map Agent.ds w,some 5,0,false⟩),(1000007001,some ⟨List.map AS q.data,some 1,0,false⟩),(1000007002,some ⟨List.map Port.ds q.ports,some 2,0,false⟩)],[(1,some [.own 1000007000]),(1000007500,some [.int .i64 q.kind,.int .i64 g,.int .i64 q.value,.own 1000007001,.own 1000007002])]⟩)∧
    (∀a0 a1 a3 w y g u q j k r,CT n a0 a1 a3 w y g u q j k=some r→DF Tryz.prog Tryz.f69 [1,1,0,1,0,0,1,0,0,1,1,0,1,0] (.tup []) [(1501,⟨List.map Agent.ds r.agents,some 5,0,false⟩)] [(1,[.own 1501])] ⟨[(0,.rop [.ro (a0.agents.map Agent.ds)] 0),(1,.box 1 0),(3,.int .i64 a3),(8,.int .i64 u.level),(9,.int .i64 (IntKind.i64.wrap ((a1.agents.length:Int) - 1))),(10,.int .i64 y),(11,.box 1000011500 0),(12,.int .i64 k)],[(1000011000,some ⟨List.map Agent.ds w,some 5,0,false⟩),(1000011001,some ⟨List.map AS q.data,some 1,0,false⟩),(1000011002,some ⟨List.map Port.ds j,some 2,0,false⟩)],[(1,some [.own 1000011000]),(1000011500,some [.int .i64 q.kind,.int .i64 g,.int .i64 q.value,.own 1000011001,.own 1000011002])]⟩):=by
 induction n with
 |zero=>exact⟨(fun _ _ _ _ _ _ _ h=>by rw [BK] at h; cases h),(fun _ _ _ _ _ _ _ _ _ h=>by rw [Cu] at h; cases h),(fun _ _ _ _ _ _ _ _ _ _ _ h=>by rw [CT] at h; cases h)⟩
 | succ n ih=>
  obtain⟨ih0,ih1,ih2⟩:=ih
  refine⟨?_,?_,?_⟩
  ·intro a0 a1 a3 u w y r h
   rw [BK] at h
   refine A5 rfl rfl (Z ?_)
   refine AZ (Z ?_)
   refine AD h (fun h=>Z ?_) (fun h=>Z ?_)
   ·refine AF ?_
    replace h:=AB h; obtain⟨b,d,h⟩:=h
    refine AM d (Agent.ds_len _) (Z ?_)
    replace h:=AB h; obtain⟨q,c,h⟩:=h
    refine AI (DK _ _ c) (Z ?_)
    refine AF ?_
    replace h:=AB h; obtain⟨e,i,h⟩:=h
    refine AI (JP _ _ i) (Z ?_)
    refine AF ?_
    refine AD h (fun h=>Z ?_) (fun h=>Z ?_)
    ·exact BH (ih1 a0 a1 a3 w y u q (IntKind.i64.wrap (q.level+u.level)) _ h) [(1000007000,1000006000),(1000007001,96096),(1000007002,96097)] [(1,1),(1000007500,6007)]
    ·exact BH (ih1 a0 a1 a3 w y u q q.level _ h) [(1000007000,1000006000),(1000007001,96096),(1000007002,96097)] [(1,1),(1000007500,6007)]
   ·refine AF ?_
    replace h:=AB h; obtain⟨l,t,h⟩:=h
    refine AM t (Agent.ds_len _) (Z ?_)
    replace h:=AB h; obtain⟨s,o,h⟩:=h
    refine AM o (Port.ds_len _) (Z ?_)
    refine AF ?_
    replace h:=AB h; obtain⟨z,u1,h⟩:=h
    refine AI (AT _ _ _ u1) (Z ?_)
    replace h:=AB h; obtain⟨u2,u3,h⟩:=h
    refine AI (AT _ _ _ u3) (Z ?_)
    replace h:=AB h; obtain⟨u4,u5,h⟩:=h
    refine caG ⟨[],[(1001,1000006000)],[(1,1,0)],[(1501,240160)],[],true⟩ (FU _ _ _ _ u5) (Z ?_)
    cases h
    refine BB (.done _) [(1501,240160)] [(1,1)] ?_
    simp only [go_sem]
  ·intro a0 a1 a3 w y u q g r h
   rw [Cu] at h
   refine A5 rfl rfl (Z ?_)
   exact loG (ih2 a0 a1 a3 w y g u q q.ports 0 _ h) [(1000011000,1000007000),(1000011001,1000007001),(1000011002,1000007002)] [(1,1),(1000011500,1000007500)]
  ·intro a0 a1 a3 w y g u q j k r h
   rw [CT] at h
   refine A5 rfl rfl (Z ?_)
   refine AZ (Z ?_)
   refine AD h (fun h=>Z ?_) (fun h=>Z ?_)
   ·refine AF ?_
    replace h:=AB h; obtain⟨u6,u7,h⟩:=h
    refine AM u7 (Port.ds_len _) (Z ?_)
    refine Ac (AX u7) (Z ?_)
    replace h:=AB h; obtain⟨u8,u9,h⟩:=h
    refine AM u9 (Port.ds_len _) (Z ?_)
    replace h:=AB h; obtain⟨u10,u11,h⟩:=h
    refine Ac (AX u9) (Z ?_)
    refine A6 (u10.map Port.ds) (by rw [← BW u11]; simp only [List.map_set,go_sem,Port.ds_eq]) (Z ?_)
    refine AF ?_
    exact lpG (ih2 a0 a1 a3 w y g u q u10 (IntKind.i64.wrap (k+1)) _ h) [(1000011000,1000011000),(1000011001,1000011001),(1000011002,1000011002)] [(1,1),(1000011500,1000011500)]
   ·refine AF ?_
    refine Aa [false,false,false,false,false,false,false,true,true,true,true] (Tr.sq [7,8,9,10] .fin) (by kernel_rfl) (Z ?_)
    replace h:=AB h; obtain⟨u12,u13,h⟩:=h
    have hq_:=Av u13
    obtain⟨hv13007a,hv13007b⟩:=hq_
    refine Cz false (Z ?_)
    refine Al (by refine⟨?_,?_⟩ <;> (try simp only [List.length_map,List.length_append,List.length_cons,List.length_nil] at*) <;> (try unfold maxLen) <;> omega) (Z ?_)
    refine A6 (u12.map Agent.ds) (by rw [← hv13007b]; simp only [List.map_append,List.map_cons,List.map_nil,List.nil_append,List.append_nil,go_sem,Agent.ds_eq]) (Z ?_)
    refine AF ?_
    exact lpG (ih0 a0 a1 a3 u u12 (IntKind.i64.wrap (y+1)) _ h) [(1000006000,208112)] [(1,1)]
def NP (n:Nat):=(MV n).1
theorem RS (a0 a1 a2 a3 r) (h:HJ a0 a1 a2 a3=some r):AG Tryz.prog 69 [.rop [.ro (a0.agents.map Agent.ds)] 0,.box 1 0,.int .i64 a2,.int .i64 a3] [(1001,⟨List.map Agent.ds a1.agents,some 5,0,false⟩)] [(1,[.own 1001])] (.tup []) [(1501,⟨List.map Agent.ds r.agents,some 5,0,false⟩)] [(1,[.own 1501])] :=by
 unfold HJ at h
 refine agF Tryz.func69 mixed (h:=Z ?_)
 replace h:=AB h; obtain⟨u,w,h⟩:=h
 refine AM w (Agent.ds_len _) (Z ?_)
 refine Ac (AX w) (Z ?_)
 exact loG (NP fuel a0 a1 a3 u a1.agents 1 _ h) [(1000006000,1001)] [(1,1)]
theorem Lv (a0 a1 r) (h:Dk a0 a1=some r):AG Tryz.prog 70 [.box 1 0,.int .i64 a1] [(1001,⟨List.map Agent.ds a0.agents,some 5,0,false⟩)] [(1,[.own 1001])] (.tup []) [(1501,⟨List.map Agent.ds r.agents,some 5,0,false⟩)] [(1,[.own 1501])] :=by
 unfold Dk at h
 refine agF Tryz.func70 mixed (h:=Z ?_)
 replace h:=AB h; obtain⟨u,w,h⟩:=h
 refine AM w (Agent.ds_len _) (Z ?_)
 replace h:=AB h; obtain⟨y,q,h⟩:=h
 refine Ac (AX w) (Z ?_)
 refine A6 (y.map Agent.ds) (by rw [← BW q]; simp only [List.map_set,go_sem,Agent.ds_eq]) (Z ?_)
 cases h
 refine BB (.done _) [(1501,1001)] [(1,1)] ?_
 simp only [go_sem]
theorem Dz (u:Int × Int) (w:Int) (y:List Agent) (r:Int × Net) (h:Ce u w y=some r):DF Tryz.prog Tryz.f27 [1,1,1,1,1,1,1] (.int .i64 r.1) [(1501,⟨List.map Agent.ds r.2.agents,some 5,0,false⟩)] [(1,[.own 1501])] ⟨[(1,.box 1 0),(2,.int .i64 u.1),(3,.int .i64 u.2),(11,.int .i64 w)],[(1000002000,some ⟨List.map Agent.ds y,some 5,0,false⟩)],[(1,some [.own 1000002000])]⟩:=by
 unfold Ce at h
 refine A5 rfl rfl (Z ?_)
 replace h:=AB h; obtain⟨q,g,h⟩:=h
 refine caG ⟨[],[(1001,1000002000)],[(1,1,0)],[(1501,464032)],[],true⟩ (Lv _ _ _ g) (Z ?_)
 refine AF ?_
 refine AD h (fun h=>Z ?_) (fun h=>Z ?_)
 ·replace h:=AB h; obtain⟨j,k,h⟩:=h
  refine caG ⟨[],[(1001,464032)],[(1,1,0)],[(1501,496032)],[],true⟩ (Lv _ _ _ k) (Z ?_)
  refine AF ?_
  cases h
  refine BB (.done _) [(1501,496032)] [(1,1)] ?_
  simp only [go_sem]
 ·refine AF ?_
  cases h
  refine BB (.done _) [(1501,464032)] [(1,1)] ?_
  simp only [go_sem]
theorem R1 (n:Nat):(∀u w y q g r,Ds n u w y q g=some r→DF Tryz.prog Tryz.f27 [1,1,1,1,1,1,0,1,0,1,1,1,1,1,0,1,1,0] (.int .i64 r.1) [(1501,⟨List.map Agent.ds r.2.agents,some 5,0,false⟩)] [(1,[.own 1501])] ⟨[(1,.box 1 0),(2,.int .i64 u.1),(3,.int .i64 u.2),(11,.int .i64 w),(12,.int .i64 (y.ports.length:Int)),(13,.int .i64 g)],[(1000003000,some ⟨List.map Agent.ds q,some 5,0,false⟩)],[(1,some [.own 1000003000])]⟩):=by
 induction n with
 |zero=>exact((fun _ _ _ _ _ _ h=>by rw [Ds] at h; cases h))
 | succ n ih=>
  have ih0:=ih
  ·intro u w y q g r h
   rw [Ds] at h
   refine A5 rfl rfl (Z ?_)
   refine AZ (Z ?_)
   refine AD h (fun h=>Z ?_) (fun h=>Z ?_)
   ·refine AF ?_
    replace h:=AB h; obtain⟨j,k,h⟩:=h
    refine caG ⟨[],[(1001,1000003000)],[(1,1,0)],[(1501,336016)],[],true⟩ (Dm _ _ _ _ _ _ _ k) (Z ?_)
    refine AF ?_
    replace h:=AB h; obtain⟨b,d,h⟩:=h
    refine AI (AT _ _ _ d) (Z ?_)
    replace h:=AB h; obtain⟨c,e,h⟩:=h
    refine AI (AT _ _ _ e) (Z ?_)
    replace h:=AB h; obtain⟨i,l,h⟩:=h
    refine caG ⟨[],[(1001,336016)],[(1,1,0)],[(1501,352096)],[],true⟩ (Ch _ _ _ _ l) (Z ?_)
    refine AF ?_
    exact lpG (ih0 u w y i.agents (IntKind.i64.wrap (g+1)) _ h) [(1000003000,352096)] [(1,1)]
   ·exact BH (Dz u w q _ h) [(1000002000,1000003000)] [(1,1)]
theorem Mk (a0:List Net) (a1:Net) (u:Int × Int) (w:Int) (y:Bool) (r:Int × Net) (h:Ft a0 a1 u w y=some r):DF Tryz.prog Tryz.f27 [1,1,1,1,1,1,0,1,0,1] (.int .i64 r.1) [(1501,⟨List.map Agent.ds r.2.agents,some 5,0,false⟩)] [(1,[.own 1501])] ⟨[(0,.ro (a0.map Net.ds)),(1,.box 1 0),(2,.int .i64 u.1),(3,.int .i64 u.2),(11,.int .i64 w),(51,.int .i64 w),(52,.bool y)],[(1000000000,some ⟨List.map Agent.ds a1.agents,some 5,0,false⟩)],[(1,some [.own 1000000000])]⟩:=by
 unfold Ft at h
 refine A5 rfl rfl (Z ?_)
 refine AD h (fun h=>Z ?_) (fun h=>Z ?_)
 ·replace h:=AB h; obtain⟨q,g,h⟩:=h
  refine AI (AT _ _ _ g) (Z ?_)
  replace h:=AB h; obtain⟨k,b,h⟩:=h
  refine AI (AT _ _ _ b) (Z ?_)
  replace h:=AB h; obtain⟨d,c,h⟩:=h
  refine caG ⟨[],[(1001,1000000000)],[(1,1,0)],[(1501,192080)],[],true⟩ (OI _ _ _ _ c) (Z ?_)
  refine AF ?_
  replace h:=AB h; obtain⟨e,i,h⟩:=h
  refine AI (AT _ _ _ i) (Z ?_)
  replace h:=AB h; obtain⟨l,t,h⟩:=h
  refine AI (AT _ _ _ t) (Z ?_)
  replace h:=AB h; obtain⟨s,o,h⟩:=h
  refine caG ⟨[],[(1001,192080)],[(1,1,0)],[(1501,208080)],[],true⟩ (OI _ _ _ _ o) (Z ?_)
  exact BH (Dz u w s.agents _ h) [(1000002000,208080)] [(1,1)]
 ·refine AD h (fun h=>Z ?_) (fun h=>Z ?_)
  ·replace h:=AB h; obtain⟨z,u1,h⟩:=h
   refine caG ⟨[],[(1001,1000000000)],[(1,1,0)],[(1501,240048)],[],true⟩ (OL _ _ _ _ u1) (Z ?_)
   exact BH (Dz u w z.agents _ h) [(1000002000,240048)] [(1,1)]
  ·refine AD h (fun h=>Z ?_) (fun h=>Z ?_)
   ·replace h:=AB h; obtain⟨u2,u3,h⟩:=h
    refine AM u3 (Agent.ds_len _) (Z ?_)
    refine Ac (AX u3) (Z ?_)
    refine Ac (E2 (sz:=5) (j:=4) (r:=List.map Port.ds u2.ports) (AX (f:=Agent.ds) u3) (Agent.ds_len _) (by rw [Agent.ds_eq]; rfl)) (Z ?_)
    exact loG (R1 fuel u w u2 a1.agents 1 _ h) [(1000003000,1000000000)] [(1,1)]
   ·refine AD h (fun h=>Z ?_) (fun h=>Z ?_)
    ·replace h:=AB h; obtain⟨u4,u5,h⟩:=h
     refine caG ⟨[],[(1001,1000000000)],[(1,1,0)],[(1501,384048)],[],true⟩ (Pq _ _ _ _ u5) (Z ?_)
     exact BH (Dz u w u4.agents _ h) [(1000002000,384048)] [(1,1)]
    ·refine AD h (fun h=>Z ?_) (fun h=>Z ?_)
     ·replace h:=AB h; obtain⟨u6,u7,h⟩:=h
      refine caG ⟨[],[(1001,1000000000)],[(1,1,0)],[(1501,416048)],[],true⟩ (RR _ _ _ _ u7) (Z ?_)
      exact BH (Dz u w u6.agents _ h) [(1000002000,416048)] [(1,1)]
     ·refine AD h (fun h=>Z ?_) (fun h=>Z ?_)
      ·replace h:=AB h; obtain⟨u8,u9,h⟩:=h
       refine AM u9 (Agent.ds_len _) (Z ?_)
       refine Ac (AX u9) (Z ?_)
       replace h:=AB h; obtain⟨u10,u11,h⟩:=h
       refine AM u11 (Net.ds_len _) (Z ?_)
       replace h:=AB h; obtain⟨u12,u13,h⟩:=h
       refine caG ⟨[],[(1001,1000000000)],[(1,1,0)],[(1501,448208)],[],true⟩ (RS _ _ _ _ _ u13) (Z ?_)
       exact BH (Dz u w u12.agents _ h) [(1000002000,448208)] [(1,1)]
      ·exact BH (Dz u w a1.agents _ h) [(1000002000,1000000000)] [(1,1)]
theorem Xa (a0 a1 a2 a3 r) (h:Hk a0 a1 a2 a3=some r):AG Tryz.prog 27 [.ro (a0.map Net.ds),.box 1 0,.int .i64 a2,.int .i64 a3] [(1001,⟨List.map Agent.ds a1.agents,some 5,0,false⟩)] [(1,[.own 1001])] (.int .i64 r.1) [(1501,⟨List.map Agent.ds r.2.agents,some 5,0,false⟩)] [(1,[.own 1501])] :=by
 unfold Hk at h
 refine agF Tryz.func27 mixed (h:=Z ?_)
 replace h:=AB h; obtain⟨u,w,h⟩:=h
 refine AI (RP _ _ _ _ _ w) (Z ?_)
 refine AF ?_
 refine AD h (fun h=>Z ?_) (fun h=>Z ?_)
 ·cases h
  refine BB (.done _) [(1501,1001)] [(1,1)] ?_
  simp only [go_sem]
 ·refine AF ?_
  replace h:=AB h; obtain⟨y,q,h⟩:=h
  refine AI (OK _ _ q) (Z ?_)
  refine AF ?_
  refine AD h (fun h=>Z ?_) (fun h=>Z ?_)
  ·cases h
   refine BB (.done _) [(1501,1001)] [(1,1)] ?_
   simp only [go_sem]
  ·refine AF ?_
   replace h:=AB h; obtain⟨g,j,h⟩:=h
   refine AI (Mj _ _ _ _ j) (Z ?_)
   refine AF ?_
   refine Aa [] .fin (by kernel_rfl) (Z ?_)
   replace h:=AB h; obtain⟨k,b,h⟩:=h
   refine AM b (Agent.ds_len _) (Z ?_)
   replace h:=AB h; obtain⟨d,c,h⟩:=h
   refine AM c (Agent.ds_len _) (Z ?_)
   replace h:=AB h; obtain⟨e,i,h⟩:=h
   refine LI (by simp only [AX b,AX c,Agent.ds_eq,go_sem,Nat.reduceEqDiff,reduceIte] <;> rfl) (JQ _ _ _ i) (Z ?_)
   refine AF ?_
   refine AD h (fun h=>Z ?_) (fun h=>Z ?_)
   ·exact BH (Mk a0 a1 g e (decide (e=1)) _ h) [(1000000000,1001)] [(1,1)]
   ·exact BH (Mk a0 a1 g e (decide (e=2)) _ h) [(1000000000,1001)] [(1,1)]
theorem OO (n:Nat):(∀a0 u w y r,BX n a0 u w y=some r→DF Tryz.prog Tryz.f28 [1,1,1,1,0,1,0] (.tup []) [(1501,⟨List.map Agent.ds r.agents,some 5,0,false⟩)] [(1,[.own 1501])] ⟨[(0,.box 1 0),(2,.own 1000007001),(5,.own 1000007002),(6,.int .i64 y)],[(1000007000,some ⟨List.map Agent.ds a0.agents,some 5,0,false⟩),(1000007001,some ⟨List.map AS u,some 1,0,false⟩),(1000007002,some ⟨List.map Agent.ds w,some 5,0,false⟩)],[(1,some [.own 1000007000])]⟩)∧
    (∀a0 u w y q g j r,DC n a0 u w y q g j=some r→DF Tryz.prog Tryz.f28 [1,1,1,1,0,1,0,0,1,0,0,1,0,1,0,1,0] (.tup []) [(1501,⟨List.map Agent.ds r.agents,some 5,0,false⟩)] [(1,[.own 1501])] ⟨[(0,.box 1 0),(2,.own 1000011001),(5,.own 1000011002),(6,.int .i64 y),(7,.box 1000011500 0),(8,.int .i64 j)],[(1000011000,some ⟨List.map Agent.ds a0.agents,some 5,0,false⟩),(1000011001,some ⟨List.map AS u,some 1,0,false⟩),(1000011002,some ⟨List.map Agent.ds w,some 5,0,false⟩),(1000011003,some ⟨List.map AS q.data,some 1,0,false⟩),(1000011004,some ⟨List.map Port.ds g,some 2,0,false⟩)],[(1,some [.own 1000011000]),(1000011500,some [.int .i64 q.kind,.int .i64 q.level,.int .i64 q.value,.own 1000011003,.own 1000011004])]⟩):=by
 induction n with
 |zero=>exact⟨(fun _ _ _ _ _ h=>by rw [BX] at h; cases h),(fun _ _ _ _ _ _ _ _ h=>by rw [DC] at h; cases h)⟩
 | succ n ih=>
  obtain⟨ih0,ih1⟩:=ih
  refine⟨?_,?_⟩
  ·intro a0 u w y r h
   rw [BX] at h
   refine A5 rfl rfl (Z ?_)
   refine AZ (Z ?_)
   refine AD h (fun h=>Z ?_) (fun h=>Z ?_)
   ·refine AF ?_
    replace h:=AB h; obtain⟨k,b,h⟩:=h
    refine AM b (Agent.ds_len _) (Z ?_)
    refine Ac (AX b) (Z ?_)
    refine AD h (fun h=>Z ?_) (fun h=>Z ?_)
    ·replace h:=AB h; obtain⟨d,c,h⟩:=h
     refine AM c (Agent.ds_len _) (Z ?_)
     replace h:=AB h; obtain⟨q,e,h⟩:=h
     refine LI (by simp only [AX c,Agent.ds_eq,go_sem,Nat.reduceEqDiff,reduceIte] <;> rfl) (DK _ _ e) (Z ?_)
     refine AF ?_
     exact loG (ih1 a0 u w y q q.ports 0 _ h) [(1000011000,1000007000),(1000011001,1000007001),(1000011002,1000007002),(1000011003,224096),(1000011004,224097)] [(1,1),(1000011500,14007)]
    ·refine AF ?_
     exact lpG (ih0 a0 u w (IntKind.i64.wrap (y+1)) _ h) [(1000007000,1000007000),(1000007001,1000007001),(1000007002,1000007002)] [(1,1)]
   ·refine AF ?_
    cases h
    refine BB (.done _) [(1501,1000007002)] [(1,1)] ?_
    simp only [go_sem]
  ·intro a0 u w y q g j r h
   rw [DC] at h
   refine A5 rfl rfl (Z ?_)
   refine AZ (Z ?_)
   refine AD h (fun h=>Z ?_) (fun h=>Z ?_)
   ·refine AF ?_
    refine Aa [false,false,false,false,false,false,false,false,false,false,false,false,false,false,true] (Tr.sq [14] .fin) (by kernel_rfl) (Z ?_)
    replace h:=AB h; obtain⟨i,l,h⟩:=h
    refine AM l (Port.ds_len _) (Z ?_)
    refine Ac (AX l) (Z ?_)
    replace h:=AB h; obtain⟨t,s,h⟩:=h
    refine AM s rfl (Z ?_)
    refine Ac (AX s) (Z ?_)
    replace h:=AB h; obtain⟨o,z,h⟩:=h
    refine AM z (Port.ds_len _) (Z ?_)
    replace h:=AB h; obtain⟨u1,u2,h⟩:=h
    refine Ac (AX z) (Z ?_)
    refine A6 (u1.map Port.ds) (by rw [← BW u2]; simp only [List.map_set,go_sem,Port.ds_eq]) (Z ?_)
    refine AF ?_
    exact lpG (ih1 a0 u w y q u1 (IntKind.i64.wrap (j+1)) _ h) [(1000011000,1000011000),(1000011001,1000011001),(1000011002,1000011002),(1000011003,1000011003),(1000011004,1000011004)] [(1,1),(1000011500,1000011500)]
   ·refine AF ?_
    replace h:=AB h; obtain⟨u3,u4,h⟩:=h
    have hq_:=Av u4
    obtain⟨hv19003a,hv19003b⟩:=hq_
    refine Cz false (Z ?_)
    refine Al (by refine⟨?_,?_⟩ <;> (try simp only [List.length_map,List.length_append,List.length_cons,List.length_nil] at*) <;> (try unfold maxLen) <;> omega) (Z ?_)
    refine A6 (u3.map Agent.ds) (by rw [← hv19003b]; simp only [List.map_append,List.map_cons,List.map_nil,List.nil_append,List.append_nil,go_sem,Agent.ds_eq]) (Z ?_)
    refine AF ?_
    exact lpG (ih0 a0 u u3 (IntKind.i64.wrap (y+1)) _ h) [(1000007000,1000011000),(1000007001,1000011001),(1000007002,304048)] [(1,1)]
def O5 (n:Nat):=(OO n).1
theorem Ps (n:Nat):(∀a0 u w y r,C4 n a0 u w y=some r→DF Tryz.prog Tryz.f28 [1,1,0,1,0] (.tup []) [(1501,⟨List.map Agent.ds r.agents,some 5,0,false⟩)] [(1,[.own 1501])] ⟨[(0,.box 1 0),(2,.own 1000001001),(3,.int .i64 w),(4,.int .i64 y)],[(1000001000,some ⟨List.map Agent.ds a0.agents,some 5,0,false⟩),(1000001001,some ⟨List.map AS u,some 1,0,false⟩)],[(1,some [.own 1000001000])]⟩):=by
 induction n with
 |zero=>exact((fun _ _ _ _ _ h=>by rw [C4] at h; cases h))
 | succ n ih=>
  have ih0:=ih
  ·intro a0 u w y r h
   rw [C4] at h
   refine A5 rfl rfl (Z ?_)
   refine AZ (Z ?_)
   refine AD h (fun h=>Z ?_) (fun h=>Z ?_)
   ·refine AF ?_
    replace h:=AB h; obtain⟨q,g,h⟩:=h
    have hq_:=Av g
    obtain⟨hv6003a,hv6003b⟩:=hq_
    refine Cz false (Z ?_)
    refine Al (by refine⟨?_,?_⟩ <;> (try simp only [List.length_map,List.length_append,List.length_cons,List.length_nil] at*) <;> (try unfold maxLen) <;> omega) (Z ?_)
    refine A6 (q.map AS) (by rw [← hv6003b]; simp only [List.map_append,List.map_cons,List.map_nil,List.nil_append,List.append_nil,go_sem,slD]) (Z ?_)
    refine AF ?_
    replace h:=AB h; obtain⟨j,k,h⟩:=h
    refine AM k (Agent.ds_len _) (Z ?_)
    refine Ac (AX k) (Z ?_)
    refine AD h (fun h=>Z ?_) (fun h=>Z ?_)
    ·refine AF ?_
     exact lpG (ih0 a0 q (IntKind.i64.wrap (w+1)) (IntKind.i64.wrap (y+1)) _ h) [(1000001000,1000001000),(1000001001,96048)] [(1,1)]
    ·refine AF ?_
     exact lpG (ih0 a0 q w (IntKind.i64.wrap (y+1)) _ h) [(1000001000,1000001000),(1000001001,96048)] [(1,1)]
   ·refine AF ?_
    refine AF ?_
    refine CF (Fm rfl rfl (O5 fuel a0 u [] 0 _ h):) (.one ⟨_,.lit 5 2000000000 9000 0 5 false [] _ _ (by (first|rfl|(simp only [go_sem]; rfl))) (by simp only [go_sem]; rfl) (by (first|rfl|(simp only [go_sem]; rfl))) (by (first|rfl|(simp only [go_sem]; rfl))) (by decide) (by decide) (by simp only [go_sem]) (.done _),[(1000007000,1000001000),(1000007001,1000001001),(1000007002,2000000000)],[(1,1)],?_⟩)
    simp only [go_sem]
    all_goals try rfl
theorem T3 (a0 r) (h:F7 a0=some r):AG Tryz.prog 28 [.box 1 0] [(1001,⟨List.map Agent.ds a0.agents,some 5,0,false⟩)] [(1,[.own 1001])] (.tup []) [(1501,⟨List.map Agent.ds r.agents,some 5,0,false⟩)] [(1,[.own 1501])] :=by
 unfold F7 at h
 refine agF Tryz.func28 mixed (h:=Z ?_)
 refine AF ?_
 refine CF (Fm rfl rfl (Ps fuel a0 [] 0 0 _ h):) (.one ⟨_,.lit 2 2000000000 1000 0 1 false [] _ _ (by (first|rfl|(simp only [go_sem]; rfl))) (by simp only [go_sem]; rfl) (by (first|rfl|(simp only [go_sem]; rfl))) (by (first|rfl|(simp only [go_sem]; rfl))) (by decide) (by decide) (by simp only [go_sem]) (.done _),[(1000001000,1001),(1000001001,2000000000)],[(1,1)],?_⟩)
 simp only [go_sem]
 all_goals try rfl
theorem RT (n:Nat):(∀a0 u w r,FB n a0 u w=some r→Aq Tryz.prog Tryz.f23 [1,1,0,1,0] (.agg (Net.rv r)) ⟨[(0,.rop [.ro (a0.agents.map Agent.ds)] 0),(2,.box 1000001500 0),(3,.box 1000001501 0),(4,.int .i64 w)],[(1000001000,some ⟨List.map Agent.ds u,some 5,0,false⟩)],[(1000001500,some [.nils]),(1000001501,some [.own 1000001000])]⟩):=by
 induction n with
 |zero=>exact((fun _ _ _ _ h=>by rw [FB] at h; cases h))
 | succ n ih=>
  have ih0:=ih
  ·intro a0 u w r h
   rw [FB] at h
   refine AO rfl rfl (Z ?_)
   refine AZ (Z ?_)
   refine AD h (fun h=>Z ?_) (fun h=>Z ?_)
   ·refine AF ?_
    refine Aa [false,false,false,false,false,false,false,false,false,false,true,true,true] (Tr.sq [10,11,12] .fin) (by kernel_rfl) (Z ?_)
    replace h:=AB h; obtain⟨y,q,h⟩:=h
    refine AM q (Agent.ds_len _) (Z ?_)
    replace h:=AB h; obtain⟨g,j,h⟩:=h
    refine AI (DK _ _ j) (Z ?_)
    replace h:=AB h; obtain⟨k,b,h⟩:=h
    have hq_:=Av b
    obtain⟨hv6010a,hv6010b⟩:=hq_
    refine Cz false (Z ?_)
    refine Al (by refine⟨?_,?_⟩ <;> (try simp only [List.length_map,List.length_append,List.length_cons,List.length_nil] at*) <;> (try unfold maxLen) <;> omega) (Z ?_)
    refine A6 (k.map Agent.ds) (by rw [← hv6010b]; simp only [List.map_append,List.map_cons,List.map_nil,List.nil_append,List.append_nil,go_sem,Agent.ds_eq]) (Z ?_)
    refine AF ?_
    exact lpF (ih0 a0 k (IntKind.i64.wrap (w+1)) _ h) [(1000001000,96160)] [(1000001500,1000001500),(1000001501,1000001501)]
   ·refine AF ?_
    cases h
    simp only [go_sem]
theorem WB (a0 r) (h:LQ a0=some r):AC Tryz.prog 23 [.rop (Net.avs a0) 0] (.agg (Net.rv r)):=by
 unfold LQ at h
 refine acF Tryz.func23 mixed (h:=Z ?_)
 refine AF ?_
 refine AF ?_
 refine CF (DU rfl rfl (RT fuel a0 [] 0 _ h):) (.one ⟨_,.cell 2001 0 2000000000 (some 5) false _ (by simp only [go_sem]; rfl) (by rfl) (by simp only [go_sem]) (.done _),[(1000001000,2000000000)],[(1000001500,1000),(1000001501,2001)],?_⟩)
 simp only [go_sem]
 all_goals try rfl
end Go.Proofs.YteckcjgpnegkjaaGreatDoor.Ab
