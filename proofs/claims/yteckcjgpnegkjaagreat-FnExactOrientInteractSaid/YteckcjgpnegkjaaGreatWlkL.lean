/-
 The functions do what their models say. Printed by wip/ab/gen.py.
-/
import Derived.Test.YteckcjgpnegkjaaGreatModL
import Derived.Test.YteckcjgpnegkjaaGreatTi2
import Derived.Test.YteckcjgpnegkjaaGreatWlkU
namespace Go.Proofs.YteckcjgpnegkjaaGreat.Ab
set_option linter.defProp false
set_option linter.unusedVariables false
set_option linter.unusedSimpArgs false
set_option maxRecDepth 20000
set_option maxHeartbeats 4000000
open Go.RowKit
theorem GD (a0 a1 a2 r) (h:s_l11Link a0 a1 a2=some r):AG Tryz.prog 96 [.box 1 0,.agg [.int .i64 a1.agent,.int .i64 a1.slot],.agg [.int .i64 a2.agent,.int .i64 a2.slot]] [(1001,⟨List.map Agent.ds a0.agents,some 5,0,false⟩)] [(1,[.own 1001])] (.tup []) [(1501,⟨List.map Agent.ds r.agents,some 5,0,false⟩)] [(1,[.own 1501])] :=by
 unfold s_l11Link at h
 refine agF Tryz.func96 mixed (h:=Z ?_)
 refine AX [false,false,false,false,false,false,false,false,false,false,false,false,false,true] (Tr.sq [13] .fin) (by kernel_rfl) (Z ?_)
 replace h:=AD h; obtain⟨u,w,h⟩:=h
 refine AL w (Agent.ds_len _) (Z ?_)
 refine Aa (AS w) (Z ?_)
 replace h:=AD h; obtain⟨y,q,h⟩:=h
 refine Aa (Ec (sz:=5) (j:=4) (r:=List.map Port.ds u.ports) (AS (f:=Agent.ds) w) (Agent.ds_len _) (by rw [Agent.ds_eq]; rfl)) (Z ?_)
 refine AL q (Port.ds_len _) (Z ?_)
 replace h:=AD h; obtain⟨g,k,h⟩:=h
 replace h:=AD h; obtain⟨b,d,h⟩:=h
 refine Aa (Ec (sz:=5) (j:=4) (r:=List.map Port.ds u.ports) (AS (f:=Agent.ds) w) (Agent.ds_len _) (by rw [Agent.ds_eq]; rfl)) (Z ?_)
 refine Aa (AS q) (Z ?_)
 try refine Al ⟨List.cons_ne_nil _ _,by rfl,by decide,by rfl⟩ ?_
 try simp only [go_sem]
 refine Ag (b.map Agent.ds) ((Hk (AS (f:=Agent.ds) w) (d':=.sl (u.ports.map Port.ds)) (by simp only [go_sem,Agent.ds_eq])).trans (by rw [← Ai d,← Ai k]; simp only [List.map_set,List.set_cons_succ,List.set_cons_zero,go_sem,Agent.ds_eq,Port.ds_eq])) (Z ?_)
 refine AF ?_
 refine AX [false,false,false,false,false,false,false,false,false,false,false,false,false,true] (Tr.sq [13] .fin) (by kernel_rfl) (Z ?_)
 replace h:=AD h; obtain⟨c,e,h⟩:=h
 refine AL e (Agent.ds_len _) (Z ?_)
 refine Aa (AS e) (Z ?_)
 replace h:=AD h; obtain⟨i,l,h⟩:=h
 refine Aa (Ec (sz:=5) (j:=4) (r:=List.map Port.ds c.ports) (AS (f:=Agent.ds) e) (Agent.ds_len _) (by rw [Agent.ds_eq]; rfl)) (Z ?_)
 refine AL l (Port.ds_len _) (Z ?_)
 replace h:=AD h; obtain⟨t,s,h⟩:=h
 replace h:=AD h; obtain⟨o,z,h⟩:=h
 refine Aa (Ec (sz:=5) (j:=4) (r:=List.map Port.ds c.ports) (AS (f:=Agent.ds) e) (Agent.ds_len _) (by rw [Agent.ds_eq]; rfl)) (Z ?_)
 refine Aa (AS l) (Z ?_)
 try refine Al ⟨List.cons_ne_nil _ _,by rfl,by decide,by rfl⟩ ?_
 try simp only [go_sem]
 refine Ag (o.map Agent.ds) ((Hk (AS (f:=Agent.ds) e) (d':=.sl (c.ports.map Port.ds)) (by simp only [go_sem,Agent.ds_eq])).trans (by rw [← Ai z,← Ai s]; simp only [List.map_set,List.set_cons_succ,List.set_cons_zero,go_sem,Agent.ds_eq,Port.ds_eq])) (Z ?_)
 cases h
 refine BJ (.done _) [(1501,1001)] [(1,1)] ?_
 simp only [go_sem]
theorem Lh (a0 a1 r) (h:Gv a0 a1=some r):AC Tryz.prog 95 [.rop (Net.avs a0) 0,.agg (Port.avs a1)] (.agg (Port.rv r)):=by
 unfold Gv at h
 refine acF Tryz.func95 mixed (h:=Z ?_)
 refine AF ?_
 refine AX [false,false,false,false,false,false,false,false,false,false,false,false,false,true] (Tr.sq [13] .fin) (by kernel_rfl) (Z ?_)
 replace h:=AD h; obtain⟨u,w,h⟩:=h
 refine AL w (Agent.ds_len _) (Z ?_)
 replace h:=AD h; obtain⟨y,q,h⟩:=h
 refine AL q (Port.ds_len _) (Z ?_)
 refine AF ?_
 cases h
 simp only [go_sem]
theorem PY (a0 a1 a2 r) (h:F4 a0 a1 a2=some r):AG Tryz.prog 49 [.box 1 0,.agg [.int .i64 a1.agent,.int .i64 a1.slot],.agg [.int .i64 a2.agent,.int .i64 a2.slot]] [(1001,⟨List.map Agent.ds a0.agents,some 5,0,false⟩)] [(1,[.own 1001])] (.tup []) [(1501,⟨List.map Agent.ds r.agents,some 5,0,false⟩)] [(1,[.own 1501])] :=by
 unfold F4 at h
 refine agF Tryz.func49 mixed (h:=Z ?_)
 replace h:=AD h; obtain⟨u,w,h⟩:=h
 refine AH (Lh _ _ _ w) (Z ?_)
 refine AF ?_
 replace h:=AD h; obtain⟨y,q,h⟩:=h
 refine AH (Lh _ _ _ q) (Z ?_)
 refine AF ?_
 refine AB h (fun h=>Z ?_) (fun h=>Z ?_)
 ·replace h:=AD h; obtain⟨g,j,h⟩:=h
  refine caG ⟨[],[(1001,1001)],[(1,1,0)],[(1501,80048)],[],true⟩ (GD _ _ _ _ j) (Z ?_)
  cases h
  refine BJ (.done _) [(1501,80048)] [(1,1)] ?_
  simp only [go_sem]
 ·cases h
  refine BJ (.done _) [(1501,1001)] [(1,1)] ?_
  simp only [go_sem]
theorem C9 (a0 a1 a2 r) (h:Bz a0 a1 a2=some r):AG Tryz.prog 53 [.box 1 0,.agg [.int .i64 a1.agent,.int .i64 a1.slot],.agg [.int .i64 a2.agent,.int .i64 a2.slot]] [(1001,⟨List.map Agent.ds a0.agents,some 5,0,false⟩)] [(1,[.own 1001])] (.tup []) [(1501,⟨List.map Agent.ds r.agents,some 5,0,false⟩)] [(1,[.own 1501])] :=by
 unfold Bz at h
 refine agF Tryz.func53 mixed (h:=Z ?_)
 refine AX [false,false,false,false,false,true] (Tr.sq [5] .fin) (by kernel_rfl) (Z ?_)
 replace h:=AD h; obtain⟨u,w,h⟩:=h
 refine AH (Lh _ _ _ w) (Z ?_)
 replace h:=AD h; obtain⟨y,q,h⟩:=h
 refine caG ⟨[],[(1001,1001)],[(1,1,0)],[(1501,32080)],[],true⟩ (GD _ _ _ _ q) (Z ?_)
 cases h
 refine BJ (.done _) [(1501,32080)] [(1,1)] ?_
 simp only [go_sem]
theorem PZ (a0 a1 a2 a3 r) (h:I6 a0 a1 a2 a3=some r):AC Tryz.prog 130 [.int .i64 a0,.int .i64 a1,.int .i64 a2,.int .i64 a3] (.bool r):=by
 unfold I6 at h
 refine acF Tryz.func130 mixed (h:=Z ?_)
 replace h:=AD h; obtain⟨u,w,h⟩:=h
 refine AH (H6 _ _ _ w) (Z ?_)
 refine AB h (fun h=>Z ?_) (fun h=>Z ?_)
 ·replace h:=AD h; obtain⟨y,q,h⟩:=h
  refine AH (H6 _ _ _ q) (Z ?_)
  refine AB h (fun h=>Z ?_) (fun h=>Z ?_)
  ·refine AB h (fun h=>Z ?_) (fun h=>Z ?_)
   ·refine AF ?_
    cases h
    simp only [go_sem]
   ·refine AF ?_
    cases h
    simp only [go_sem]
  ·refine AF ?_
   cases h
   simp only [go_sem]
 ·refine AF ?_
  cases h
  simp only [go_sem]
theorem Jn (a0:Int) (a1:Int) (a2:Int) (u:Bool) (r:Bool) (h:FJ a0 a1 a2 u=some r):Af Tryz.prog Tryz.f149 [1,1,0,1] (.bool r) ⟨[(0,.int .i64 a0),(1,.int .i64 a1),(2,.int .i64 a2),(21,.bool u)],[],[]⟩:=by
 unfold FJ at h
 refine AN rfl rfl (Z ?_)
 refine AB h (fun h=>Z ?_) (fun h=>Z ?_)
 ·cases h
  simp only [go_sem]
 ·refine AF ?_
  replace h:=AD h; obtain⟨w,y,h⟩:=h
  refine AH (KM _ _ y) (Z ?_)
  refine AB h (fun h=>Z ?_) (fun h=>Z ?_)
  ·refine AF ?_
   cases h
   simp only [go_sem]
  ·refine AF ?_
   cases h
   simp only [go_sem]
theorem Jo (a0:Int) (a1:Int) (a2:Int) (u:Bool) (r:Bool) (h:FK a0 a1 a2 u=some r):Af Tryz.prog Tryz.f149 [1,0,1] (.bool r) ⟨[(0,.int .i64 a0),(1,.int .i64 a1),(2,.int .i64 a2),(15,.bool u)],[],[]⟩:=by
 unfold FK at h
 refine AN rfl rfl (Z ?_)
 refine AB h (fun h=>Z ?_) (fun h=>Z ?_)
 ·cases h
  simp only [go_sem]
 ·refine AF ?_
  refine AB h (fun h=>Z ?_) (fun h=>Z ?_)
  ·exact AR (Jn a0 a1 a2 true _ h) [] []
  ·exact AR (Jn a0 a1 a2 (decide (a1=12)) _ h) [] []
theorem Q1 (a0 a1 a2 r) (h:HG a0 a1 a2=some r):AC Tryz.prog 149 [.int .i64 a0,.int .i64 a1,.int .i64 a2] (.bool r):=by
 unfold HG at h
 refine acF Tryz.func149 mixed (h:=Z ?_)
 replace h:=AD h; obtain⟨u,w,h⟩:=h
 refine AH (By _ _ _ _ w) (Z ?_)
 refine AB h (fun h=>Z ?_) (fun h=>Z ?_)
 ·exact AR (Jo a0 a1 a2 true _ h) [] []
 ·replace h:=AD h; obtain⟨y,q,h⟩:=h
  refine AH (H6 _ _ _ q) (Z ?_)
  exact AR (Jo a0 a1 a2 (!y) _ h) [] []
theorem Dz (u:Bool) (r:Bool) (h:Ci u=some r):Af Tryz.prog Tryz.f150 [1,0,1,0,1] (.bool r) ⟨[(4,.bool u)],[],[]⟩:=by
 unfold Ci at h
 refine AN rfl rfl (Z ?_)
 refine AB h (fun h=>Z ?_) (fun h=>Z ?_)
 ·cases h
  simp only [go_sem]
 ·refine AF ?_
  cases h
  simp only [go_sem]
theorem Q2 (a0 r) (h:HH a0=some r):AC Tryz.prog 150 [.int .i64 a0] (.bool r):=by
 unfold HH at h
 refine acF Tryz.func150 mixed (h:=Z ?_)
 refine AB h (fun h=>Z ?_) (fun h=>Z ?_)
 ·exact AR (Dz (decide (a0=3)) _ h) [] []
 ·refine AB h (fun h=>Z ?_) (fun h=>Z ?_)
  ·exact AR (Dz (decide (a0=7)) _ h) [] []
  ·refine AB h (fun h=>Z ?_) (fun h=>Z ?_)
   ·exact AR (Dz (decide (a0=8)) _ h) [] []
   ·refine AB h (fun h=>Z ?_) (fun h=>Z ?_)
    ·exact AR (Dz (decide (a0=10)) _ h) [] []
    ·exact AR (Dz (decide (a0=11)) _ h) [] []
theorem Lr (a1:Int) (a2:Int) (a3:Int) (u:Bool) (r:Int) (h:HI a1 a2 a3 u=some r):Af Tryz.prog Tryz.f131 [1,0,1,0,1,1,1,0,0,1] (.int .i64 r) ⟨[(1,.int .i64 a1),(2,.int .i64 a2),(3,.int .i64 a3),(20,.bool u)],[],[]⟩:=by
 unfold HI at h
 refine AN rfl rfl (Z ?_)
 refine AB h (fun h=>Z ?_) (fun h=>Z ?_)
 ·cases h
  simp only [go_sem]
 ·refine AF ?_
  replace h:=AD h; obtain⟨w,y,h⟩:=h
  refine AH (Q1 _ _ _ _ y) (Z ?_)
  refine AF ?_
  refine AB h (fun h=>Z ?_) (fun h=>Z ?_)
  ·cases h
   simp only [go_sem]
  ·refine AF ?_
   cases h
   simp only [go_sem]
theorem Ls (u:Bool) (r:Int) (h:HJ u=some r):Af Tryz.prog Tryz.f131 [1,0,1,0,1,1,1,1,1,0,1] (.int .i64 r) ⟨[(33,.bool u)],[],[]⟩:=by
 unfold HJ at h
 refine AN rfl rfl (Z ?_)
 refine AB h (fun h=>Z ?_) (fun h=>Z ?_)
 ·cases h
  simp only [go_sem]
 ·refine AF ?_
  cases h
  simp only [go_sem]
theorem Lt (a2:Int) (u:Bool) (r:Int) (h:HK a2 u=some r):Af Tryz.prog Tryz.f131 [1,0,1,0,1,1,1,1,1,1,1,0,1,0,1] (.int .i64 r) ⟨[(36,.int .i64 a2),(37,.bool u)],[],[]⟩:=by
 unfold HK at h
 refine AN rfl rfl (Z ?_)
 refine AB h (fun h=>Z ?_) (fun h=>Z ?_)
 ·cases h
  simp only [go_sem]
 ·refine AB h (fun h=>Z ?_) (fun h=>Z ?_)
  ·cases h
   simp only [go_sem]
  ·refine AF ?_
   cases h
   simp only [go_sem]
theorem Iq (a0 a1 a2 a3 r) (h:Gw a0 a1 a2 a3=some r):AC Tryz.prog 131 [.int .i64 a0,.int .i64 a1,.int .i64 a2,.int .i64 a3] (.int .i64 r):=by
 unfold Gw at h
 refine acF Tryz.func131 mixed (h:=Z ?_)
 refine AB h (fun h=>Z ?_) (fun h=>Z ?_)
 ·cases h
  simp only [go_sem]
 ·refine AB h (fun h=>Z ?_) (fun h=>Z ?_)
  ·refine AB h (fun h=>Z ?_) (fun h=>Z ?_)
   ·exact AR (Lr a1 a2 a3 (decide (a1=a3)) _ h) [] []
   ·exact AR (Lr a1 a2 a3 false _ h) [] []
  ·refine AB h (fun h=>Z ?_) (fun h=>Z ?_)
   ·refine AB h (fun h=>Z ?_) (fun h=>Z ?_)
    ·exact AR (Ls (decide (a1=a3)) _ h) [] []
    ·exact AR (Ls false _ h) [] []
   ·refine AB h (fun h=>Z ?_) (fun h=>Z ?_)
    ·refine AB h (fun h=>Z ?_) (fun h=>Z ?_)
     ·exact AR (Lt a2 (decide (a2=7)) _ h) [] []
     ·exact AR (Lt a2 (decide (a2=8)) _ h) [] []
    ·refine AB h (fun h=>Z ?_) (fun h=>Z ?_)
     ·refine AB h (fun h=>Z ?_) (fun h=>Z ?_)
      ·cases h
       simp only [go_sem]
      ·refine AF ?_
       cases h
       simp only [go_sem]
     ·refine AB h (fun h=>Z ?_) (fun h=>Z ?_)
      ·replace h:=AD h; obtain⟨u,w,h⟩:=h
       refine AH (Q2 _ _ w) (Z ?_)
       refine AF ?_
       refine AB h (fun h=>Z ?_) (fun h=>Z ?_)
       ·cases h
        simp only [go_sem]
       ·refine AF ?_
        cases h
        simp only [go_sem]
      ·refine AF ?_
       cases h
       simp only [go_sem]
theorem QK (a0 a1 a2 a3 r) (h:GS a0 a1 a2 a3=some r):AC Tryz.prog 93 [.int .i64 a0,.int .i64 a1,.int .i64 a2,.int .i64 a3] (.int .i64 r):=by
 unfold GS at h
 refine acF Tryz.func93 mixed (h:=Z ?_)
 replace h:=AD h; obtain⟨u,w,h⟩:=h
 refine AH (PZ _ _ _ _ _ w) (Z ?_)
 refine AF ?_
 refine AB h (fun h=>Z ?_) (fun h=>Z ?_)
 ·cases h
  simp only [go_sem]
 ·refine AF ?_
  replace h:=AD h; obtain⟨y,q,h⟩:=h
  refine AH (Iq _ _ _ _ _ q) (Z ?_)
  refine AF ?_
  refine AB h (fun h=>Z ?_) (fun h=>Z ?_)
  ·cases h
   simp only [go_sem]
  ·refine AF ?_
   replace h:=AD h; obtain⟨g,j,h⟩:=h
   refine AH (Iq _ _ _ _ _ j) (Z ?_)
   refine AF ?_
   refine AB h (fun h=>Z ?_) (fun h=>Z ?_)
   ·cases h
    simp only [go_sem]
   ·refine AF ?_
    cases h
    simp only [go_sem]
theorem KN (a0 a1 a2 r) (h:Cw a0 a1 a2=some r):AC Tryz.prog 47 [.rop (Net.avs a0) 0,.int .i64 a1,.int .i64 a2] (.tup [.int .i64 r.1,.int .i64 r.2]):=by
 unfold Cw at h
 refine acF Tryz.func47 mixed (h:=Z ?_)
 replace h:=AD h; obtain⟨u,w,h⟩:=h
 refine AL w (Agent.ds_len _) (Z ?_)
 replace h:=AD h; obtain⟨y,q,h⟩:=h
 refine AL q (Agent.ds_len _) (Z ?_)
 refine AX [] .fin (by kernel_rfl) (Z ?_)
 replace h:=AD h; obtain⟨g,j,h⟩:=h
 refine AH (QK _ _ _ _ _ j) (Z ?_)
 refine AF ?_
 refine AB h (fun h=>Z ?_) (fun h=>Z ?_)
 ·cases h
  simp only [go_sem]
 ·refine AF ?_
  cases h
  simp only [go_sem]
theorem J8 (u:Int) (r:Int) (h:Fh u=some r):Af Tryz.prog Tryz.f94 [1,1,1,1] (.int .i64 r) ⟨[(9,.int .i64 u)],[],[]⟩:=by
 unfold Fh at h
 refine AN rfl rfl (Z ?_)
 refine AB h (fun h=>Z ?_) (fun h=>Z ?_)
 ·cases h
  simp only [go_sem]
 ·refine AF ?_
  cases h
  simp only [go_sem]
theorem Sn (a0 a1 a2 a3 r) (h:IG a0 a1 a2 a3=some r):AC Tryz.prog 94 [.int .i64 a0,.int .i64 a1,.int .i64 a2,.int .i64 a3] (.int .i64 r):=by
 unfold IG at h
 refine acF Tryz.func94 mixed (h:=Z ?_)
 replace h:=AD h; obtain⟨u,w,h⟩:=h
 refine AH (PZ _ _ _ _ _ w) (Z ?_)
 refine AF ?_
 refine AB h (fun h=>Z ?_) (fun h=>Z ?_)
 ·cases h
  simp only [go_sem]
 ·refine AF ?_
  replace h:=AD h; obtain⟨y,q,h⟩:=h
  refine AH (Iq _ _ _ _ _ q) (Z ?_)
  refine AF ?_
  refine AB h (fun h=>Z ?_) (fun h=>Z ?_)
  ·replace h:=AD h; obtain⟨g,j,h⟩:=h
   refine AH (Iq _ _ _ _ _ j) (Z ?_)
   exact AR (J8 g _ h) [] []
  ·exact AR (J8 y _ h) [] []
theorem Hw (a0:Agent) (a1:Agent) (u:Bool) (r:Int) (h:FQ a0 a1 u=some r):Af Tryz.prog Tryz.f48 [1,1,0,1] (.int .i64 r) ⟨[(0,.rop [.int .i64 a0.kind,.int .i64 a0.level,.int .i64 a0.value,.ro (a0.data.map Ar),.ro (a0.ports.map Port.ds)] 0),(1,.rop [.int .i64 a1.kind,.int .i64 a1.level,.int .i64 a1.value,.ro (a1.data.map Ar),.ro (a1.ports.map Port.ds)] 0),(52,.bool u)],[],[]⟩:=by
 unfold FQ at h
 refine AN rfl rfl (Z ?_)
 refine AB h (fun h=>Z ?_) (fun h=>Z ?_)
 ·cases h
  simp only [go_sem]
 ·refine AF ?_
  refine AX [] .fin (by kernel_rfl) (Z ?_)
  replace h:=AD h; obtain⟨w,y,h⟩:=h
  refine AH (Sn _ _ _ _ _ y) (Z ?_)
  refine AF ?_
  cases h
  simp only [go_sem]
theorem Hx (a0:Agent) (a1:Agent) (u:Bool) (r:Int) (h:FR a0 a1 u=some r):Af Tryz.prog Tryz.f48 [1,0,1] (.int .i64 r) ⟨[(0,.rop [.int .i64 a0.kind,.int .i64 a0.level,.int .i64 a0.value,.ro (a0.data.map Ar),.ro (a0.ports.map Port.ds)] 0),(1,.rop [.int .i64 a1.kind,.int .i64 a1.level,.int .i64 a1.value,.ro (a1.data.map Ar),.ro (a1.ports.map Port.ds)] 0),(28,.bool u)],[],[]⟩:=by
 unfold FR at h
 refine AN rfl rfl (Z ?_)
 refine AB h (fun h=>Z ?_) (fun h=>Z ?_)
 ·cases h
  simp only [go_sem]
 ·refine AF ?_
  refine AX [] .fin (by kernel_rfl) (Z ?_)
  refine AB h (fun h=>Z ?_) (fun h=>Z ?_)
  ·refine AB h (fun h=>Z ?_) (fun h=>Z ?_)
   ·exact AR (Hw a0 a1 (decide ((a0.data.length:Int)≤a1.value)) _ h) [] []
   ·exact AR (Hw a0 a1 false _ h) [] []
  ·exact AR (Hw a0 a1 false _ h) [] []
theorem KO (a0 a1 r) (h:Fi a0 a1=some r):AC Tryz.prog 48 [.rop (Agent.avs a0) 0,.rop (Agent.avs a1) 0] (.int .i64 r):=by
 unfold Fi at h
 refine acF Tryz.func48 mixed (h:=Z ?_)
 refine AX [] .fin (by kernel_rfl) (Z ?_)
 refine AB h (fun h=>Z ?_) (fun h=>Z ?_)
 ·refine AB h (fun h=>Z ?_) (fun h=>Z ?_)
  ·exact AR (Hx a0 a1 (decide ((a1.data.length:Int)≤a0.value)) _ h) [] []
  ·exact AR (Hx a0 a1 false _ h) [] []
 ·exact AR (Hx a0 a1 false _ h) [] []
theorem Xa (a0 a1 r) (h:Ma a0 a1=some r):AC Tryz.prog 129 [.int .i64 a0,.int .i64 a1] (.int .i64 r):=by
 unfold Ma at h
 refine acF Tryz.func129 mixed (h:=Z ?_)
 refine AB h (fun h=>Z ?_) (fun h=>Z ?_)
 ·cases h
  simp only [go_sem]
 ·refine AF ?_
  cases h
  simp only [go_sem]
theorem OY (n:Nat):(∀a0 u w r,Cj n a0 u w=some r→Af Tryz.prog Tryz.f91 [1,1,0,1,0] (.int .i64 r) ⟨[(0,.rop [.ro (a0.agents.map Agent.ds)] 0),(3,.int .i64 u),(4,.int .i64 w)],[],[]⟩):=by
 induction n with
 |zero=>exact((fun _ _ _ _ h=>by rw [Cj] at h; cases h))
 | succ n ih=>
  have ih0:=ih
  ·intro a0 u w r h
   rw [Cj] at h
   refine AN rfl rfl (Z ?_)
   refine AY (Z ?_)
   refine AB h (fun h=>Z ?_) (fun h=>Z ?_)
   ·refine AF ?_
    replace h:=AD h; obtain⟨y,q,h⟩:=h
    refine AL q (Agent.ds_len _) (Z ?_)
    replace h:=AD h; obtain⟨g,j,h⟩:=h
    refine AH (Xa _ _ _ j) (Z ?_)
    refine AF ?_
    exact lpF (ih0 a0 g (IntKind.i64.wrap (w+1)) _ h) [] []
   ·refine AF ?_
    cases h
    simp only [go_sem]
theorem Q3 (a0 r) (h:Io a0=some r):AC Tryz.prog 91 [.rop (Net.avs a0) 0] (.int .i64 r):=by
 unfold Io at h
 refine acF Tryz.func91 mixed (h:=Z ?_)
 exact loF (OY fuel a0 0 0 _ h) [] []
theorem Eg (a1:Int) (u:Int) (w:Int) (y:Int) (r:Int × Int) (h:Df a1 u w y=some r):Af Tryz.prog Tryz.f92 [1,1,1,1,1] (.tup [.int .i64 r.1,.int .i64 r.2]) ⟨[(1,.int .i64 a1),(6,.int .i64 u),(7,.int .i64 w),(8,.int .i64 y)],[],[]⟩:=by
 unfold Df at h
 refine AN rfl rfl (Z ?_)
 replace h:=AD h; obtain⟨q,g,h⟩:=h
 refine AH (By _ _ _ _ g) (Z ?_)
 refine AF ?_
 refine AB h (fun h=>Z ?_) (fun h=>Z ?_)
 ·cases h
  simp only [go_sem]
 ·refine AF ?_
  cases h
  simp only [go_sem]
theorem Mt (a0:Int) (a1:Int) (u:Bool) (r:Int × Int) (h:II a0 a1 u=some r):Af Tryz.prog Tryz.f92 [1,1,1,1,0,1,0,1] (.tup [.int .i64 r.1,.int .i64 r.2]) ⟨[(1,.int .i64 a1),(6,.int .i64 0),(7,.int .i64 0),(9,.int .i64 a0),(10,.bool u)],[],[]⟩:=by
 unfold II at h
 refine AN rfl rfl (Z ?_)
 refine AB h (fun h=>Z ?_) (fun h=>Z ?_)
 ·exact AR (Eg a1 0 0 (-2) _ h) [] []
 ·refine AB h (fun h=>Z ?_) (fun h=>Z ?_)
  ·exact AR (Eg a1 0 3 a1 _ h) [] []
  ·refine AB h (fun h=>Z ?_) (fun h=>Z ?_)
   ·exact AR (Eg a1 0 3 (IntKind.i64.wrap (a1 - 2)) _ h) [] []
   ·refine AB h (fun h=>Z ?_) (fun h=>Z ?_)
    ·exact AR (Eg a1 0 0 (-1) _ h) [] []
    ·refine AB h (fun h=>Z ?_) (fun h=>Z ?_)
     ·exact AR (Eg a1 0 3 (IntKind.i64.wrap (a1 - 1)) _ h) [] []
     ·refine AB h (fun h=>Z ?_) (fun h=>Z ?_)
      ·exact AR (Eg a1 2 600 (IntKind.i64.wrap (a1 - 2)) _ h) [] []
      ·cases h
       simp only [go_sem]
theorem Xb (a0 a1 r) (h:Mb a0 a1=some r):AC Tryz.prog 92 [.int .i64 a0,.int .i64 a1] (.tup [.int .i64 r.1,.int .i64 r.2]):=by
 unfold Mb at h
 refine acF Tryz.func92 mixed (h:=Z ?_)
 refine AB h (fun h=>Z ?_) (fun h=>Z ?_)
 ·exact AR (Mt a0 a1 (decide (a0=1)) _ h) [] []
 ·exact AR (Mt a0 a1 (decide (a0=2)) _ h) [] []
theorem Fa (u:Int) (w:Int) (r:Int × Int) (h:DF u w=some r):Af Tryz.prog Tryz.f45 [1,1,1,1,1,1,1] (.tup [.int .i64 r.1,.int .i64 r.2]) ⟨[(12,.int .i64 u),(13,.int .i64 w)],[],[]⟩:=by
 unfold DF at h
 refine AN rfl rfl (Z ?_)
 replace h:=AD h; obtain⟨y,q,h⟩:=h
 refine AH (Xb _ _ _ q) (Z ?_)
 refine AF ?_
 cases h
 simp only [go_sem]
theorem J9 (a0:List Net) (u:Agent) (w:Agent) (y:Int) (q:Bool) (r:Int × Int) (h:Fj a0 u w y q=some r):Af Tryz.prog Tryz.f45 [1,1,1,1,1,1,0,1,0,1,1,1] (.tup [.int .i64 r.1,.int .i64 r.2]) ⟨[(0,.ro (a0.map Net.ds)),(10,.rop [.int .i64 u.kind,.int .i64 u.level,.int .i64 u.value,.ro (u.data.map Ar),.ro (u.ports.map Port.ds)] 0),(11,.rop [.int .i64 w.kind,.int .i64 w.level,.int .i64 w.value,.ro (w.data.map Ar),.ro (w.ports.map Port.ds)] 0),(12,.int .i64 y),(13,.int .i64 0),(38,.int .i64 y),(41,.bool q)],[],[]⟩:=by
 unfold Fj at h
 refine AN rfl rfl (Z ?_)
 refine AB h (fun h=>Z ?_) (fun h=>Z ?_)
 ·exact AR (Fa y (IntKind.i64.wrap ((w.ports.length:Int) - 1)) _ h) [] []
 ·refine AB h (fun h=>Z ?_) (fun h=>Z ?_)
  ·replace h:=AD h; obtain⟨g,j,h⟩:=h
   refine AH (Ha _ _ j) (Z ?_)
   exact AR (Fa y g _ h) [] []
  ·refine AB h (fun h=>Z ?_) (fun h=>Z ?_)
   ·refine AB h (fun h=>Z ?_) (fun h=>Z ?_)
    ·cases h
     simp only [go_sem]
    ·refine AF ?_
     replace h:=AD h; obtain⟨k,b,h⟩:=h
     refine AL b (Net.ds_len _) (Z ?_)
     refine AX [] .fin (by kernel_rfl) (Z ?_)
     replace h:=AD h; obtain⟨d,c,h⟩:=h
     refine AL c (Net.ds_len _) (Z ?_)
     replace h:=AD h; obtain⟨e,i,h⟩:=h
     refine AH (Q3 _ _ i) (Z ?_)
     refine AF ?_
     refine AB h (fun h=>Z ?_) (fun h=>Z ?_)
     ·cases h
      simp only [go_sem]
     ·exact AR (Fa y (k.agents.length:Int) _ h) [] []
   ·exact AR (Fa y 0 _ h) [] []
theorem So (a0 a1 a2 a3 r) (h:IJ a0 a1 a2 a3=some r):AC Tryz.prog 45 [.ro (a0.map Net.ds),.rop (Net.avs a1) 0,.int .i64 a2,.int .i64 a3] (.tup [.int .i64 r.1,.int .i64 r.2]):=by
 unfold IJ at h
 refine acF Tryz.func45 mixed (h:=Z ?_)
 replace h:=AD h; obtain⟨u,w,h⟩:=h
 refine AH (KN _ _ _ _ w) (Z ?_)
 refine AF ?_
 replace h:=AD h; obtain⟨y,q,h⟩:=h
 refine AL q (Agent.ds_len _) (Z ?_)
 replace h:=AD h; obtain⟨g,j,h⟩:=h
 refine AL j (Agent.ds_len _) (Z ?_)
 replace h:=AD h; obtain⟨k,b,h⟩:=h
 refine AH (KO _ _ _ b) (Z ?_)
 refine AF ?_
 refine AB h (fun h=>Z ?_) (fun h=>Z ?_)
 ·cases h
  simp only [go_sem]
 ·refine AB h (fun h=>Z ?_) (fun h=>Z ?_)
  ·exact AR (J9 a0 y g k (decide (k=3)) _ h) [] []
  ·exact AR (J9 a0 y g k (decide (k=4)) _ h) [] []
theorem Q4 (n:Nat):(∀a0 u w r,DY n a0 u w=some r→Af Tryz.prog Tryz.f46 [1,1,0,1,0] (.int .i64 r) ⟨[(0,.rop [.ro (a0.agents.map Agent.ds)] 0),(3,.int .i64 u),(4,.int .i64 w)],[],[]⟩):=by
 induction n with
 |zero=>exact((fun _ _ _ _ h=>by rw [DY] at h; cases h))
 | succ n ih=>
  have ih0:=ih
  ·intro a0 u w r h
   rw [DY] at h
   refine AN rfl rfl (Z ?_)
   refine AY (Z ?_)
   refine AB h (fun h=>Z ?_) (fun h=>Z ?_)
   ·refine AF ?_
    replace h:=AD h; obtain⟨y,q,h⟩:=h
    refine AL q (Agent.ds_len _) (Z ?_)
    refine AB h (fun h=>Z ?_) (fun h=>Z ?_)
    ·refine AF ?_
     exact lpF (ih0 a0 (IntKind.i64.wrap (u+1)) (IntKind.i64.wrap (w+1)) _ h) [] []
    ·refine AF ?_
     exact lpF (ih0 a0 u (IntKind.i64.wrap (w+1)) _ h) [] []
   ·refine AF ?_
    cases h
    simp only [go_sem]
theorem VQ (a0 r) (h:NI a0=some r):AC Tryz.prog 46 [.rop (Net.avs a0) 0] (.int .i64 r):=by
 unfold NI at h
 refine acF Tryz.func46 mixed (h:=Z ?_)
 exact loF (Q4 fuel a0 0 0 _ h) [] []
theorem AT (a0 a1 r) (h:Ae a0 a1=some r):AC Tryz.prog 50 [.int .i64 a0,.int .i64 a1] (.agg (Port.rv r)):=by
 unfold Ae at h
 refine acF Tryz.func50 mixed (h:=Z ?_)
 refine AF ?_
 cases h
 simp only [go_sem]
theorem Sp (n:Nat):(∀a0 a1 a2 a3 u w y r,El n a0 a1 a2 a3 u w y=some r→DB Tryz.prog Tryz.f52 [1,1,0,1,0] (.int .i64 r.1) [(1501,⟨List.map Agent.ds r.2.agents,some 5,0,false⟩)] [(1,[.own 1501])] ⟨[(0,.box 1 0),(13,.box 1000001500 0),(14,.int .i64 y)],[(1000001000,some ⟨List.map Agent.ds a0.agents,some 5,0,false⟩),(1000001001,some ⟨List.map Ar u,some 1,0,false⟩),(1000001002,some ⟨List.map Port.ds w,some 2,0,false⟩)],[(1,some [.own 1000001000]),(1000001500,some [.int .i64 a1,.int .i64 a2,.int .i64 a3,.own 1000001001,.own 1000001002])]⟩):=by
 induction n with
 |zero=>exact((fun _ _ _ _ _ _ _ _ h=>by rw [El] at h; cases h))
 | succ n ih=>
  have ih0:=ih
  ·intro a0 a1 a2 a3 u w y r h
   rw [El] at h
   refine Aq rfl rfl (Z ?_)
   refine AY (Z ?_)
   refine AB h (fun h=>Z ?_) (fun h=>Z ?_)
   ·refine AF ?_
    replace h:=AD h; obtain⟨q,g,h⟩:=h
    have hq_:=An g
    obtain⟨hv6004a,hv6004b⟩:=hq_
    refine C3 false (Z ?_)
    refine Al (by refine⟨?_,?_⟩ <;> (try simp only [List.length_map,List.length_append,List.length_cons,List.length_nil] at*) <;> (try unfold maxLen) <;> omega) (Z ?_)
    refine Ag (q.map Port.ds) (by rw [← hv6004b]; simp only [List.map_append,List.map_cons,List.map_nil,List.nil_append,List.append_nil,go_sem,Port.ds_eq]) (Z ?_)
    refine AF ?_
    exact lpG (ih0 a0 a1 a2 a3 u q (IntKind.i64.wrap (y - 1)) _ h) [(1000001000,1000001000),(1000001001,1000001001),(1000001002,96064)] [(1,1),(1000001500,1000001500)]
   ·refine AF ?_
    refine AX [false,false,false,false,false,false,false,true,true,true,true] (Tr.sq [7,8,9,10] .fin) (by kernel_rfl) (Z ?_)
    replace h:=AD h; obtain⟨j,k,h⟩:=h
    have hq_:=An k
    obtain⟨hv7007a,hv7007b⟩:=hq_
    refine C3 false (Z ?_)
    refine Al (by refine⟨?_,?_⟩ <;> (try simp only [List.length_map,List.length_append,List.length_cons,List.length_nil] at*) <;> (try unfold maxLen) <;> omega) (Z ?_)
    refine Ag (j.map Agent.ds) (by rw [← hv7007b]; simp only [List.map_append,List.map_cons,List.map_nil,List.nil_append,List.append_nil,go_sem,Agent.ds_eq]) (Z ?_)
    refine AF ?_
    cases h
    refine BJ (.done _) [(1501,112112)] [(1,1)] ?_
    simp only [go_sem]
theorem EH (a0 a1 a2 a3 a4 a5 r) (h:Cp a0 a1 a2 a3 a4 a5=some r):AG Tryz.prog 52 [.box 1 0,.int .i64 a1,.int .i64 a2,.int .i64 a3,.ro (a4.map Ar),.int .i64 a5] [(1001,⟨List.map Agent.ds a0.agents,some 5,0,false⟩)] [(1,[.own 1001])] (.int .i64 r.1) [(1501,⟨List.map Agent.ds r.2.agents,some 5,0,false⟩)] [(1,[.own 1501])] :=by
 unfold Cp at h
 refine agF Tryz.func52 mixed (h:=Z ?_)
 replace h:=AD h; obtain⟨u,w,h⟩:=h
 refine AH (Qr _ _ w) (Z ?_)
 refine AF ?_
 refine D0 (LQ rfl rfl (Sp fuel a0 a1 a2 a3 u [] a5 _ h):) (.one ⟨_,.cell 2006 4 2000000000 (some 2) false _ (by simp only [go_sem]; rfl) (by rfl) (by simp only [go_sem]) (.done _),[(1000001000,1001),(1000001001,32064),(1000001002,2000000000)],[(1,1),(1000001500,2006)],?_⟩)
 simp only [go_sem]
 all_goals try rfl
theorem Mu (n:Nat):(∀a2 u w y q r,CA n a2 u w y q=some r→DB Tryz.prog Tryz.f51 [1,1,1,1,1,1,1,1,1,0] (.tup []) [(1501,⟨List.map Agent.ds r.agents,some 5,0,false⟩)] [(1,[.own 1501])] ⟨[(0,.box 1 0),(2,.int .i64 a2),(8,.int .i64 (u.ports.length:Int)),(10,.int .i64 w.1),(13,.int .i64 q)],[(1000002000,some ⟨List.map Agent.ds y,some 5,0,false⟩)],[(1,some [.own 1000002000])]⟩):=by
 induction n with
 |zero=>exact((fun _ _ _ _ _ _ h=>by rw [CA] at h; cases h))
 | succ n ih=>
  have ih0:=ih
  ·intro a2 u w y q r h
   rw [CA] at h
   refine Aq rfl rfl (Z ?_)
   refine AY (Z ?_)
   refine AB h (fun h=>Z ?_) (fun h=>Z ?_)
   ·refine AF ?_
    replace h:=AD h; obtain⟨g,j,h⟩:=h
    refine AH (AT _ _ _ j) (Z ?_)
    replace h:=AD h; obtain⟨k,b,h⟩:=h
    refine AH (AT _ _ _ b) (Z ?_)
    replace h:=AD h; obtain⟨d,c,h⟩:=h
    refine caG ⟨[],[(1001,1000002000)],[(1,1,0)],[(1501,272128)],[],true⟩ (C9 _ _ _ _ c) (Z ?_)
    refine AF ?_
    exact lpG (ih0 a2 u w d.agents (IntKind.i64.wrap (q+1)) _ h) [(1000002000,272128)] [(1,1)]
   ·cases h
    refine BJ (.done _) [(1501,1000002000)] [(1,1)] ?_
    simp only [go_sem]
theorem Mv (n:Nat):(∀a1 a2 u w y q g j r,Bo n a1 a2 u w y q g j=some r→DB Tryz.prog Tryz.f51 [1,1,1,1,1,0,1,0] (.tup []) [(1501,⟨List.map Agent.ds r.agents,some 5,0,false⟩)] [(1,[.own 1501])] ⟨[(0,.box 1 0),(1,.int .i64 a1),(2,.int .i64 a2),(6,.int .i64 u.level),(8,.int .i64 (w.ports.length:Int)),(9,.int .i64 y.1),(10,.int .i64 q.1),(11,.int .i64 j)],[(1000001000,some ⟨List.map Agent.ds g,some 5,0,false⟩)],[(1,some [.own 1000001000])]⟩):=by
 induction n with
 |zero=>exact((fun _ _ _ _ _ _ _ _ _ h=>by rw [Bo] at h; cases h))
 | succ n ih=>
  have ih0:=ih
  ·intro a1 a2 u w y q g j r h
   rw [Bo] at h
   refine Aq rfl rfl (Z ?_)
   refine AY (Z ?_)
   refine AB h (fun h=>Z ?_) (fun h=>Z ?_)
   ·refine AF ?_
    replace h:=AD h; obtain⟨k,b,h⟩:=h
    refine caG ⟨[],[(1001,1000001000)],[(1,1,0)],[(1501,144032)],[],true⟩ (EH _ _ _ _ _ _ _ b) (Z ?_)
    refine AF ?_
    replace h:=AD h; obtain⟨d,c,h⟩:=h
    refine AH (AT _ _ _ c) (Z ?_)
    replace h:=AD h; obtain⟨e,i,h⟩:=h
    refine AH (AT _ _ _ i) (Z ?_)
    replace h:=AD h; obtain⟨l,t,h⟩:=h
    refine caG ⟨[],[(1001,144032)],[(1,1,0)],[(1501,160096)],[],true⟩ (GD _ _ _ _ t) (Z ?_)
    refine AF ?_
    replace h:=AD h; obtain⟨s,o,h⟩:=h
    refine AH (AT _ _ _ o) (Z ?_)
    replace h:=AD h; obtain⟨z,u1,h⟩:=h
    refine AH (AT _ _ _ u1) (Z ?_)
    replace h:=AD h; obtain⟨u2,u3,h⟩:=h
    refine caG ⟨[],[(1001,160096)],[(1,1,0)],[(1501,176096)],[],true⟩ (GD _ _ _ _ u3) (Z ?_)
    refine AF ?_
    exact lpG (ih0 a1 a2 u w y q u2.agents (IntKind.i64.wrap (j+1)) _ h) [(1000001000,176096)] [(1,1)]
   ·refine AF ?_
    replace h:=AD h; obtain⟨u4,u5,h⟩:=h
    refine AH (AT _ _ _ u5) (Z ?_)
    replace h:=AD h; obtain⟨u6,u7,h⟩:=h
    refine AH (AT _ _ _ u7) (Z ?_)
    replace h:=AD h; obtain⟨u8,u9,h⟩:=h
    refine caG ⟨[],[(1001,1000001000)],[(1,1,0)],[(1501,192080)],[],true⟩ (C9 _ _ _ _ u9) (Z ?_)
    refine AF ?_
    replace h:=AD h; obtain⟨u10,u11,h⟩:=h
    refine AH (AT _ _ _ u11) (Z ?_)
    replace h:=AD h; obtain⟨u12,u13,h⟩:=h
    refine AH (AT _ _ _ u13) (Z ?_)
    replace h:=AD h; obtain⟨u14,u15,h⟩:=h
    refine caG ⟨[],[(1001,192080)],[(1,1,0)],[(1501,208080)],[],true⟩ (C9 _ _ _ _ u15) (Z ?_)
    refine AF ?_
    exact loG (Mu fuel a2 w q u14.agents 1 _ h) [(1000002000,208080)] [(1,1)]
theorem Pa (a0 a1 a2 r) (h:Fk a0 a1 a2=some r):AG Tryz.prog 51 [.box 1 0,.int .i64 a1,.int .i64 a2] [(1001,⟨List.map Agent.ds a0.agents,some 5,0,false⟩)] [(1,[.own 1001])] (.tup []) [(1501,⟨List.map Agent.ds r.agents,some 5,0,false⟩)] [(1,[.own 1501])] :=by
 unfold Fk at h
 refine agF Tryz.func51 mixed (h:=Z ?_)
 replace h:=AD h; obtain⟨u,w,h⟩:=h
 refine AL w (Agent.ds_len _) (Z ?_)
 refine Aa (AS w) (Z ?_)
 replace h:=AD h; obtain⟨y,q,h⟩:=h
 refine AL q (Agent.ds_len _) (Z ?_)
 replace h:=AD h; obtain⟨g,j,h⟩:=h
 refine SJ (by simp only [AS q,Agent.ds_eq,go_sem,Nat.reduceEqDiff,reduceIte] <;> rfl) (Eh _ _ j) (Z ?_)
 refine AF ?_
 replace h:=AD h; obtain⟨k,b,h⟩:=h
 refine caG ⟨[],[(1001,1001)],[(1,1,0)],[(1501,64160)],[],false⟩ (EH _ _ _ _ _ _ _ b) (Z ?_)
 refine AF ?_
 replace h:=AD h; obtain⟨d,c,h⟩:=h
 refine caG ⟨[],[(1001,64160)],[(1,1,0)],[(1501,80160)],[],false⟩ (EH _ _ _ _ _ _ _ c) (Z ?_)
 refine AF ?_
 exact loG (Mv fuel a1 a2 u g k d d.2.agents 1 _ h) [(1000001000,80160)] [(1,1)]
theorem G2 (a0 r) (h:GT a0=some r):AC Tryz.prog 132 [.int .i64 a0] (.int .i64 r):=by
 unfold GT at h
 refine acF Tryz.func132 mixed (h:=Z ?_)
 cases h
 simp only [go_sem]
theorem Pb (a0 r) (h:Kh a0=some r):AC Tryz.prog 133 [.bool a0] (.int .i64 r):=by
 unfold Kh at h
 refine acF Tryz.func133 mixed (h:=Z ?_)
 refine AB h (fun h=>Z ?_) (fun h=>Z ?_)
 ·cases h
  simp only [go_sem]
 ·refine AF ?_
  cases h
  simp only [go_sem]
theorem VS (a0 a1 a2 r) (h:Ki a0 a1 a2=some r):AC Tryz.prog 97 [.int .i64 a0,.int .i64 a1,.int .i64 a2] (.int .i64 r):=by
 unfold Ki at h
 refine acF Tryz.func97 mixed (h:=Z ?_)
 replace h:=AD h; obtain⟨u,w,h⟩:=h
 refine AH (G2 _ _ w) (Z ?_)
 refine AF ?_
 replace h:=AD h; obtain⟨y,q,h⟩:=h
 refine AH (G2 _ _ q) (Z ?_)
 refine AF ?_
 refine AB h (fun h=>Z ?_) (fun h=>Z ?_)
 ·replace h:=AD h; obtain⟨g,j,h⟩:=h
  refine AH (G2 _ _ j) (Z ?_)
  refine AF ?_
  cases h
  simp only [go_sem]
 ·refine AB h (fun h=>Z ?_) (fun h=>Z ?_)
  ·replace h:=AD h; obtain⟨k,b,h⟩:=h
   refine AH (G2 _ _ b) (Z ?_)
   refine AF ?_
   cases h
   simp only [go_sem]
  ·refine AB h (fun h=>Z ?_) (fun h=>Z ?_)
   ·replace h:=AD h; obtain⟨d,c,h⟩:=h
    refine AH (G2 _ _ c) (Z ?_)
    refine AF ?_
    cases h
    simp only [go_sem]
   ·refine AB h (fun h=>Z ?_) (fun h=>Z ?_)
    ·refine AB h (fun h=>Z ?_) (fun h=>Z ?_)
     ·cases h
      simp only [go_sem]
     ·refine AF ?_
      replace h:=AD h; obtain⟨e,i,h⟩:=h
      refine Al (ZQ i) (Z ?_)
      replace h:=AD h; obtain⟨l,t,h⟩:=h
      refine AH (G2 _ _ t) (Z ?_)
      refine AF ?_
      cases h
      simp only [go_sem]
    ·refine AB h (fun h=>Z ?_) (fun h=>Z ?_)
     ·replace h:=AD h; obtain⟨s,o,h⟩:=h
      refine AH (Pb _ _ o) (Z ?_)
      refine AF ?_
      cases h
      simp only [go_sem]
     ·refine AB h (fun h=>Z ?_) (fun h=>Z ?_)
      ·replace h:=AD h; obtain⟨z,u1,h⟩:=h
       refine AH (Pb _ _ u1) (Z ?_)
       refine AF ?_
       cases h
       simp only [go_sem]
      ·refine AF ?_
       cases h
       simp only [go_sem]
theorem Q5 (a0 a1 a2 r) (h:F5 a0 a1 a2=some r):AG Tryz.prog 54 [.box 1 0,.int .i64 a1,.int .i64 a2] [(1001,⟨List.map Agent.ds a0.agents,some 5,0,false⟩)] [(1,[.own 1001])] (.tup []) [(1501,⟨List.map Agent.ds r.agents,some 5,0,false⟩)] [(1,[.own 1501])] :=by
 unfold F5 at h
 refine agF Tryz.func54 mixed (h:=Z ?_)
 replace h:=AD h; obtain⟨u,w,h⟩:=h
 refine AL w (Agent.ds_len _) (Z ?_)
 replace h:=AD h; obtain⟨y,q,h⟩:=h
 refine SJ (by simp only [AS w,Agent.ds_eq,go_sem,Nat.reduceEqDiff,reduceIte] <;> rfl) (Eh _ _ q) (Z ?_)
 refine AF ?_
 replace h:=AD h; obtain⟨g,j,h⟩:=h
 refine AL j (Agent.ds_len _) (Z ?_)
 refine Aa (AS j) (Z ?_)
 refine AB h (fun h=>Z ?_) (fun h=>Z ?_)
 ·refine AX [false,false,false,false,false,false,false,false,false,true,true] (Tr.sq [9,10] .fin) (by kernel_rfl) (Z ?_)
  replace h:=AD h; obtain⟨k,b,h⟩:=h
  refine AL b rfl (Z ?_)
  refine Aa (AS b) (Z ?_)
  replace h:=AD h; obtain⟨d,c,h⟩:=h
  refine AH (VS _ _ _ _ c) (Z ?_)
  replace h:=AD h; obtain⟨e,i,h⟩:=h
  refine caG ⟨[],[(1001,1001)],[(1,1,0)],[(1501,64144)],[],true⟩ (EH _ _ _ _ _ _ _ i) (Z ?_)
  refine AF ?_
  replace h:=AD h; obtain⟨l,t,h⟩:=h
  refine AH (AT _ _ _ t) (Z ?_)
  replace h:=AD h; obtain⟨s,o,h⟩:=h
  refine AH (AT _ _ _ o) (Z ?_)
  replace h:=AD h; obtain⟨z,u1,h⟩:=h
  refine caG ⟨[],[(1001,64144)],[(1,1,0)],[(1501,80080)],[],true⟩ (C9 _ _ _ _ u1) (Z ?_)
  refine AF ?_
  cases h
  refine BJ (.done _) [(1501,80080)] [(1,1)] ?_
  simp only [go_sem]
 ·refine AF ?_
  replace h:=AD h; obtain⟨u2,u3,h⟩:=h
  refine caG ⟨[],[(1001,1001)],[(1,1,0)],[(1501,96112)],[],false⟩ (EH _ _ _ _ _ _ _ u3) (Z ?_)
  refine AF ?_
  replace h:=AD h; obtain⟨u4,u5,h⟩:=h
  refine AH (AT _ _ _ u5) (Z ?_)
  replace h:=AD h; obtain⟨u6,u7,h⟩:=h
  refine AH (AT _ _ _ u7) (Z ?_)
  replace h:=AD h; obtain⟨u8,u9,h⟩:=h
  refine caG ⟨[],[(1001,96112)],[(1,1,0)],[(1501,112080)],[],true⟩ (C9 _ _ _ _ u9) (Z ?_)
  refine AF ?_
  replace h:=AD h; obtain⟨u10,u11,h⟩:=h
  refine AH (AT _ _ _ u11) (Z ?_)
  replace h:=AD h; obtain⟨u12,u13,h⟩:=h
  refine AH (AT _ _ _ u13) (Z ?_)
  replace h:=AD h; obtain⟨u14,u15,h⟩:=h
  refine caG ⟨[],[(1001,112080)],[(1,1,0)],[(1501,128080)],[],true⟩ (C9 _ _ _ _ u15) (Z ?_)
  cases h
  refine BJ (.done _) [(1501,128080)] [(1,1)] ?_
  simp only [go_sem]
theorem KA (a0:Net) (a2:Int) (u:Agent) (w:Int) (r:Net) (h:Fl a0 a2 u w=some r):DB Tryz.prog Tryz.f55 [1,0,1,0,1,1] (.tup []) [(1501,⟨List.map Agent.ds r.agents,some 5,0,false⟩)] [(1,[.own 1501])] ⟨[(0,.box 1 0),(2,.int .i64 a2),(6,.box 1000000500 0),(7,.int .i64 w)],[(1000000000,some ⟨List.map Agent.ds a0.agents,some 5,0,false⟩),(1000000001,some ⟨List.map Ar u.data,some 1,0,false⟩),(1000000002,some ⟨List.map Port.ds u.ports,some 2,0,false⟩)],[(1,some [.own 1000000000]),(1000000500,some [.int .i64 u.kind,.int .i64 u.level,.int .i64 u.value,.own 1000000001,.own 1000000002])]⟩:=by
 unfold Fl at h
 refine Aq rfl rfl (Z ?_)
 replace h:=AD h; obtain⟨y,q,h⟩:=h
 refine caG ⟨[],[(1001,1000000000)],[(1,1,0)],[(1501,96064)],[],true⟩ (EH _ _ _ _ _ _ _ q) (Z ?_)
 refine AF ?_
 replace h:=AD h; obtain⟨g,j,h⟩:=h
 refine AH (AT _ _ _ j) (Z ?_)
 replace h:=AD h; obtain⟨k,b,h⟩:=h
 refine AH (AT _ _ _ b) (Z ?_)
 replace h:=AD h; obtain⟨d,c,h⟩:=h
 refine caG ⟨[],[(1001,96064)],[(1,1,0)],[(1501,112080)],[],true⟩ (C9 _ _ _ _ c) (Z ?_)
 refine AF ?_
 cases h
 refine BJ (.done _) [(1501,112080)] [(1,1)] ?_
 simp only [go_sem]
theorem Pc (n:Nat):(∀a1 a2 u w y q g j r,DG n a1 a2 u w y q g j=some r→DB Tryz.prog Tryz.f55 [1,1,1,1,1,0,1,0] (.tup []) [(1501,⟨List.map Agent.ds r.agents,some 5,0,false⟩)] [(1,[.own 1501])] ⟨[(0,.box 1 0),(1,.int .i64 a1),(2,.int .i64 a2),(6,.box 1000002500 0),(9,.int .i64 w),(11,.box 1000002501 0),(12,.int .i64 j)],[(1000002000,some ⟨List.map Agent.ds y,some 5,0,false⟩),(1000002001,some ⟨List.map Ar u.data,some 1,0,false⟩),(1000002002,some ⟨List.map Port.ds u.ports,some 2,0,false⟩)],[(1,some [.own 1000002000]),(1000002500,some [.int .i64 u.kind,.int .i64 u.level,.int .i64 u.value,.own 1000002001,.own 1000002002]),(1000002501,some [.int .i64 q,.int .i64 g])]⟩):=by
 induction n with
 |zero=>exact((fun _ _ _ _ _ _ _ _ _ h=>by rw [DG] at h; cases h))
 | succ n ih=>
  have ih0:=ih
  ·intro a1 a2 u w y q g j r h
   rw [DG] at h
   refine Aq rfl rfl (Z ?_)
   refine AY (Z ?_)
   refine AB h (fun h=>Z ?_) (fun h=>Z ?_)
   ·refine AF ?_
    replace h:=AD h; obtain⟨k,b,h⟩:=h
    refine caG ⟨[],[(1001,1000002000)],[(1,1,0)],[(1501,224048)],[],true⟩ (EH _ _ _ _ _ _ _ b) (Z ?_)
    refine AF ?_
    refine AX [false,false,false,false,true] (Tr.sq [4] .fin) (by kernel_rfl) (Z ?_)
    replace h:=AD h; obtain⟨d,c,h⟩:=h
    refine AH (AT _ _ _ c) (Z ?_)
    replace h:=AD h; obtain⟨e,i,h⟩:=h
    refine caG ⟨[],[(1001,224048)],[(1,1,0)],[(1501,240064)],[],true⟩ (GD _ _ _ _ i) (Z ?_)
    refine AF ?_
    replace h:=AD h; obtain⟨l,t,h⟩:=h
    refine AH (AT _ _ _ t) (Z ?_)
    replace h:=AD h; obtain⟨s,o,h⟩:=h
    refine AH (AT _ _ _ o) (Z ?_)
    replace h:=AD h; obtain⟨z,u1,h⟩:=h
    refine caG ⟨[],[(1001,240064)],[(1,1,0)],[(1501,256096)],[],true⟩ (C9 _ _ _ _ u1) (Z ?_)
    refine AF ?_
    replace h:=AD h; obtain⟨u2,u3,h⟩:=h
    refine AH (AT _ _ _ u3) (Z ?_)
    refine AF ?_
    exact lpG (ih0 a1 a2 u w z.agents u2.agent u2.slot (IntKind.i64.wrap (j+1)) _ h) [(1000002000,256096),(1000002001,1000002001),(1000002002,1000002002)] [(1,1),(1000002500,1000002500),(1000002501,1000002501)]
   ·refine AF ?_
    refine AX [false,false,false,false,true] (Tr.sq [4] .fin) (by kernel_rfl) (Z ?_)
    replace h:=AD h; obtain⟨u4,u5,h⟩:=h
    refine AH (AT _ _ _ u5) (Z ?_)
    replace h:=AD h; obtain⟨u6,u7,h⟩:=h
    refine caG ⟨[],[(1001,1000002000)],[(1,1,0)],[(1501,288064)],[],true⟩ (C9 _ _ _ _ u7) (Z ?_)
    cases h
    refine BJ (.done _) [(1501,288064)] [(1,1)] ?_
    simp only [go_sem]
theorem Sq (a0 a1 a2 r) (h:Em a0 a1 a2=some r):AG Tryz.prog 55 [.box 1 0,.int .i64 a1,.int .i64 a2] [(1001,⟨List.map Agent.ds a0.agents,some 5,0,false⟩)] [(1,[.own 1001])] (.tup []) [(1501,⟨List.map Agent.ds r.agents,some 5,0,false⟩)] [(1,[.own 1501])] :=by
 unfold Em at h
 refine agF Tryz.func55 mixed (h:=Z ?_)
 replace h:=AD h; obtain⟨u,w,h⟩:=h
 refine AL w (Agent.ds_len _) (Z ?_)
 replace h:=AD h; obtain⟨y,q,h⟩:=h
 refine SJ (by simp only [AS w,Agent.ds_eq,go_sem,Nat.reduceEqDiff,reduceIte] <;> rfl) (Eh _ _ q) (Z ?_)
 refine AF ?_
 refine AB h (fun h=>Z ?_) (fun h=>Z ?_)
 ·replace h:=AD h; obtain⟨g,j,h⟩:=h
  refine AL j rfl (Z ?_)
  refine Aa (AS j) (Z ?_)
  replace h:=AD h; obtain⟨k,b,h⟩:=h
  refine AL b (Agent.ds_len _) (Z ?_)
  refine Aa (AS b) (Z ?_)
  refine AB h (fun h=>Z ?_) (fun h=>Z ?_)
  ·replace h:=AD h; obtain⟨d,c,h⟩:=h
   refine AL c rfl (Z ?_)
   refine Aa (AS c) (Z ?_)
   exact BB (KA a0 a2 y d _ h) [(1000000000,1001),(1000000001,16096),(1000000002,16097)] [(1,1),(1000000500,1007)]
  ·exact BB (KA a0 a2 y g _ h) [(1000000000,1001),(1000000001,16096),(1000000002,16097)] [(1,1),(1000000500,1007)]
 ·refine AF ?_
  replace h:=AD h; obtain⟨e,i,h⟩:=h
  refine AL i (Agent.ds_len _) (Z ?_)
  replace h:=AD h; obtain⟨l,t,h⟩:=h
  refine SJ (by simp only [AS i,Agent.ds_eq,go_sem,Nat.reduceEqDiff,reduceIte] <;> rfl) (Ha _ _ t) (Z ?_)
  refine AF ?_
  refine AX [false,false,false,false,false,false,false,false,false,false,false,false,false,false,false,true,true] (Tr.sq [15,16] .fin) (by kernel_rfl) (Z ?_)
  replace h:=AD h; obtain⟨s,o,h⟩:=h
  refine AL o (Agent.ds_len _) (Z ?_)
  refine Aa (AS o) (Z ?_)
  replace h:=AD h; obtain⟨z,u1,h⟩:=h
  refine AL u1 rfl (Z ?_)
  refine Aa (AS u1) (Z ?_)
  replace h:=AD h; obtain⟨u2,u3,h⟩:=h
  refine caG ⟨[],[(1001,1001)],[(1,1,0)],[(1501,144240)],[],true⟩ (EH _ _ _ _ _ _ _ u3) (Z ?_)
  refine AF ?_
  replace h:=AD h; obtain⟨u4,u5,h⟩:=h
  refine AH (AT _ _ _ u5) (Z ?_)
  refine AF ?_
  exact loG (Pc fuel a1 a2 y l u2.2.agents u4.agent u4.slot 1 _ h) [(1000002000,144240),(1000002001,16096),(1000002002,16097)] [(1,1),(1000002500,1007),(1000002501,10002)]
theorem Nc (n:Nat):(∀a0 a1 a3 u w y r,BM n a0 a1 a3 u w y=some r→DB Tryz.prog Tryz.f56 [1,1,0,1,0] (.tup []) [(1501,⟨List.map Agent.ds r.agents,some 5,0,false⟩)] [(1,[.own 1501])] ⟨[(0,.rop [.ro (a0.agents.map Agent.ds)] 0),(1,.box 1 0),(3,.int .i64 a3),(8,.int .i64 u.level),(9,.int .i64 (IntKind.i64.wrap ((a1.agents.length:Int) - 1))),(10,.int .i64 y)],[(1000006000,some ⟨List.map Agent.ds w,some 5,0,false⟩)],[(1,some [.own 1000006000])]⟩)∧
    (∀a0 a1 a3 w y u q g r,DQ n a0 a1 a3 w y u q g=some r→DB Tryz.prog Tryz.f56 [1,1,0,1,0,0,1,0,0,1,1] (.tup []) [(1501,⟨List.map Agent.ds r.agents,some 5,0,false⟩)] [(1,[.own 1501])] ⟨[(0,.rop [.ro (a0.agents.map Agent.ds)] 0),(1,.box 1 0),(3,.int .i64 a3),(8,.int .i64 u.level),(9,.int .i64 (IntKind.i64.wrap ((a1.agents.length:Int) - 1))),(10,.int .i64 y),(11,.box 1000007500 0)],[(1000007000,some ⟨List.map Agent.ds w,some 5,0,false⟩),(1000007001,some ⟨List.map Ar q.data,some 1,0,false⟩),(1000007002,some ⟨List.map Port.ds q.ports,some 2,0,false⟩)],[(1,some [.own 1000007000]),(1000007500,some [.int .i64 q.kind,.int .i64 g,.int .i64 q.value,.own 1000007001,.own 1000007002])]⟩)∧
    (∀a0 a1 a3 w y g u q j k r,Ck n a0 a1 a3 w y g u q j k=some r→DB Tryz.prog Tryz.f56 [1,1,0,1,0,0,1,0,0,1,1,0,1,0] (.tup []) [(1501,⟨List.map Agent.ds r.agents,some 5,0,false⟩)] [(1,[.own 1501])] ⟨[(0,.rop [.ro (a0.agents.map Agent.ds)] 0),(1,.box 1 0),(3,.int .i64 a3),(8,.int .i64 u.level),(9,.int .i64 (IntKind.i64.wrap ((a1.agents.length:Int) - 1))),(10,.int .i64 y),(11,.box 1000011500 0),(12,.int .i64 k)],[(1000011000,some ⟨List.map Agent.ds w,some 5,0,false⟩),(1000011001,some ⟨List.map Ar q.data,some 1,0,false⟩),(1000011002,some ⟨List.map Port.ds j,some 2,0,false⟩)],[(1,some [.own 1000011000]),(1000011500,some [.int .i64 q.kind,.int .i64 g,.int .i64 q.value,.own 1000011001,.own 1000011002])]⟩):=by
 induction n with
 |zero=>exact⟨(fun _ _ _ _ _ _ _ h=>by rw [BM] at h; cases h),(fun _ _ _ _ _ _ _ _ _ h=>by rw [DQ] at h; cases h),(fun _ _ _ _ _ _ _ _ _ _ _ h=>by rw [Ck] at h; cases h)⟩
 | succ n ih=>
  obtain⟨ih0,ih1,ih2⟩:=ih
  refine⟨?_,?_,?_⟩
  ·intro a0 a1 a3 u w y r h
   rw [BM] at h
   refine Aq rfl rfl (Z ?_)
   refine AY (Z ?_)
   refine AB h (fun h=>Z ?_) (fun h=>Z ?_)
   ·refine AF ?_
    replace h:=AD h; obtain⟨b,d,h⟩:=h
    refine AL d (Agent.ds_len _) (Z ?_)
    replace h:=AD h; obtain⟨q,c,h⟩:=h
    refine AH (Eh _ _ c) (Z ?_)
    refine AF ?_
    replace h:=AD h; obtain⟨e,i,h⟩:=h
    refine AH (KM _ _ i) (Z ?_)
    refine AF ?_
    refine AB h (fun h=>Z ?_) (fun h=>Z ?_)
    ·exact BB (ih1 a0 a1 a3 w y u q (IntKind.i64.wrap (q.level+u.level)) _ h) [(1000007000,1000006000),(1000007001,96096),(1000007002,96097)] [(1,1),(1000007500,6007)]
    ·exact BB (ih1 a0 a1 a3 w y u q q.level _ h) [(1000007000,1000006000),(1000007001,96096),(1000007002,96097)] [(1,1),(1000007500,6007)]
   ·refine AF ?_
    replace h:=AD h; obtain⟨l,t,h⟩:=h
    refine AL t (Agent.ds_len _) (Z ?_)
    replace h:=AD h; obtain⟨s,o,h⟩:=h
    refine AL o (Port.ds_len _) (Z ?_)
    refine AF ?_
    replace h:=AD h; obtain⟨z,u1,h⟩:=h
    refine AH (AT _ _ _ u1) (Z ?_)
    replace h:=AD h; obtain⟨u2,u3,h⟩:=h
    refine AH (AT _ _ _ u3) (Z ?_)
    replace h:=AD h; obtain⟨u4,u5,h⟩:=h
    refine caG ⟨[],[(1001,1000006000)],[(1,1,0)],[(1501,240160)],[],true⟩ (GD _ _ _ _ u5) (Z ?_)
    cases h
    refine BJ (.done _) [(1501,240160)] [(1,1)] ?_
    simp only [go_sem]
  ·intro a0 a1 a3 w y u q g r h
   rw [DQ] at h
   refine Aq rfl rfl (Z ?_)
   exact loG (ih2 a0 a1 a3 w y g u q q.ports 0 _ h) [(1000011000,1000007000),(1000011001,1000007001),(1000011002,1000007002)] [(1,1),(1000011500,1000007500)]
  ·intro a0 a1 a3 w y g u q j k r h
   rw [Ck] at h
   refine Aq rfl rfl (Z ?_)
   refine AY (Z ?_)
   refine AB h (fun h=>Z ?_) (fun h=>Z ?_)
   ·refine AF ?_
    replace h:=AD h; obtain⟨u6,u7,h⟩:=h
    refine AL u7 (Port.ds_len _) (Z ?_)
    refine Aa (AS u7) (Z ?_)
    replace h:=AD h; obtain⟨u8,u9,h⟩:=h
    refine AL u9 (Port.ds_len _) (Z ?_)
    replace h:=AD h; obtain⟨u10,u11,h⟩:=h
    refine Aa (AS u9) (Z ?_)
    refine Ag (u10.map Port.ds) (by rw [← Ai u11]; simp only [List.map_set,go_sem,Port.ds_eq]) (Z ?_)
    refine AF ?_
    exact lpG (ih2 a0 a1 a3 w y g u q u10 (IntKind.i64.wrap (k+1)) _ h) [(1000011000,1000011000),(1000011001,1000011001),(1000011002,1000011002)] [(1,1),(1000011500,1000011500)]
   ·refine AF ?_
    refine AX [false,false,false,false,false,false,false,true,true,true,true] (Tr.sq [7,8,9,10] .fin) (by kernel_rfl) (Z ?_)
    replace h:=AD h; obtain⟨u12,u13,h⟩:=h
    have hq_:=An u13
    obtain⟨hv13007a,hv13007b⟩:=hq_
    refine C3 false (Z ?_)
    refine Al (by refine⟨?_,?_⟩ <;> (try simp only [List.length_map,List.length_append,List.length_cons,List.length_nil] at*) <;> (try unfold maxLen) <;> omega) (Z ?_)
    refine Ag (u12.map Agent.ds) (by rw [← hv13007b]; simp only [List.map_append,List.map_cons,List.map_nil,List.nil_append,List.append_nil,go_sem,Agent.ds_eq]) (Z ?_)
    refine AF ?_
    exact lpG (ih0 a0 a1 a3 u u12 (IntKind.i64.wrap (y+1)) _ h) [(1000006000,208112)] [(1,1)]
def OZ (n:Nat):=(Nc n).1
theorem Sr (a0 a1 a2 a3 r) (h:IK a0 a1 a2 a3=some r):AG Tryz.prog 56 [.rop [.ro (a0.agents.map Agent.ds)] 0,.box 1 0,.int .i64 a2,.int .i64 a3] [(1001,⟨List.map Agent.ds a1.agents,some 5,0,false⟩)] [(1,[.own 1001])] (.tup []) [(1501,⟨List.map Agent.ds r.agents,some 5,0,false⟩)] [(1,[.own 1501])] :=by
 unfold IK at h
 refine agF Tryz.func56 mixed (h:=Z ?_)
 replace h:=AD h; obtain⟨u,w,h⟩:=h
 refine AL w (Agent.ds_len _) (Z ?_)
 refine Aa (AS w) (Z ?_)
 exact loG (OZ fuel a0 a1 a3 u a1.agents 1 _ h) [(1000006000,1001)] [(1,1)]
theorem Mw (a0 a1 r) (h:EE a0 a1=some r):AG Tryz.prog 57 [.box 1 0,.int .i64 a1] [(1001,⟨List.map Agent.ds a0.agents,some 5,0,false⟩)] [(1,[.own 1001])] (.tup []) [(1501,⟨List.map Agent.ds r.agents,some 5,0,false⟩)] [(1,[.own 1501])] :=by
 unfold EE at h
 refine agF Tryz.func57 mixed (h:=Z ?_)
 replace h:=AD h; obtain⟨u,w,h⟩:=h
 refine AL w (Agent.ds_len _) (Z ?_)
 replace h:=AD h; obtain⟨y,q,h⟩:=h
 refine Aa (AS w) (Z ?_)
 refine Ag (y.map Agent.ds) (by rw [← Ai q]; simp only [List.map_set,go_sem,Agent.ds_eq]) (Z ?_)
 cases h
 refine BJ (.done _) [(1501,1001)] [(1,1)] ?_
 simp only [go_sem]
theorem EV (u:Int × Int) (w:Int) (y:List Agent) (r:Int × Net) (h:Cy u w y=some r):DB Tryz.prog Tryz.f24 [1,1,1,1,1,1,1] (.int .i64 r.1) [(1501,⟨List.map Agent.ds r.2.agents,some 5,0,false⟩)] [(1,[.own 1501])] ⟨[(1,.box 1 0),(2,.int .i64 u.1),(3,.int .i64 u.2),(11,.int .i64 w)],[(1000002000,some ⟨List.map Agent.ds y,some 5,0,false⟩)],[(1,some [.own 1000002000])]⟩:=by
 unfold Cy at h
 refine Aq rfl rfl (Z ?_)
 replace h:=AD h; obtain⟨q,g,h⟩:=h
 refine caG ⟨[],[(1001,1000002000)],[(1,1,0)],[(1501,464032)],[],true⟩ (Mw _ _ _ g) (Z ?_)
 refine AF ?_
 refine AB h (fun h=>Z ?_) (fun h=>Z ?_)
 ·replace h:=AD h; obtain⟨j,k,h⟩:=h
  refine caG ⟨[],[(1001,464032)],[(1,1,0)],[(1501,496032)],[],true⟩ (Mw _ _ _ k) (Z ?_)
  refine AF ?_
  cases h
  refine BJ (.done _) [(1501,496032)] [(1,1)] ?_
  simp only [go_sem]
 ·refine AF ?_
  cases h
  refine BJ (.done _) [(1501,464032)] [(1,1)] ?_
  simp only [go_sem]
theorem TR (n:Nat):(∀u w y q g r,EM n u w y q g=some r→DB Tryz.prog Tryz.f24 [1,1,1,1,1,1,0,1,0,1,1,1,1,1,0,1,1,0] (.int .i64 r.1) [(1501,⟨List.map Agent.ds r.2.agents,some 5,0,false⟩)] [(1,[.own 1501])] ⟨[(1,.box 1 0),(2,.int .i64 u.1),(3,.int .i64 u.2),(11,.int .i64 w),(12,.int .i64 (y.ports.length:Int)),(13,.int .i64 g)],[(1000003000,some ⟨List.map Agent.ds q,some 5,0,false⟩)],[(1,some [.own 1000003000])]⟩):=by
 induction n with
 |zero=>exact((fun _ _ _ _ _ _ h=>by rw [EM] at h; cases h))
 | succ n ih=>
  have ih0:=ih
  ·intro u w y q g r h
   rw [EM] at h
   refine Aq rfl rfl (Z ?_)
   refine AY (Z ?_)
   refine AB h (fun h=>Z ?_) (fun h=>Z ?_)
   ·refine AF ?_
    replace h:=AD h; obtain⟨j,k,h⟩:=h
    refine caG ⟨[],[(1001,1000003000)],[(1,1,0)],[(1501,336016)],[],true⟩ (EH _ _ _ _ _ _ _ k) (Z ?_)
    refine AF ?_
    replace h:=AD h; obtain⟨b,d,h⟩:=h
    refine AH (AT _ _ _ d) (Z ?_)
    replace h:=AD h; obtain⟨c,e,h⟩:=h
    refine AH (AT _ _ _ e) (Z ?_)
    replace h:=AD h; obtain⟨i,l,h⟩:=h
    refine caG ⟨[],[(1001,336016)],[(1,1,0)],[(1501,352096)],[],true⟩ (C9 _ _ _ _ l) (Z ?_)
    refine AF ?_
    exact lpG (ih0 u w y i.agents (IntKind.i64.wrap (g+1)) _ h) [(1000003000,352096)] [(1,1)]
   ·exact BB (EV u w q _ h) [(1000002000,1000003000)] [(1,1)]
theorem Nu (a0:List Net) (a1:Net) (u:Int × Int) (w:Int) (y:Bool) (r:Int × Net) (h:Gg a0 a1 u w y=some r):DB Tryz.prog Tryz.f24 [1,1,1,1,1,1,0,1,0,1] (.int .i64 r.1) [(1501,⟨List.map Agent.ds r.2.agents,some 5,0,false⟩)] [(1,[.own 1501])] ⟨[(0,.ro (a0.map Net.ds)),(1,.box 1 0),(2,.int .i64 u.1),(3,.int .i64 u.2),(11,.int .i64 w),(51,.int .i64 w),(52,.bool y)],[(1000000000,some ⟨List.map Agent.ds a1.agents,some 5,0,false⟩)],[(1,some [.own 1000000000])]⟩:=by
 unfold Gg at h
 refine Aq rfl rfl (Z ?_)
 refine AB h (fun h=>Z ?_) (fun h=>Z ?_)
 ·replace h:=AD h; obtain⟨q,g,h⟩:=h
  refine AH (AT _ _ _ g) (Z ?_)
  replace h:=AD h; obtain⟨k,b,h⟩:=h
  refine AH (AT _ _ _ b) (Z ?_)
  replace h:=AD h; obtain⟨d,c,h⟩:=h
  refine caG ⟨[],[(1001,1000000000)],[(1,1,0)],[(1501,192080)],[],true⟩ (PY _ _ _ _ c) (Z ?_)
  refine AF ?_
  replace h:=AD h; obtain⟨e,i,h⟩:=h
  refine AH (AT _ _ _ i) (Z ?_)
  replace h:=AD h; obtain⟨l,t,h⟩:=h
  refine AH (AT _ _ _ t) (Z ?_)
  replace h:=AD h; obtain⟨s,o,h⟩:=h
  refine caG ⟨[],[(1001,192080)],[(1,1,0)],[(1501,208080)],[],true⟩ (PY _ _ _ _ o) (Z ?_)
  exact BB (EV u w s.agents _ h) [(1000002000,208080)] [(1,1)]
 ·refine AB h (fun h=>Z ?_) (fun h=>Z ?_)
  ·replace h:=AD h; obtain⟨z,u1,h⟩:=h
   refine caG ⟨[],[(1001,1000000000)],[(1,1,0)],[(1501,240048)],[],true⟩ (Pa _ _ _ _ u1) (Z ?_)
   exact BB (EV u w z.agents _ h) [(1000002000,240048)] [(1,1)]
  ·refine AB h (fun h=>Z ?_) (fun h=>Z ?_)
   ·replace h:=AD h; obtain⟨u2,u3,h⟩:=h
    refine AL u3 (Agent.ds_len _) (Z ?_)
    refine Aa (AS u3) (Z ?_)
    refine Aa (Ec (sz:=5) (j:=4) (r:=List.map Port.ds u2.ports) (AS (f:=Agent.ds) u3) (Agent.ds_len _) (by rw [Agent.ds_eq]; rfl)) (Z ?_)
    exact loG (TR fuel u w u2 a1.agents 1 _ h) [(1000003000,1000000000)] [(1,1)]
   ·refine AB h (fun h=>Z ?_) (fun h=>Z ?_)
    ·replace h:=AD h; obtain⟨u4,u5,h⟩:=h
     refine caG ⟨[],[(1001,1000000000)],[(1,1,0)],[(1501,384048)],[],true⟩ (Q5 _ _ _ _ u5) (Z ?_)
     exact BB (EV u w u4.agents _ h) [(1000002000,384048)] [(1,1)]
    ·refine AB h (fun h=>Z ?_) (fun h=>Z ?_)
     ·replace h:=AD h; obtain⟨u6,u7,h⟩:=h
      refine caG ⟨[],[(1001,1000000000)],[(1,1,0)],[(1501,416048)],[],true⟩ (Sq _ _ _ _ u7) (Z ?_)
      exact BB (EV u w u6.agents _ h) [(1000002000,416048)] [(1,1)]
     ·refine AB h (fun h=>Z ?_) (fun h=>Z ?_)
      ·replace h:=AD h; obtain⟨u8,u9,h⟩:=h
       refine AL u9 (Agent.ds_len _) (Z ?_)
       refine Aa (AS u9) (Z ?_)
       replace h:=AD h; obtain⟨u10,u11,h⟩:=h
       refine AL u11 (Net.ds_len _) (Z ?_)
       replace h:=AD h; obtain⟨u12,u13,h⟩:=h
       refine caG ⟨[],[(1001,1000000000)],[(1,1,0)],[(1501,448208)],[],true⟩ (Sr _ _ _ _ _ u13) (Z ?_)
       exact BB (EV u w u12.agents _ h) [(1000002000,448208)] [(1,1)]
      ·exact BB (EV u w a1.agents _ h) [(1000002000,1000000000)] [(1,1)]
theorem Yv (a0 a1 a2 a3 r) (h:E0 a0 a1 a2 a3=some r):AG Tryz.prog 24 [.ro (a0.map Net.ds),.box 1 0,.int .i64 a2,.int .i64 a3] [(1001,⟨List.map Agent.ds a1.agents,some 5,0,false⟩)] [(1,[.own 1001])] (.int .i64 r.1) [(1501,⟨List.map Agent.ds r.2.agents,some 5,0,false⟩)] [(1,[.own 1501])] :=by
 unfold E0 at h
 refine agF Tryz.func24 mixed (h:=Z ?_)
 replace h:=AD h; obtain⟨u,w,h⟩:=h
 refine AH (So _ _ _ _ _ w) (Z ?_)
 refine AF ?_
 refine AB h (fun h=>Z ?_) (fun h=>Z ?_)
 ·cases h
  refine BJ (.done _) [(1501,1001)] [(1,1)] ?_
  simp only [go_sem]
 ·refine AF ?_
  replace h:=AD h; obtain⟨y,q,h⟩:=h
  refine AH (VQ _ _ q) (Z ?_)
  refine AF ?_
  refine AB h (fun h=>Z ?_) (fun h=>Z ?_)
  ·cases h
   refine BJ (.done _) [(1501,1001)] [(1,1)] ?_
   simp only [go_sem]
  ·refine AF ?_
   replace h:=AD h; obtain⟨g,j,h⟩:=h
   refine AH (KN _ _ _ _ j) (Z ?_)
   refine AF ?_
   refine AX [] .fin (by kernel_rfl) (Z ?_)
   replace h:=AD h; obtain⟨k,b,h⟩:=h
   refine AL b (Agent.ds_len _) (Z ?_)
   replace h:=AD h; obtain⟨d,c,h⟩:=h
   refine AL c (Agent.ds_len _) (Z ?_)
   replace h:=AD h; obtain⟨e,i,h⟩:=h
   refine SJ (by simp only [AS b,AS c,Agent.ds_eq,go_sem,Nat.reduceEqDiff,reduceIte] <;> rfl) (KO _ _ _ i) (Z ?_)
   refine AF ?_
   refine AB h (fun h=>Z ?_) (fun h=>Z ?_)
   ·exact BB (Nu a0 a1 g e (decide (e=1)) _ h) [(1000000000,1001)] [(1,1)]
   ·exact BB (Nu a0 a1 g e (decide (e=2)) _ h) [(1000000000,1001)] [(1,1)]
theorem Pd (n:Nat):(∀a0 u w r,CE n a0 u w=some r→Af Tryz.prog Tryz.f42 [1,1,0,1,0] (.ow (some 2) (r.map Pair.ds)) ⟨[(0,.rop [.ro (a0.agents.map Agent.ds)] 0),(3,.own 1000002000),(4,.int .i64 w)],[(1000002000,some ⟨List.map Pair.ds u,some 2,0,false⟩)],[]⟩)∧
    (∀a0 u w y q r,FS n a0 u w y q=some r→Af Tryz.prog Tryz.f42 [1,1,0,1,0,0,1,0,0,1,1,1] (.ow (some 2) (r.map Pair.ds)) ⟨[(0,.rop [.ro (a0.agents.map Agent.ds)] 0),(3,.own 1000003000),(4,.int .i64 w),(5,.box 1000003500 0),(43,.bool q)],[(1000003000,some ⟨List.map Pair.ds u,some 2,0,false⟩)],[(1000003500,some [.int .i64 y.agent,.int .i64 y.slot])]⟩):=by
 induction n with
 |zero=>exact⟨(fun _ _ _ _ h=>by rw [CE] at h; cases h),(fun _ _ _ _ _ _ h=>by rw [FS] at h; cases h)⟩
 | succ n ih=>
  obtain⟨ih0,ih1⟩:=ih
  refine⟨?_,?_⟩
  ·intro a0 u w r h
   rw [CE] at h
   refine AN rfl rfl (Z ?_)
   refine AY (Z ?_)
   refine AB h (fun h=>Z ?_) (fun h=>Z ?_)
   ·refine AF ?_
    replace h:=AD h; obtain⟨g,j,h⟩:=h
    refine AL j (Agent.ds_len _) (Z ?_)
    refine AB h (fun h=>Z ?_) (fun h=>Z ?_)
    ·refine AF ?_
     exact lpF (ih0 a0 u (IntKind.i64.wrap (w+1)) _ h) [(1000002000,1000002000)] []
    ·refine AF ?_
     replace h:=AD h; obtain⟨k,b,h⟩:=h
     refine AL b (Agent.ds_len _) (Z ?_)
     replace h:=AD h; obtain⟨y,d,h⟩:=h
     refine AL d (Port.ds_len _) (Z ?_)
     refine AF ?_
     refine AB h (fun h=>Z ?_) (fun h=>Z ?_)
     ·exact AR (ih1 a0 u w y (decide (w<y.agent)) _ h) [(1000003000,1000002000)] [(1000003500,7010)]
     ·exact AR (ih1 a0 u w y false _ h) [(1000003000,1000002000)] [(1000003500,7010)]
   ·refine AF ?_
    cases h
    simp only [go_sem]
  ·intro a0 u w y q r h
   rw [FS] at h
   refine AN rfl rfl (Z ?_)
   refine AB h (fun h=>Z ?_) (fun h=>Z ?_)
   ·replace h:=AD h; obtain⟨c,e,h⟩:=h
    have hq_:=An e
    obtain⟨hv9006a,hv9006b⟩:=hq_
    refine C3 false (Z ?_)
    refine Al (by refine⟨?_,?_⟩ <;> (try simp only [List.length_map,List.length_append,List.length_cons,List.length_nil] at*) <;> (try unfold maxLen) <;> omega) (Z ?_)
    refine Ag (c.map Pair.ds) (by rw [← hv9006b]; simp only [List.map_append,List.map_cons,List.map_nil,List.nil_append,List.append_nil,go_sem,Pair.ds_eq]) (Z ?_)
    refine AF ?_
    exact lpF (ih0 a0 c (IntKind.i64.wrap (w+1)) _ h) [(1000002000,144096)] []
   ·refine AF ?_
    exact lpF (ih0 a0 u (IntKind.i64.wrap (w+1)) _ h) [(1000002000,1000003000)] []
def QL (n:Nat):=(Pd n).1
theorem TS (a0 r) (h:JV a0=some r):AC Tryz.prog 42 [.rop (Net.avs a0) 0] (.ow (some 2) (r.map Pair.ds)):=by
 unfold JV at h
 refine acF Tryz.func42 mixed (h:=Z ?_)
 refine AF ?_
 refine D0 (DN rfl rfl (QL fuel a0 [] 1 _ h):) (.one ⟨_,.lit 3 2000000000 2000 0 2 false [] _ _ (by (first|rfl|(simp only [go_sem]; rfl))) (by simp only [go_sem]; rfl) (by (first|rfl|(simp only [go_sem]; rfl))) (by (first|rfl|(simp only [go_sem]; rfl))) (by decide) (by decide) (by simp only [go_sem]) (.done _),[(1000002000,2000000000)],[],?_⟩)
 simp only [go_sem]
 all_goals try rfl
theorem VT (a0 a1 r) (h:Kj a0 a1=some r):AC Tryz.prog 22 [.rop (Net.avs a0) 0,.int .i64 a1] (.tup [.agg (Pair.rv r.1),.int .i64 r.2]):=by
 unfold Kj at h
 refine acF Tryz.func22 mixed (h:=Z ?_)
 refine AF ?_
 replace h:=AD h; obtain⟨u,w,h⟩:=h
 refine AH (Oa _ _ w) (Z ?_)
 refine AF ?_
 refine AB h (fun h=>Z ?_) (fun h=>Z ?_)
 ·cases h
  simp only [go_sem]
 ·refine AF ?_
  replace h:=AD h; obtain⟨y,q,h⟩:=h
  refine AH (TS _ _ q) (Z ?_)
  refine AF ?_
  replace h:=AD h; obtain⟨g,j,h⟩:=h
  refine AH (By _ _ _ _ j) (Z ?_)
  refine AF ?_
  refine AB h (fun h=>Z ?_) (fun h=>Z ?_)
  ·cases h
   simp only [go_sem]
  ·refine AF ?_
   replace h:=AD h; obtain⟨k,b,h⟩:=h
   refine AL b (Pair.ds_len _) (Z ?_)
   refine Aa (AS b) (Z ?_)
   cases h
   simp only [go_sem]
theorem Ss (n:Nat):(∀a0 u w r,Fm n a0 u w=some r→Af Tryz.prog Tryz.f23 [1,1,0,1,0] (.agg (Net.rv r)) ⟨[(0,.rop [.ro (a0.agents.map Agent.ds)] 0),(2,.box 1000001500 0),(3,.box 1000001501 0),(4,.int .i64 w)],[(1000001000,some ⟨List.map Agent.ds u,some 5,0,false⟩)],[(1000001500,some [.nils]),(1000001501,some [.own 1000001000])]⟩):=by
 induction n with
 |zero=>exact((fun _ _ _ _ h=>by rw [Fm] at h; cases h))
 | succ n ih=>
  have ih0:=ih
  ·intro a0 u w r h
   rw [Fm] at h
   refine AN rfl rfl (Z ?_)
   refine AY (Z ?_)
   refine AB h (fun h=>Z ?_) (fun h=>Z ?_)
   ·refine AF ?_
    refine AX [false,false,false,false,false,false,false,false,false,false,true,true,true] (Tr.sq [10,11,12] .fin) (by kernel_rfl) (Z ?_)
    replace h:=AD h; obtain⟨y,q,h⟩:=h
    refine AL q (Agent.ds_len _) (Z ?_)
    replace h:=AD h; obtain⟨g,j,h⟩:=h
    refine AH (Eh _ _ j) (Z ?_)
    replace h:=AD h; obtain⟨k,b,h⟩:=h
    have hq_:=An b
    obtain⟨hv6010a,hv6010b⟩:=hq_
    refine C3 false (Z ?_)
    refine Al (by refine⟨?_,?_⟩ <;> (try simp only [List.length_map,List.length_append,List.length_cons,List.length_nil] at*) <;> (try unfold maxLen) <;> omega) (Z ?_)
    refine Ag (k.map Agent.ds) (by rw [← hv6010b]; simp only [List.map_append,List.map_cons,List.map_nil,List.nil_append,List.append_nil,go_sem,Agent.ds_eq]) (Z ?_)
    refine AF ?_
    exact lpF (ih0 a0 k (IntKind.i64.wrap (w+1)) _ h) [(1000001000,96160)] [(1000001500,1000001500),(1000001501,1000001501)]
   ·refine AF ?_
    cases h
    simp only [go_sem]
theorem Xc (a0 r) (h:Mc a0=some r):AC Tryz.prog 23 [.rop (Net.avs a0) 0] (.agg (Net.rv r)):=by
 unfold Mc at h
 refine acF Tryz.func23 mixed (h:=Z ?_)
 refine AF ?_
 refine AF ?_
 refine D0 (DN rfl rfl (Ss fuel a0 [] 0 _ h):) (.one ⟨_,.cell 2001 0 2000000000 (some 5) false _ (by simp only [go_sem]; rfl) (by rfl) (by simp only [go_sem]) (.done _),[(1000001000,2000000000)],[(1000001500,1000),(1000001501,2001)],?_⟩)
 simp only [go_sem]
 all_goals try rfl
end Go.Proofs.YteckcjgpnegkjaaGreat.Ab
