/- The functions do what their models say. -/
import Derived.Test.YthenkmapmnkelaaGreatDoorModS
import Derived.Test.YthenkmapmnkelaaGreatDoorTi2
import Derived.Test.YthenkmapmnkelaaGreatDoorWlkR
import Derived.Test.YthenkmapmnkelaaGreatDoorWlkQ
namespace Go.Proofs.YthenkmapmnkelaaGreatDoor.Ab
set_option linter.defProp false
set_option linter.unusedVariables false
set_option linter.unusedSimpArgs false
set_option maxRecDepth 20000
set_option maxHeartbeats 4000000
open Go.RowKit _root_.Go.Proofs.Tryz
theorem VI (a0 r) (h:JS a0=some r):AC prog 115 [.agg (Port.avs a0)] (.str r):=by
 unfold JS at h
 refine acF func115 mixed (h:=Z ?_)
 refine AW [] .fin (by kernel_rfl) (Z ?_)
 replace h:=AB h; obtain⟨u,w,h⟩:=h
 refine AL (Lw _ _ w) (Z ?_)
 replace h:=AB h; obtain⟨y,q,h⟩:=h
 have J:=Fe q
 obtain⟨G,C⟩:=J
 refine BH G ?_
 rw [C]
 try simp only [go_sem]
 replace h:=AB h; obtain⟨g,j,h⟩:=h
 refine AL (Lw _ _ j) (Z ?_)
 replace h:=AB h; obtain⟨k,b,h⟩:=h
 have J:=Fe b
 obtain⟨I,F⟩:=J
 refine BH I ?_
 rw [F]
 try simp only [go_sem]
 replace h:=AB h; obtain⟨d,c,h⟩:=h
 have J:=Fe c
 obtain⟨p,v⟩:=J
 refine BH p ?_
 rw [v]
 try simp only [go_sem]
 exact AF trivial h
theorem DP (a0 a1 r) (h:Bb a0 a1=some r):AG prog 116 [.box 1 0,.int .i64 a1] [(1001,⟨List.map AD a0.entered,some 1,0,.no⟩),(1002,⟨List.map AD a0.origins,some 1,0,.no⟩),(1003,⟨List.map Be a0.labels,some 1,0,.no⟩)] [(1,[.rop [.ro (a0.n.agents.map Agent.ds)] 0,.int .i64 a0.steps,.int .i64 a0.nodes,.own 1001,.own 1002,.own 1003,.int .i64 a0.code])] (.agg [.int .i64 r.1.kind,.int .i64 r.1.value,.own 1501,.own 1502]) [(1501,⟨List.map AD r.1.data,some 1,0,.no⟩),(1502,⟨List.map Core.ds r.1.kids,some 4,0,.no⟩),(1503,⟨List.map AD r.2.entered,some 1,0,.no⟩),(1504,⟨List.map AD r.2.origins,some 1,0,.no⟩),(1505,⟨List.map Be r.2.labels,some 1,0,.no⟩)] [(1,[.rop [.ro (r.2.n.agents.map Agent.ds)] 0,.int .i64 r.2.steps,.int .i64 r.2.nodes,.own 1503,.own 1504,.own 1505,.int .i64 r.2.code])] :=by
 unfold Bb at h
 refine agF func116 mixed (h:=Z ?_)
 refine AK ?_
 refine AI h (fun h=>Z ?_) (fun h=>Z ?_)
 all_goals
  refine AK ?_
  cases h
  exact C8 (.dp 0 2000000000 (some 1) .no [2] (k:=.dp 0 2000000001 (some 4) .no [3] (k:=.done _))) ((1501,2000000000)::(1502,2000000001)::r3 1503 1001 []) [(1,1)]
theorem R8 (a0 a1 a2 r) (h:Kr a0 a1 a2=some r):AG prog 117 [.ro (List.map (slD AD) a0),.int .i64 a1,.ro (a2.map AD)] [] [] (.ro (List.map (slD AD) r)) [] [] :=by
 unfold Kr at h
 refine agF func117 mixed (h:=Z ?_)
 replace h:=AB h; obtain⟨u,w,h⟩:=h
 have C:=AT w
 obtain⟨v,p⟩:=C
 refine BO .yes (Z ?_)
 refine BH (UA (by intro x; exact⟨rfl,nm x⟩) _) (Z ?_)
 refine Ar (List.map (szD AD) a0) (cR nk _) (Z ?_)
 refine By (Z ?_)
 refine Ar (List.map (szD AD) u) (by rw [← p]; simp only [List.map_append,List.map_cons,List.map_nil,List.nil_append,List.append_nil,go_sem,slD,szD]) (Z ?_)
 refine AK ?_
 replace h:=AB h; obtain⟨y,q,h⟩:=h
 refine AS q rfl (Z ?_)
 replace h:=AB h; obtain⟨g,j,h⟩:=h
 refine AX (AP q) (Z ?_)
 refine Ar (List.map (szD AD) g) (by rw [← Ah j]; simp only [List.map_set,go_sem,slD,szD]) (Z ?_)
 cases h
 exact C8 (.fT 32032 [(0,[])] [] (k:=.done _)) [] []
theorem RQ (n:Nat):(∀C u w r,C4 n C u w=some r→BK prog f118 [1,0,0,1,1,1,1,1,1,1,1,1,1,1,1,1,0,1,0,1,0] (.tup [.int .i64 r.1,.own 1501]) [(1501,⟨List.map AD r.2,some 1,0,.no⟩)] [] ⟨[(0,.rop (Agent.avs C) 0),(6,.own 1000011000),(7,.int .i64 w)],[(1000011000,some ⟨List.map AD u,some 1,0,.no⟩)],[]⟩):=by
 induction n with
 |zero=>exact((fun _ _ _ _ h=>by rw [C4] at h; cases h))
 | succ n ih=>
  have v:=ih
  ·intro C u w r h
   rw [C4] at h
   refine AM rfl rfl (Z ?_)
   refine Ai (Z ?_)
   refine AI h (fun h=>Z ?_) (fun h=>Z ?_)
   ·refine AK ?_
    replace h:=AB h; obtain⟨y,q,h⟩:=h
    have F:=AT q
    obtain⟨p,j⟩:=F
    refine BO .no (Z ?_)
    refine By (Z ?_)
    refine F0 AD j (Z ?_)
    exact AF (k1 v) h
   ·exact AF trivial h
theorem RR (a0:Agent) (u:Bool) (r:Int × (List Int)) (h:Gc a0 u=some r):BK prog f118 [1,0,0,1,1,1,1,1,1,1,1,1,1,1,1,1,1,1,1,1] (.tup [.int .i64 r.1,.own 1501]) [(1501,⟨List.map AD r.2,some 1,0,.no⟩)] [] ⟨[(0,.rop (Agent.avs a0) 0),(104,.bool u)],[],[]⟩:=by
 unfold Gc at h
 refine AM rfl rfl (Z ?_)
 refine AI h (fun h=>Z ?_) (fun h=>Z ?_)
 ·refine AK ?_
  cases h
  exact C8 (.lt 0 2000000000 24000 1 1 .no [1] (k:=.done _)) [(1501,2000000000)] []
 ·refine AI h (fun h=>Z ?_) (fun h=>Z ?_)
  ·cases h
   exact C8 (.dp 0 2000000000 (some 1) .no [1] (k:=.done _)) [(1501,2000000000)] []
  ·refine AK ?_
   cases h
   exact C8 (.dp 0 2000000000 (some 1) .no [1] (k:=.done _)) [(1501,2000000000)] []
theorem Sb (a0:Agent) (a1:Int) (u:Bool) (r:Int × (List Int)) (h:HO a0 a1 u=some r):BK prog f118 [1,0,0,1,1,1,1,1,1,1,1,1,1,1,1,1,1,1] (.tup [.int .i64 r.1,.own 1501]) [(1501,⟨List.map AD r.2,some 1,0,.no⟩)] [] ⟨[(0,.rop (Agent.avs a0) 0),(1,.int .i64 a1),(93,.bool u)],[],[]⟩:=by
 unfold HO at h
 refine AM rfl rfl (Z ?_)
 refine AI h (fun h=>Z ?_) (fun h=>Z ?_)
 ·refine AK ?_
  cases h
  exact C8 (.lt 0 2000000000 22000 1 1 .no [1] (k:=.done _)) [(1501,2000000000)] []
 ·exact AF (k1 RR) h
theorem Sc (a0:Agent) (a1:Int) (u:Bool) (r:Int × (List Int)) (h:HQ a0 a1 u=some r):BK prog f118 [1,0,0,1,1,1,1,1,1,1,1,1,1,1,1,1] (.tup [.int .i64 r.1,.own 1501]) [(1501,⟨List.map AD r.2,some 1,0,.no⟩)] [] ⟨[(0,.rop (Agent.avs a0) 0),(1,.int .i64 a1),(68,.bool u)],[],[]⟩:=by
 unfold HQ at h
 refine AM rfl rfl (Z ?_)
 refine AI h (fun h=>Z ?_) (fun h=>Z ?_)
 ·refine AK ?_
  refine CH (DL rfl rfl (RQ fuel a0 [] 1 _ h):) (.one ⟨_,.lt 6 2000000000 15000 0 1 .no [] (k:=.done _),[(1000011000,2000000000)],[],?_⟩)
  simp only [go_sem]
  all_goals try rfl
 ·exact AF (k1 Sb) h
theorem Sd (a0:Agent) (a1:Int) (u:Bool) (r:Int × (List Int)) (h:HR a0 a1 u=some r):BK prog f118 [1,0,0,1,1,1,1,1,1,1,1,1,1,1] (.tup [.int .i64 r.1,.own 1501]) [(1501,⟨List.map AD r.2,some 1,0,.no⟩)] [] ⟨[(0,.rop (Agent.avs a0) 0),(1,.int .i64 a1),(57,.bool u)],[],[]⟩:=by
 unfold HR at h
 refine AM rfl rfl (Z ?_)
 refine AI h (fun h=>Z ?_) (fun h=>Z ?_)
 ·refine AK ?_
  cases h
  exact C8 (.lt 0 2000000000 13000 1 1 .no [1] (k:=.done _)) [(1501,2000000000)] []
 ·exact AF (k1 Sc) h
theorem Se (a0:Agent) (a1:Int) (u:Bool) (r:Int × (List Int)) (h:HT a0 a1 u=some r):BK prog f118 [1,0,0,1,1,1,1,1,1,1,1,1] (.tup [.int .i64 r.1,.own 1501]) [(1501,⟨List.map AD r.2,some 1,0,.no⟩)] [] ⟨[(0,.rop (Agent.avs a0) 0),(1,.int .i64 a1),(46,.bool u)],[],[]⟩:=by
 unfold HT at h
 refine AM rfl rfl (Z ?_)
 refine AI h (fun h=>Z ?_) (fun h=>Z ?_)
 ·refine AK ?_
  cases h
  exact C8 (.lt 0 2000000000 11000 2 1 .no [1] (k:=.done _)) [(1501,2000000000)] []
 ·exact AF (k1 Sd) h
theorem Sf (a0:Agent) (a1:Int) (u:Bool) (r:Int × (List Int)) (h:HU a0 a1 u=some r):BK prog f118 [1,0,0,1,1,1,1,1] (.tup [.int .i64 r.1,.own 1501]) [(1501,⟨List.map AD r.2,some 1,0,.no⟩)] [] ⟨[(0,.rop (Agent.avs a0) 0),(1,.int .i64 a1),(29,.bool u)],[],[]⟩:=by
 unfold HU at h
 refine AM rfl rfl (Z ?_)
 refine AI h (fun h=>Z ?_) (fun h=>Z ?_)
 ·refine AK ?_
  cases h
  exact C8 (.lt 0 2000000000 7000 2 1 .no [1] (k:=.done _)) [(1501,2000000000)] []
 ·refine AI h (fun h=>Z ?_) (fun h=>Z ?_)
  ·cases h
   exact C8 (.dp 0 2000000000 (some 1) .no [1] (k:=.done _)) [(1501,2000000000)] []
  ·exact AF (k1 Se) h
theorem Sg (a0:Agent) (a1:Int) (u:Bool) (r:Int × (List Int)) (h:HV a0 a1 u=some r):BK prog f118 [1,0,0,1,1,1] (.tup [.int .i64 r.1,.own 1501]) [(1501,⟨List.map AD r.2,some 1,0,.no⟩)] [] ⟨[(0,.rop (Agent.avs a0) 0),(1,.int .i64 a1),(19,.bool u)],[],[]⟩:=by
 unfold HV at h
 refine AM rfl rfl (Z ?_)
 refine AI h (fun h=>Z ?_) (fun h=>Z ?_)
 ·cases h
  exact C8 (.dp 0 2000000000 (some 1) .no [1] (k:=.done _)) [(1501,2000000000)] []
 ·exact AF (k1 Sf) h
theorem Si (a0:Agent) (a1:Int) (u:Bool) (r:Int × (List Int)) (h:HX a0 a1 u=some r):BK prog f118 [1,0,0,1] (.tup [.int .i64 r.1,.own 1501]) [(1501,⟨List.map AD r.2,some 1,0,.no⟩)] [] ⟨[(0,.rop (Agent.avs a0) 0),(1,.int .i64 a1),(8,.bool u)],[],[]⟩:=by
 unfold HX at h
 refine AM rfl rfl (Z ?_)
 refine AI h (fun h=>Z ?_) (fun h=>Z ?_)
 ·refine AK ?_
  cases h
  exact C8 (.lt 0 2000000000 3000 1 1 .no [1] (k:=.done _)) [(1501,2000000000)] []
 ·exact AF (k1 Sg) h
theorem Xh (a0 a1 r) (h:Ks a0 a1=some r):AG prog 118 [.rop (Agent.avs a0) 0,.int .i64 a1] [] [] (.tup [.int .i64 r.1,.own 1501]) [(1501,⟨List.map AD r.2,some 1,0,.no⟩)] [] :=by
 unfold Ks at h
 refine agF func118 mixed (h:=Z ?_)
 exact AF (k1 Si) h
theorem OB (a0 a1 r) (h:H0 a0 a1=some r):AG prog 120 [.ro (List.map (slD AD) a0),.int .i64 a1] [] [] (.ro (List.map (slD AD) r)) [] [] :=by
 unfold H0 at h
 refine agF func120 mixed (h:=Z ?_)
 replace h:=AB h; obtain⟨u,w,h⟩:=h
 refine BH (Mj (by intro x; exact rfl) _) (Z ?_)
 refine AX (Wz w) (Z ?_)
 exact AF trivial h
theorem Sj (n:Nat):(∀j p u r,FH n j p u=some r→Aa prog f167 [1,1,0,1,0] (.bool r) ⟨[(0,.ro (j.map AD)),(1,.ro (p.map AD)),(5,.int .i64 u)],[],[]⟩):=by
 induction n with
 |zero=>exact((fun _ _ _ _ h=>by rw [FH] at h; cases h))
 | succ n ih=>
  have q:=ih
  ·intro j p u r h
   rw [FH] at h
   exact AF (k1 q) h
theorem Xi (a0 a1 r) (h:Iy a0 a1=some r):AC prog 167 [.ro (a0.map AD),.ro (a1.map AD)] (.bool r):=by
 unfold Iy at h
 refine acF func167 mixed (h:=Z ?_)
 exact AF (k1 Sj) h
theorem MI (n:Nat):(∀j p u r,CM n j p u=some r→Aa prog f149 [1,1,0,1,0] (.bool r) ⟨[(0,.ro (List.map (slD AD) j)),(1,.ro (List.map (slD AD) p)),(5,.int .i64 u)],[],[]⟩):=by
 induction n with
 |zero=>exact((fun _ _ _ _ h=>by rw [CM] at h; cases h))
 | succ n ih=>
  have q:=ih
  ·intro j p u r h
   rw [CM] at h
   exact AF (k2 Xi q) h
theorem O0 (a0 a1 r) (h:Fa a0 a1=some r):AC prog 149 [.ro (List.map (slD AD) a0),.ro (List.map (slD AD) a1)] (.bool r):=by
 unfold Fa at h
 refine acF func149 mixed (h:=Z ?_)
 exact AF (k1 MI) h
theorem Js (n:Nat):(∀j p u w r,A0 n j p u w=some r→Aa prog f119 [1,1,0,1,0] (.int .i64 r) ⟨[(1,.int .i64 j),(3,.ro (p.map L16Binder.ds)),(9,.ro (List.map (slD AD) u)),(10,.int .i64 w)],[],[]⟩)∧
    (∀j p w u y r,Bh n j p w u y=some r→Aa prog f119 [1,1,0,1,0,0,1,0,0,1] (.int .i64 r) ⟨[(1,.int .i64 j),(3,.ro (p.map L16Binder.ds)),(9,.ro (List.map (slD AD) u)),(10,.int .i64 w),(46,.bool y)],[],[]⟩):=by
 induction n with
 |zero=>exact⟨(fun _ _ _ _ _ h=>by rw [A0] at h; cases h),(fun _ _ _ _ _ _ h=>by rw [Bh] at h; cases h)⟩
 | succ n ih=>
  obtain⟨q,v⟩:=ih
  refine⟨?_,?_⟩
  ·intro j p u w r h
   rw [A0] at h
   exact AF (k2 O0 v) h
  ·intro j p w u y r h
   rw [Bh] at h
   exact AF (k1 q) h
def KP (n:Nat):=(Js n).1
theorem MJ (a0 a1 a2 a3 r) (h:EB a0 a1 a2 a3=some r):AC prog 119 [.rop (L16Walk.avs a0) 0,.int .i64 a1,.ro (List.map (slD AD) a2),.ro (a3.map L16Binder.ds)] (.int .i64 r):=by
 unfold EB at h
 refine acF func119 mixed (h:=Z ?_)
 replace h:=AB h; obtain⟨u,w,h⟩:=h
 refine AS w (Agent.ds_len _) (Z ?_)
 replace h:=AB h; obtain⟨y,q,h⟩:=h
 refine IW (OB _ _ _ q) (by (first|rfl|(simp only [go_sem]; rfl))) (by first|rfl|(simp only [go_sem])) (Z ?_)
 exact AF (k1 KP) h
theorem KC (a0 a1 a2 a3 r) (h:Ez a0 a1 a2 a3=some r):AG prog 121 [.box 1 0,.int .i64 a1,.int .i64 a2,.str a3] [(1001,⟨List.map AD a0.entered,some 1,0,.no⟩),(1002,⟨List.map AD a0.origins,some 1,0,.no⟩),(1003,⟨List.map Be a0.labels,some 1,0,.no⟩)] [(1,[.rop [.ro (a0.n.agents.map Agent.ds)] 0,.int .i64 a0.steps,.int .i64 a0.nodes,.own 1001,.own 1002,.own 1003,.int .i64 a0.code])] (.bool r.1) [(1501,⟨List.map AD r.2.entered,some 1,0,.no⟩),(1502,⟨List.map AD r.2.origins,some 1,0,.no⟩),(1503,⟨List.map Be r.2.labels,some 1,0,.no⟩)] [(1,[.rop [.ro (r.2.n.agents.map Agent.ds)] 0,.int .i64 r.2.steps,.int .i64 r.2.nodes,.own 1501,.own 1502,.own 1503,.int .i64 r.2.code])] :=by
 unfold Ez at h
 refine agF func121 mixed (h:=Z ?_)
 replace h:=AB h; obtain⟨u,w,h⟩:=h
 have v:=AT w
 obtain⟨C,p⟩:=v
 refine BO .no (Z ?_)
 refine By (Z ?_)
 refine F0 AD p (Z ?_)
 refine AK ?_
 replace h:=AB h; obtain⟨y,q,h⟩:=h
 have v:=AT q
 obtain⟨F,j⟩:=v
 refine BO .no (Z ?_)
 refine By (Z ?_)
 refine F0 Be j (Z ?_)
 exact AF trivial h
theorem fU (a0 r) (h:W6 a0=some r):AG prog 123 [.int .i64 a0] [] [] (.agg [.int .i64 r.kind,.int .i64 r.value,.nils,.nils]) [] [] :=by
 unfold W6 at h
 refine agF func123 mixed (h:=Z ?_)
 exact AF trivial h
theorem O2 (n:Nat):(∀p a1 a2 C v r,CX n p a1 a2 C v=some r→AG prog 83 [.box 1 0,.agg [.int .i64 a1.agent,.int .i64 a1.slot],.ro (List.map (slD AD) a2),.ro (C.map L16Binder.ds),.int .i64 v] [(1001,⟨List.map AD p.entered,some 1,0,.no⟩),(1002,⟨List.map AD p.origins,some 1,0,.no⟩),(1003,⟨List.map Be p.labels,some 1,0,.no⟩)] [(1,[.rop [.ro (p.n.agents.map Agent.ds)] 0,.int .i64 p.steps,.int .i64 p.nodes,.own 1001,.own 1002,.own 1003,.int .i64 p.code])] (.agg [.int .i64 r.1.kind,.int .i64 r.1.value,.own 1501,.own 1502]) [(1501,⟨List.map AD r.1.data,some 1,0,.no⟩),(1502,⟨List.map Core.ds r.1.kids,some 4,0,.no⟩),(1503,⟨List.map AD r.2.entered,some 1,0,.no⟩),(1504,⟨List.map AD r.2.origins,some 1,0,.no⟩),(1505,⟨List.map Be r.2.labels,some 1,0,.no⟩)] [(1,[.rop [.ro (r.2.n.agents.map Agent.ds)] 0,.int .i64 r.2.steps,.int .i64 r.2.nodes,.own 1503,.own 1504,.own 1505,.int .i64 r.2.code])])∧
    (∀p C v u w y q g j r,BY n p C v u w y q g j=some r→BK prog f83 [1,1,0,0] (.agg [.int .i64 r.1.kind,.int .i64 r.1.value,.own 1501,.own 1502]) [(1501,⟨List.map AD r.1.data,some 1,0,.no⟩),(1502,⟨List.map Core.ds r.1.kids,some 4,0,.no⟩),(1503,⟨List.map AD r.2.entered,some 1,0,.no⟩),(1504,⟨List.map AD r.2.origins,some 1,0,.no⟩),(1505,⟨List.map Be r.2.labels,some 1,0,.no⟩)] [(1,[.rop [.ro (r.2.n.agents.map Agent.ds)] 0,.int .i64 r.2.steps,.int .i64 r.2.nodes,.own 1503,.own 1504,.own 1505,.int .i64 r.2.code])] ⟨[(0,.box 1 0),(2,.ro (List.map (slD AD) y)),(3,.ro (C.map L16Binder.ds)),(4,.int .i64 v),(6,.box 1000004500 0),(10,.box 1000004501 0),(11,.str j)],[(1000004000,some ⟨List.map AD w,some 1,0,.no⟩),(1000004001,some ⟨List.map AD p.origins,some 1,0,.no⟩),(1000004002,some ⟨List.map Be p.labels,some 1,0,.no⟩)],[(1,some [.rop [.ro (p.n.agents.map Agent.ds)] 0,.int .i64 u,.int .i64 p.nodes,.own 1000004000,.own 1000004001,.own 1000004002,.int .i64 p.code]),(1000004500,some [.int .i64 q,.int .i64 g]),(1000004501,some [.int .i64 0,.int .i64 0,.nils,.nils])]⟩)∧
    (∀p C v u w y q g k b d r,Bu n p C v u w y q g k b d=some r→BK prog f83 [1,1,0,0,0,0,1,1,1,1,1,0,1] (.agg [.int .i64 r.1.kind,.int .i64 r.1.value,.own 1501,.own 1502]) [(1501,⟨List.map AD r.1.data,some 1,0,.no⟩),(1502,⟨List.map Core.ds r.1.kids,some 4,0,.no⟩),(1503,⟨List.map AD r.2.entered,some 1,0,.no⟩),(1504,⟨List.map AD r.2.origins,some 1,0,.no⟩),(1505,⟨List.map Be r.2.labels,some 1,0,.no⟩)] [(1,[.rop [.ro (r.2.n.agents.map Agent.ds)] 0,.int .i64 r.2.steps,.int .i64 r.2.nodes,.own 1503,.own 1504,.own 1505,.int .i64 r.2.code])] ⟨[(0,.box 1 0),(2,.ro (List.map (slD AD) y)),(3,.ro (C.map L16Binder.ds)),(4,.int .i64 v),(6,.box 1000005500 0),(10,.box 1000005501 0),(11,.str k),(12,.rop (Agent.avs b) 0),(63,.bool d)],[(1000005000,some ⟨List.map AD w,some 1,0,.no⟩),(1000005001,some ⟨List.map AD p.origins,some 1,0,.no⟩),(1000005002,some ⟨List.map Be p.labels,some 1,0,.no⟩)],[(1,some [.rop [.ro (p.n.agents.map Agent.ds)] 0,.int .i64 (IntKind.i64.wrap (u+1)),.int .i64 p.nodes,.own 1000005000,.own 1000005001,.own 1000005002,.int .i64 p.code]),(1000005500,some [.int .i64 q,.int .i64 g]),(1000005501,some [.int .i64 0,.int .i64 0,.nils,.nils])]⟩)∧
    (∀p C v u y q g k b c r,BE n p C v u y q g k b c=some r→BK prog f83 [1,1,0,0,0,0,1,1,1,1,1,1] (.agg [.int .i64 r.1.kind,.int .i64 r.1.value,.own 1501,.own 1502]) [(1501,⟨List.map AD r.1.data,some 1,0,.no⟩),(1502,⟨List.map Core.ds r.1.kids,some 4,0,.no⟩),(1503,⟨List.map AD r.2.entered,some 1,0,.no⟩),(1504,⟨List.map AD r.2.origins,some 1,0,.no⟩),(1505,⟨List.map Be r.2.labels,some 1,0,.no⟩)] [(1,[.rop [.ro (r.2.n.agents.map Agent.ds)] 0,.int .i64 r.2.steps,.int .i64 r.2.nodes,.own 1503,.own 1504,.own 1505,.int .i64 r.2.code])] ⟨[(0,.box 1 0),(2,.ro (List.map (slD AD) y)),(3,.ro (C.map L16Binder.ds)),(4,.int .i64 v),(6,.box 1000006500 0),(10,.box 1000006501 0),(11,.str k),(12,.rop (Agent.avs b) 0)],[(1000006000,some ⟨List.map AD c,some 1,0,.no⟩),(1000006001,some ⟨List.map AD p.origins,some 1,0,.no⟩),(1000006002,some ⟨List.map Be p.labels,some 1,0,.no⟩)],[(1,some [.rop [.ro (p.n.agents.map Agent.ds)] 0,.int .i64 (IntKind.i64.wrap (u+1)),.int .i64 p.nodes,.own 1000006000,.own 1000006001,.own 1000006002,.int .i64 p.code]),(1000006500,some [.int .i64 q,.int .i64 g]),(1000006501,some [.int .i64 0,.int .i64 0,.nils,.nils])]⟩)∧
    (∀p v u y q g c k e i l t s r,Ao n p v u y q g c k e i l t s=some r→BK prog f83 [1,1,1,1,1,1,1,1] (.agg [.int .i64 r.1.kind,.int .i64 r.1.value,.own 1501,.own 1502]) [(1501,⟨List.map AD r.1.data,some 1,0,.no⟩),(1502,⟨List.map Core.ds r.1.kids,some 4,0,.no⟩),(1503,⟨List.map AD r.2.entered,some 1,0,.no⟩),(1504,⟨List.map AD r.2.origins,some 1,0,.no⟩),(1505,⟨List.map Be r.2.labels,some 1,0,.no⟩)] [(1,[.rop [.ro (r.2.n.agents.map Agent.ds)] 0,.int .i64 r.2.steps,.int .i64 r.2.nodes,.own 1503,.own 1504,.own 1505,.int .i64 r.2.code])] ⟨[(0,.box 1 0),(2,.ro (List.map (slD AD) y)),(3,.ro (l.map L16Binder.ds)),(4,.int .i64 v),(6,.box 1000009500 0),(10,.box 1000009501 0),(11,.str k),(15,.rop (Agent.avs e) 0),(17,.own 1000009003),(18,.box 1000009502 0)],[(1000009000,some ⟨List.map AD c,some 1,0,.no⟩),(1000009001,some ⟨List.map AD p.origins,some 1,0,.no⟩),(1000009002,some ⟨List.map Be p.labels,some 1,0,.no⟩),(1000009003,some ⟨List.map AD i.2,some 1,0,.no⟩),(1000009004,some ⟨List.map AD s,some 1,0,.no⟩)],[(1,some [.rop [.ro (p.n.agents.map Agent.ds)] 0,.int .i64 (IntKind.i64.wrap (u+1)),.int .i64 p.nodes,.own 1000009000,.own 1000009001,.own 1000009002,.int .i64 p.code]),(1000009500,some [.int .i64 q,.int .i64 g]),(1000009501,some [.int .i64 0,.int .i64 0,.nils,.nils]),(1000009502,some [.int .i64 i.1,.int .i64 t,.own 1000009004,.nils])]⟩)∧
    (∀v y l t s e i o (z:Int) u1 u2 u3 u4 u5 u6 r,CN n v y l t s e i o z u1 u2 u3 u4 u5 u6=some r→BK prog f83 [1,1,1,1,1,1,1,1,1,1] (.agg [.int .i64 r.1.kind,.int .i64 r.1.value,.own 1501,.own 1502]) [(1501,⟨List.map AD r.1.data,some 1,0,.no⟩),(1502,⟨List.map Core.ds r.1.kids,some 4,0,.no⟩),(1503,⟨List.map AD r.2.entered,some 1,0,.no⟩),(1504,⟨List.map AD r.2.origins,some 1,0,.no⟩),(1505,⟨List.map Be r.2.labels,some 1,0,.no⟩)] [(1,[.rop [.ro (r.2.n.agents.map Agent.ds)] 0,.int .i64 r.2.steps,.int .i64 r.2.nodes,.own 1503,.own 1504,.own 1505,.int .i64 r.2.code])] ⟨[(0,.box 1 0),(2,.ro (List.map (slD AD) y)),(3,.ro (l.map L16Binder.ds)),(4,.int .i64 v),(10,.box 1000011500 0),(15,.rop (Agent.avs e) 0),(17,.own 1000011003),(18,.box 1000011501 0)],[(1000011000,some ⟨List.map AD u2,some 1,0,.no⟩),(1000011001,some ⟨List.map AD u3,some 1,0,.no⟩),(1000011002,some ⟨List.map Be u4,some 1,0,.no⟩),(1000011003,some ⟨List.map AD i.2,some 1,0,.no⟩),(1000011004,some ⟨List.map AD s,some 1,0,.no⟩),(1000011005,some ⟨List.map Core.ds u6,some 4,0,.no⟩)],[(1,some [.rop [.ro (o.map Agent.ds)] 0,.int .i64 z,.int .i64 u1,.own 1000011000,.own 1000011001,.own 1000011002,.int .i64 u5]),(1000011500,some [.int .i64 0,.int .i64 0,.nils,.nils]),(1000011501,some [.int .i64 i.1,.int .i64 t,.own 1000011004,.own 1000011005])]⟩)∧
    (∀v y l t s e i u7 u8 u9 u10 u11 u12 u13 u14 u15 r,Ay n v y l t s e i u7 u8 u9 u10 u11 u12 u13 u14 u15=some r→BK prog f83 [1,1,1,1,1,1,1,1,1,1,0,1,0] (.agg [.int .i64 r.1.kind,.int .i64 r.1.value,.own 1501,.own 1502]) [(1501,⟨List.map AD r.1.data,some 1,0,.no⟩),(1502,⟨List.map Core.ds r.1.kids,some 4,0,.no⟩),(1503,⟨List.map AD r.2.entered,some 1,0,.no⟩),(1504,⟨List.map AD r.2.origins,some 1,0,.no⟩),(1505,⟨List.map Be r.2.labels,some 1,0,.no⟩)] [(1,[.rop [.ro (r.2.n.agents.map Agent.ds)] 0,.int .i64 r.2.steps,.int .i64 r.2.nodes,.own 1503,.own 1504,.own 1505,.int .i64 r.2.code])] ⟨[(0,.box 1 0),(2,.ro (List.map (slD AD) y)),(3,.ro (l.map L16Binder.ds)),(4,.int .i64 v),(10,.box 1000013500 0),(15,.rop (Agent.avs e) 0),(17,.own 1000013003),(18,.box 1000013501 0),(19,.int .i64 u15)],[(1000013000,some ⟨List.map AD u10,some 1,0,.no⟩),(1000013001,some ⟨List.map AD u11,some 1,0,.no⟩),(1000013002,some ⟨List.map Be u12,some 1,0,.no⟩),(1000013003,some ⟨List.map AD i.2,some 1,0,.no⟩),(1000013004,some ⟨List.map AD s,some 1,0,.no⟩),(1000013005,some ⟨List.map Core.ds u14,some 4,0,.no⟩)],[(1,some [.rop [.ro (u7.map Agent.ds)] 0,.int .i64 u8,.int .i64 u9,.own 1000013000,.own 1000013001,.own 1000013002,.int .i64 u13]),(1000013500,some [.int .i64 0,.int .i64 0,.nils,.nils]),(1000013501,some [.int .i64 i.1,.int .i64 t,.own 1000013004,.own 1000013005])]⟩)∧
    (∀p C v u y q g c k e i u16 r,Ad n p C v u y q g c k e i u16=some r→BK prog f83 [1,1,1,1,1,1,1,0,1,0,1,1,1] (.agg [.int .i64 r.1.kind,.int .i64 r.1.value,.own 1501,.own 1502]) [(1501,⟨List.map AD r.1.data,some 1,0,.no⟩),(1502,⟨List.map Core.ds r.1.kids,some 4,0,.no⟩),(1503,⟨List.map AD r.2.entered,some 1,0,.no⟩),(1504,⟨List.map AD r.2.origins,some 1,0,.no⟩),(1505,⟨List.map Be r.2.labels,some 1,0,.no⟩)] [(1,[.rop [.ro (r.2.n.agents.map Agent.ds)] 0,.int .i64 r.2.steps,.int .i64 r.2.nodes,.own 1503,.own 1504,.own 1505,.int .i64 r.2.code])] ⟨[(0,.box 1 0),(2,.ro (List.map (slD AD) y)),(3,.ro (C.map L16Binder.ds)),(4,.int .i64 v),(6,.box 1000007500 0),(10,.box 1000007501 0),(11,.str k),(15,.rop (Agent.avs e) 0),(17,.own 1000007003),(18,.box 1000007502 0),(161,.int .i64 i.1),(176,.bool u16)],[(1000007000,some ⟨List.map AD c,some 1,0,.no⟩),(1000007001,some ⟨List.map AD p.origins,some 1,0,.no⟩),(1000007002,some ⟨List.map Be p.labels,some 1,0,.no⟩),(1000007003,some ⟨List.map AD i.2,some 1,0,.no⟩)],[(1,some [.rop [.ro (p.n.agents.map Agent.ds)] 0,.int .i64 (IntKind.i64.wrap (u+1)),.int .i64 p.nodes,.own 1000007000,.own 1000007001,.own 1000007002,.int .i64 p.code]),(1000007500,some [.int .i64 q,.int .i64 g]),(1000007501,some [.int .i64 0,.int .i64 0,.nils,.nils]),(1000007502,some [.int .i64 i.1,.int .i64 0,.nils,.nils])]⟩)∧
    (∀p C v u y q g c k e i u17 r,Bv n p C v u y q g c k e i u17=some r→BK prog f83 [1,1,1,1,1,1,1,0,1,0,1,1,1,1,1] (.agg [.int .i64 r.1.kind,.int .i64 r.1.value,.own 1501,.own 1502]) [(1501,⟨List.map AD r.1.data,some 1,0,.no⟩),(1502,⟨List.map Core.ds r.1.kids,some 4,0,.no⟩),(1503,⟨List.map AD r.2.entered,some 1,0,.no⟩),(1504,⟨List.map AD r.2.origins,some 1,0,.no⟩),(1505,⟨List.map Be r.2.labels,some 1,0,.no⟩)] [(1,[.rop [.ro (r.2.n.agents.map Agent.ds)] 0,.int .i64 r.2.steps,.int .i64 r.2.nodes,.own 1503,.own 1504,.own 1505,.int .i64 r.2.code])] ⟨[(0,.box 1 0),(2,.ro (List.map (slD AD) y)),(3,.ro (C.map L16Binder.ds)),(4,.int .i64 v),(6,.box 1000008500 0),(10,.box 1000008501 0),(11,.str k),(15,.rop (Agent.avs e) 0),(17,.own 1000008003),(18,.box 1000008502 0),(161,.int .i64 i.1),(186,.bool u17)],[(1000008000,some ⟨List.map AD c,some 1,0,.no⟩),(1000008001,some ⟨List.map AD p.origins,some 1,0,.no⟩),(1000008002,some ⟨List.map Be p.labels,some 1,0,.no⟩),(1000008003,some ⟨List.map AD i.2,some 1,0,.no⟩)],[(1,some [.rop [.ro (p.n.agents.map Agent.ds)] 0,.int .i64 (IntKind.i64.wrap (u+1)),.int .i64 p.nodes,.own 1000008000,.own 1000008001,.own 1000008002,.int .i64 p.code]),(1000008500,some [.int .i64 q,.int .i64 g]),(1000008501,some [.int .i64 0,.int .i64 0,.nils,.nils]),(1000008502,some [.int .i64 i.1,.int .i64 0,.nils,.nils])]⟩)∧
    (∀p C v u q g c k b u18 r,EC n p C v u q g c k b u18=some r→BK prog f83 [1,1,0,0,0,0,1,1,1,1,1,1,1,1,0,1,0,1] (.agg [.int .i64 r.1.kind,.int .i64 r.1.value,.own 1501,.own 1502]) [(1501,⟨List.map AD r.1.data,some 1,0,.no⟩),(1502,⟨List.map Core.ds r.1.kids,some 4,0,.no⟩),(1503,⟨List.map AD r.2.entered,some 1,0,.no⟩),(1504,⟨List.map AD r.2.origins,some 1,0,.no⟩),(1505,⟨List.map Be r.2.labels,some 1,0,.no⟩)] [(1,[.rop [.ro (r.2.n.agents.map Agent.ds)] 0,.int .i64 r.2.steps,.int .i64 r.2.nodes,.own 1503,.own 1504,.own 1505,.int .i64 r.2.code])] ⟨[(0,.box 1 0),(2,.ro (List.map (slD AD) u18)),(3,.ro (C.map L16Binder.ds)),(4,.int .i64 v),(6,.box 1000010500 0),(10,.box 1000010501 0),(11,.str k),(12,.rop (Agent.avs b) 0)],[(1000010000,some ⟨List.map AD c,some 1,0,.no⟩),(1000010001,some ⟨List.map AD p.origins,some 1,0,.no⟩),(1000010002,some ⟨List.map Be p.labels,some 1,0,.no⟩)],[(1,some [.rop [.ro (p.n.agents.map Agent.ds)] 0,.int .i64 (IntKind.i64.wrap (u+1)),.int .i64 p.nodes,.own 1000010000,.own 1000010001,.own 1000010002,.int .i64 p.code]),(1000010500,some [.int .i64 q,.int .i64 g]),(1000010501,some [.int .i64 0,.int .i64 0,.nils,.nils])]⟩):=by
 induction n with
 |zero=>exact⟨(fun _ _ _ _ _ _ h=>by rw [CX] at h; cases h),(fun _ _ _ _ _ _ _ _ _ _ h=>by rw [BY] at h; cases h),(fun _ _ _ _ _ _ _ _ _ _ _ _ h=>by rw [Bu] at h; cases h),(fun _ _ _ _ _ _ _ _ _ _ _ h=>by rw [BE] at h; cases h),(fun _ _ _ _ _ _ _ _ _ _ _ _ _ _ h=>by rw [Ao] at h; cases h),(fun _ _ _ _ _ _ _ _ _ _ _ _ _ _ _ _ h=>by rw [CN] at h; cases h),(fun _ _ _ _ _ _ _ _ _ _ _ _ _ _ _ _ _ h=>by rw [Ay] at h; cases h),(fun _ _ _ _ _ _ _ _ _ _ _ _ _ h=>by rw [Ad] at h; cases h),(fun _ _ _ _ _ _ _ _ _ _ _ _ _ h=>by rw [Bv] at h; cases h),(fun _ _ _ _ _ _ _ _ _ _ _ h=>by rw [EC] at h; cases h)⟩
 | succ n ih=>
  obtain⟨ih0,ih1,ih2,ih3,ih4,ih5,ih6,ih7,ih8,ih9⟩:=ih
  refine⟨?_,?_,?_,?_,?_,?_,?_,?_,?_,?_⟩
  ·intro p a1 a2 C v r h
   rw [CX] at h
   refine agF func83 mixed (h:=Z ?_)
   refine AK ?_
   exact Yq (ih1 p C v p.steps p.entered a2 a1.agent a1.slot (ByteArray.mk #[]) _ h)
  ·intro p C v u w y q g j r h
   rw [BY] at h
   refine AM rfl rfl (Z ?_)
   refine Ai (Z ?_)
   refine AI h (fun h=>Z ?_) (fun h=>Z ?_)
   ·cases h
    exact C8 (.dp 0 2000000000 (some 1) .no [2] (k:=.dp 0 2000000001 (some 4) .no [3] (k:=.done _))) ((1501,2000000000)::(1502,2000000001)::r3 1503 1000004000 []) [(1,1)]
   ·refine AK ?_
    replace h:=AB h; obtain⟨u19,u20,h⟩:=h
    refine AL (VI _ _ u20) (Z ?_)
    replace h:=AB h; obtain⟨k,u21,h⟩:=h
    have F:=Fe u21
    obtain⟨hv5003a,hv5003b⟩:=F
    refine BH hv5003a ?_
    rw [hv5003b]
    try simp only [go_sem]
    refine AK ?_
    refine AI h (fun h=>Z ?_) (fun h=>Z ?_)
    ·replace h:=AB h; obtain⟨u22,u23,h⟩:=h
     refine caG ⟨[],(r3 1001 1000004000 []),[(1,1,0)],(r5 1501 128016 []),[],true⟩ (DP _ _ _ u23) (Z ?_)
     exact AF trivial h
    ·exact AF (k1 ih2) h
  ·intro p C v u w y q g k b d r h
   rw [Bu] at h
   refine AM rfl rfl (Z ?_)
   refine AI h (fun h=>Z ?_) (fun h=>Z ?_)
   ·refine AW [false,false,false,false,false,false,false,false,true,true,true,true] (Tr.sq [8,9,10,11] .fin) (by kernel_rfl) (Z ?_)
    replace h:=AB h; obtain⟨u25,u26,h⟩:=h
    have F:=AT u26
    obtain⟨hv11008a,hv11008b⟩:=F
    refine BO .no (Z ?_)
    refine By (Z ?_)
    refine F0 AD hv11008b (Z ?_)
    exact AF (k1 ih3) h
   ·exact AF (k1 ih3) h
  ·intro p C v u y q g k b c r h
   rw [BE] at h
   refine AM rfl rfl (Z ?_)
   refine AI h (fun h=>Z ?_) (fun h=>Z ?_)
   ·refine AK ?_
    refine AW [] .fin (by kernel_rfl) (Z ?_)
    replace h:=AB h; obtain⟨e,u27,h⟩:=h
    refine AS u27 (Agent.ds_len _) (Z ?_)
    refine AK ?_
    replace h:=AB h; obtain⟨i,u28,h⟩:=h
    refine caG ⟨[],[],[],[(1501,368048)],[],true⟩ (Xh _ _ _ u28) (Z ?_)
    refine AK ?_
    refine AI h (fun h=>Z ?_) (fun h=>Z ?_)
    ·replace h:=AB h; obtain⟨u29,u30,h⟩:=h
     refine caG ⟨[],(r3 1001 1000006000 []),[(1,1,0)],(r5 1501 400016 []),[],true⟩ (DP _ _ _ u30) (Z ?_)
     exact AF trivial h
    ·refine AK ?_
     refine AK ?_
     refine AI h (fun h=>Z ?_) (fun h=>Z ?_)
     ·replace h:=AB h; obtain⟨u31,u32,h⟩:=h
      refine AL (MJ _ _ _ _ _ u32) (Z ?_)
      refine AK ?_
      refine AI h (fun h=>Z ?_) (fun h=>Z ?_)
      ·replace h:=AB h; obtain⟨u33,u34,h⟩:=h
       refine caG ⟨[],(r3 1001 1000006000 []),[(1,1,0)],(r5 1501 496016 []),[],true⟩ (DP _ _ _ u34) (Z ?_)
       exact AF trivial h
      ·refine Mg (DL rfl rfl (ih4 p v u y q g c k e i C u31 [] _ h):) (.one ⟨_,.ce 26002 2 2000000000 (some 1) .no (k:=.done _),(r3 1000009000 1000006000 [(1000009003,368048),(1000009004,2000000000)]),[(1,1),(1000009500,1000006500),(1000009501,1000006501),(1000009502,26002)],?_⟩)
       simp only [go_sem]
       all_goals try rfl
     ·exact AF (k1 ih7) h
   ·refine AK ?_
    replace h:=AB h; obtain⟨u35,u36,h⟩:=h
    refine AS u36 rfl (Z ?_)
    refine AI h (fun h=>Z ?_) (fun h=>Z ?_)
    ·replace h:=AB h; obtain⟨u37,u38,h⟩:=h
     replace h:=AB h; obtain⟨u39,u40,h⟩:=h
     replace h:=AB h; obtain⟨u18,u41,h⟩:=h
     refine AW [false,false,true,true,true,false,true,false,true,true,true,true,true] (.br 2 (Tr.sq [3] (.br 4 (.br 6 (Tr.sq [8,9,10] (.fz (Tr.sq [11,12] .fin))) (.br 8 (.br 6 (Tr.sq [9,10] (.fz (Tr.sq [11,12] .fin))) (.br 9 (Tr.sq [6,10] (.fz (Tr.sq [11,12] .fin))) .stop)) .stop)) (.br 6 (.br 4 (Tr.sq [8,9,10] (.fz (Tr.sq [11,12] .fin))) (.br 8 (.br 4 (Tr.sq [9,10] (.fz (Tr.sq [11,12] .fin))) (.br 9 (.br 4 (Tr.sq [10] (.fz (Tr.sq [11,12] .fin))) (.br 10 (Tr.sq [4] (.fz (Tr.sq [11,12] .fin))) .stop)) .stop)) .stop)) (.br 8 (.br 4 (.br 6 (Tr.sq [9,10] (.fz (Tr.sq [11,12] .fin))) (.br 9 (Tr.sq [6,10] (.fz (Tr.sq [11,12] .fin))) .stop)) (.br 6 (.br 4 (Tr.sq [9,10] (.fz (Tr.sq [11,12] .fin))) (.br 9 (.br 4 (Tr.sq [10] (.fz (Tr.sq [11,12] .fin))) (.br 10 (Tr.sq [4] (.fz (Tr.sq [11,12] .fin))) .stop)) .stop)) (.br 9 (.br 4 (Tr.sq [6,10] (.fz (Tr.sq [11,12] .fin))) (.br 6 (.br 4 (Tr.sq [10] (.fz (Tr.sq [11,12] .fin))) (.br 10 (Tr.sq [4] (.fz (Tr.sq [11,12] .fin))) .stop)) .stop)) .stop))) .stop)))) (.br 6 (.br 2 (Tr.sq [3] (.br 4 (Tr.sq [8,9,10] (.fz (Tr.sq [11,12] .fin))) (.br 8 (.br 4 (Tr.sq [9,10] (.fz (Tr.sq [11,12] .fin))) (.br 9 (.br 4 (Tr.sq [10] (.fz (Tr.sq [11,12] .fin))) (.br 10 (Tr.sq [4] (.fz (Tr.sq [11,12] .fin))) .stop)) .stop)) .stop))) (.br 8 (.br 2 (Tr.sq [3] (.br 4 (Tr.sq [9,10] (.fz (Tr.sq [11,12] .fin))) (.br 9 (.br 4 (Tr.sq [10] (.fz (Tr.sq [11,12] .fin))) (.br 10 (Tr.sq [4] (.fz (Tr.sq [11,12] .fin))) .stop)) .stop))) (.br 9 (.br 2 (Tr.sq [3] (.br 4 (Tr.sq [10] (.fz (Tr.sq [11,12] .fin))) (.br 10 (Tr.sq [4] (.fz (Tr.sq [11,12] .fin))) .stop))) (.br 10 (Tr.sq [2,3,4] (.fz (Tr.sq [11,12] .fin))) .stop)) .stop)) .stop)) (.br 8 (.br 2 (Tr.sq [3] (.br 4 (.br 6 (Tr.sq [9,10] (.fz (Tr.sq [11,12] .fin))) (.br 9 (Tr.sq [6,10] (.fz (Tr.sq [11,12] .fin))) .stop)) (.br 6 (.br 4 (Tr.sq [9,10] (.fz (Tr.sq [11,12] .fin))) (.br 9 (.br 4 (Tr.sq [10] (.fz (Tr.sq [11,12] .fin))) (.br 10 (Tr.sq [4] (.fz (Tr.sq [11,12] .fin))) .stop)) .stop)) (.br 9 (.br 4 (Tr.sq [6,10] (.fz (Tr.sq [11,12] .fin))) (.br 6 (.br 4 (Tr.sq [10] (.fz (Tr.sq [11,12] .fin))) (.br 10 (Tr.sq [4] (.fz (Tr.sq [11,12] .fin))) .stop)) .stop)) .stop)))) (.br 6 (.br 2 (Tr.sq [3] (.br 4 (Tr.sq [9,10] (.fz (Tr.sq [11,12] .fin))) (.br 9 (.br 4 (Tr.sq [10] (.fz (Tr.sq [11,12] .fin))) (.br 10 (Tr.sq [4] (.fz (Tr.sq [11,12] .fin))) .stop)) .stop))) (.br 9 (.br 2 (Tr.sq [3] (.br 4 (Tr.sq [10] (.fz (Tr.sq [11,12] .fin))) (.br 10 (Tr.sq [4] (.fz (Tr.sq [11,12] .fin))) .stop))) (.br 10 (Tr.sq [2,3,4] (.fz (Tr.sq [11,12] .fin))) .stop)) .stop)) (.br 9 (.br 2 (Tr.sq [3] (.br 4 (Tr.sq [6,10] (.fz (Tr.sq [11,12] .fin))) (.br 6 (.br 4 (Tr.sq [10] (.fz (Tr.sq [11,12] .fin))) (.br 10 (Tr.sq [4] (.fz (Tr.sq [11,12] .fin))) .stop)) .stop))) (.br 6 (.br 2 (Tr.sq [3] (.br 4 (Tr.sq [10] (.fz (Tr.sq [11,12] .fin))) (.br 10 (Tr.sq [4] (.fz (Tr.sq [11,12] .fin))) .stop))) (.br 10 (Tr.sq [2,3,4] (.fz (Tr.sq [11,12] .fin))) .stop)) .stop)) .stop))) .stop))) (by kernel_rfl) ?_
     try simp only [go_sem]
     repeat' first|((with_reducible show aM _ _ _ _); refine Yc (Z ?_) (Z ?_))|((with_reducible show Kh _ _ _ _ _ _ _ _ _ _ _); refine AL (IU _ _ u38) (Z ?_))
     all_goals
      have F:=AT u40
      obtain⟨hv15010a,O⟩:=F
      refine BO .no (Z ?_)
      refine By (Z ?_)
      refine F0 AD O (Z ?_)
      refine gR (.fT 240160 [(100,[])] [] (k:=.done _)) (Z ?_)
      all_goals try rfl
      refine IW (R8 _ _ _ _ u41) (by (first|rfl|(simp only [go_sem]; rfl))) (by first|rfl|(simp only [go_sem])) (Z ?_)
      exact AF (k1 ih9) h
    ·refine AK ?_
     refine AI h (fun h=>Z ?_) (fun h=>Z ?_)
     ·replace h:=AB h; obtain⟨u42,u43,h⟩:=h
      refine caG ⟨[],(r3 1001 1000006000 []),[(1,1,0)],(r5 1501 288016 []),[],true⟩ (DP _ _ _ u43) (Z ?_)
      exact AF trivial h
     ·refine AK ?_
      replace h:=AB h; obtain⟨u44,u45,h⟩:=h
      refine AS u45 rfl (Z ?_)
      refine AW [false,false,false,false,false,false,false,false,false,false,false,true,true] (.fz (Tr.sq [11,12] .fin)) (by kernel_rfl) (Z ?_)
      replace h:=AB h; obtain⟨u46,u47,h⟩:=h
      refine BH (Mj (by intro x; exact rfl) _) (Z ?_)
      refine AX (Wz u47) (Z ?_)
      replace h:=AB h; obtain⟨u48,u49,h⟩:=h
      refine AL (IU _ _ u49) (Z ?_)
      refine gR (.fT 320160 [(129,[])] [] (k:=.done _)) (Z ?_)
      all_goals try rfl
      replace h:=AB h; obtain⟨u50,u51,h⟩:=h
      refine IW (R8 _ _ _ _ u51) (by (first|rfl|(simp only [go_sem]; rfl))) (by first|rfl|(simp only [go_sem])) (Z ?_)
      exact AF (k1 ih1) h
  ·intro p v u y q g c k e i l t s r h
   rw [Ao] at h
   refine AM rfl rfl (Z ?_)
   replace h:=AB h; obtain⟨G,u55,h⟩:=h
   refine caG ⟨[],(r3 1001 1000009000 []),[(1,1,0)],(r3 1501 672080 []),[],true⟩ (KC _ _ _ _ _ u55) (Z ?_)
   refine AK ?_
   refine AI h (fun h=>Z ?_) (fun h=>Z ?_)
   ·replace h:=AB h; obtain⟨u56,u57,h⟩:=h
    refine caG ⟨[],(r3 1001 672080 []),[(1,1,0)],(r5 1501 688016 []),[],true⟩ (DP _ _ _ u57) (Z ?_)
    exact AF trivial h
   ·refine AK ?_
    refine AI h (fun h=>Z ?_) (fun h=>Z ?_)
    ·replace h:=AB h; obtain⟨u58,u59,h⟩:=h
     refine AL (Lw _ _ u59) (Z ?_)
     replace h:=AB h; obtain⟨u60,u61,h⟩:=h
     have F:=Fe u61
     obtain⟨J,U⟩:=F
     refine BH J ?_
     rw [U]
     try simp only [go_sem]
     replace h:=AB h; obtain⟨u62,u63,h⟩:=h
     refine caG ⟨[],(r3 1001 672080 []),[(1,1,0)],(r3 1501 720112 []),[],true⟩ (KC _ _ _ _ _ u63) (Z ?_)
     refine AK ?_
     refine AI h (fun h=>Z ?_) (fun h=>Z ?_)
     ·replace h:=AB h; obtain⟨u64,u65,h⟩:=h
      refine caG ⟨[],(r3 1001 720112 []),[(1,1,0)],(r5 1501 736016 []),[],true⟩ (DP _ _ _ u65) (Z ?_)
      exact AF trivial h
     ·refine AK ?_
      refine AW [false,false,false,false,false,false,false,false,false,false,true,true,true] (Tr.sq [10,11,12] .fin) (by kernel_rfl) (Z ?_)
      replace h:=AB h; obtain⟨u66,u67,h⟩:=h
      refine AS u67 rfl (Z ?_)
      replace h:=AB h; obtain⟨u68,u69,h⟩:=h
      refine IW (fU _ _ u69) (by (first|rfl|(simp only [go_sem]; rfl))) (by first|rfl|(simp only [go_sem])) (Z ?_)
      replace h:=AB h; obtain⟨u70,u71,h⟩:=h
      have F:=AT u71
      obtain⟨hv47010a,W⟩:=F
      refine BO .no (Z ?_)
      refine By (Z ?_)
      refine Ar (u70.map Core.ds) (by rw [← W]; simp only [List.map_append,List.map_cons,List.map_nil,List.nil_append,List.append_nil,go_sem,Core.ds_eq]) (Z ?_)
      exact AF (k1 ih5) h
    ·refine Mg (DL rfl rfl (ih5 v y l t s e i G.2.n.agents G.2.steps G.2.nodes G.2.entered G.2.origins G.2.labels G.2.code [] _ h):) (.one ⟨_,.ce 1000009502 3 2000000000 (some 4) .no (k:=.done _),(r3 1000011000 672080 [(1000011003,1000009003),(1000011004,1000009004),(1000011005,2000000000)]),[(1,1),(1000011500,1000009501),(1000011501,1000009502)],?_⟩)
     simp only [go_sem]
     all_goals try rfl
  ·intro v y l t s e i o z u1 u2 u3 u4 u5 u6 r h
   rw [CN] at h
   exact AF (k1 ih6) h
  ·intro v y l t s e i u7 u8 u9 u10 u11 u12 u13 u14 u15 r h
   rw [Ay] at h
   refine AM rfl rfl (Z ?_)
   refine Ai (Z ?_)
   refine AI h (fun h=>Z ?_) (fun h=>Z ?_)
   ·refine AK ?_
    replace h:=AB h; obtain⟨u72,u73,h⟩:=h
    replace h:=AB h; obtain⟨u74,u75,h⟩:=h
    replace h:=AB h; obtain⟨u76,u77,h⟩:=h
    replace h:=AB h; obtain⟨u78,u79,h⟩:=h
    refine AW [false,true,false,false,true,true,true,false,false,false,true,true,true,false,false,false,false,true,true,true,true,true] (.br 1 (.br 4 (Tr.sq [5] (.br 6 (Tr.sq [10,11,12,17,18,19,20,21] .fin) (.br 10 (Tr.sq [6,11,12,17,18,19,20,21] .fin) .stop))) (.br 10 (Tr.sq [4,5,6,11,12,17,18,19,20,21] .fin) .stop)) (.br 4 (Tr.sq [5] (.br 1 (.br 6 (Tr.sq [10,11,12,17,18,19,20,21] .fin) (.br 10 (Tr.sq [6,11,12,17,18,19,20,21] .fin) .stop)) (.br 6 (.br 1 (Tr.sq [10,11,12,17,18,19,20,21] .fin) (.br 10 (Tr.sq [11] (.br 1 (Tr.sq [12,17,18,19,20,21] .fin) (.br 12 (.br 1 (Tr.sq [17,18,19,20,21] .fin) (.br 17 (.br 1 (Tr.sq [18,19,20,21] .fin) (.br 18 (Tr.sq [1,19,20,21] .fin) .stop)) .stop)) .stop))) .stop)) (.br 10 (.br 1 (Tr.sq [6,11,12,17,18,19,20,21] .fin) (.br 6 (Tr.sq [11] (.br 1 (Tr.sq [12,17,18,19,20,21] .fin) (.br 12 (.br 1 (Tr.sq [17,18,19,20,21] .fin) (.br 17 (.br 1 (Tr.sq [18,19,20,21] .fin) (.br 18 (Tr.sq [1,19,20,21] .fin) .stop)) .stop)) .stop))) .stop)) .stop)))) (.br 10 (.br 1 (Tr.sq [4,5,6,11,12,17,18,19,20,21] .fin) (.br 4 (Tr.sq [5] (.br 1 (Tr.sq [6,11,12,17,18,19,20,21] .fin) (.br 6 (Tr.sq [11] (.br 1 (Tr.sq [12,17,18,19,20,21] .fin) (.br 12 (.br 1 (Tr.sq [17,18,19,20,21] .fin) (.br 17 (.br 1 (Tr.sq [18,19,20,21] .fin) (.br 18 (Tr.sq [1,19,20,21] .fin) .stop)) .stop)) .stop))) .stop))) .stop)) .stop))) (by kernel_rfl) (Z ?_)
    refine AS u73 rfl ?_
    try simp only [go_sem]
    repeat' first|((with_reducible show aM _ _ _ _); refine Yc (Z ?_) (Z ?_))|((with_reducible show aI _ _ _); refine AX (AP u73) (Z ?_))|((with_reducible show eP _ _ _ _ _); refine AS u75 (Port.ds_len _) (Z ?_))|((with_reducible show Kh _ _ _ _ _ _ _ _ _ _ _); refine caG ⟨[],(r3 1001 1000013000 []),[(1,1,0)],(r5 1501 816272 []),[],true⟩ (ih0 _ _ _ _ _ _ u77) (Z ?_))
    all_goals
     have F:=AT u79
     obtain⟨hv51019a,Y⟩:=F
     refine BO .no (Z ?_)
     refine By (Z ?_)
     refine Ar (u78.map Core.ds) (by rw [← Y]; simp only [List.map_append,List.map_cons,List.map_nil,List.nil_append,List.append_nil,go_sem,Core.ds_eq]) (Z ?_)
     exact AF (k1 ih6) h
   ·exact AF trivial h
  ·intro p C v u y q g c k e i u16 r h
   rw [Ad] at h
   refine AM rfl rfl (Z ?_)
   refine AI h (fun h=>Z ?_) (fun h=>Z ?_)
   ·refine Mg (DL rfl rfl (ih4 p v u y q g c k e i C e.value [] _ h):) (.one ⟨_,.ce 1000007502 2 2000000000 (some 1) .no (k:=.done _),(r4 1000009000 1000007000 [(1000009004,2000000000)]),((1,1)::r3 1000009500 1000007500 []),?_⟩)
    simp only [go_sem]
    all_goals try rfl
   ·exact AF (k1 ih8) h
  ·intro p C v u y q g c k e i u17 r h
   rw [Bv] at h
   refine AM rfl rfl (Z ?_)
   refine AI h (fun h=>Z ?_) (fun h=>Z ?_)
   ·exact AF (k2 IU ih4) h
   ·refine AI h (fun h=>Z ?_) (fun h=>Z ?_)
    ·refine AW [false,false,false,false,false,false,false,false,false,false,false,false,false,true,true] (Tr.sq [13,14] .fin) (by kernel_rfl) (Z ?_)
     replace h:=AB h; obtain⟨u82,u83,h⟩:=h
     have F:=AT u83
     obtain⟨hv41002a,hv41002b⟩:=F
     refine BH (by rfl) (Z ?_)
     refine BO .yes (Z ?_)
     refine BH (UA (by intro x; exact⟨(L16Binder.ds_len _),L16Binder.dz_ng x⟩) _) (Z ?_)
     refine Ar (C.map L16Binder.dz) (cR L16Binder.dz_fz _) (Z ?_)
     refine By (Z ?_)
     refine Ar (u82.map L16Binder.dz) (by rw [← hv41002b]; simp only [List.nil_append]) (Z ?_)
     replace h:=AB h; obtain⟨u84,u85,h⟩:=h
     refine IW (OB _ _ _ u85) (by (first|rfl|(simp only [go_sem]; rfl))) (by first|rfl|(simp only [go_sem])) (Z ?_)
     replace h:=AB h; obtain⟨u86,u87,h⟩:=h
     have F:=AT u87
     obtain⟨hv41013a,I⟩:=F
     refine BO .yes (Z ?_)
     refine By (Z ?_)
     refine Ar (u86.map L16Binder.dz) (by rw [← I]; simp only [List.map_append,List.map_cons,List.map_nil,List.nil_append,List.append_nil,go_sem,L16Binder.ds_eq,L16Binder.dz_eq]) (Z ?_)
     refine Mg (DL rfl rfl (ih4 p v u y q g c k e i u86 0 [] _ h):) (.one ⟨_,.ce 1000008502 2 2000000000 (some 1) .no (k:=.fT 656208 [(3,[]),(210,[])] [] (k:=.done _)),(r4 1000009000 1000008000 [(1000009004,2000000000)]),((1,1)::r3 1000009500 1000008500 []),?_⟩)
     simp only [go_sem]
     all_goals try rfl
    ·refine Mg (DL rfl rfl (ih4 p v u y q g c k e i C 0 [] _ h):) (.one ⟨_,.ce 1000008502 2 2000000000 (some 1) .no (k:=.done _),(r4 1000009000 1000008000 [(1000009004,2000000000)]),((1,1)::r3 1000009500 1000008500 []),?_⟩)
     simp only [go_sem]
     all_goals try rfl
  ·intro p C v u q g c k b u18 r h
   rw [EC] at h
   exact AF (k1 ih1) h
def QU (n:Nat):=(O2 n).1
theorem Sk (n:Nat):(∀C u w r,Df n C u w=some r→BK prog f42 [1,1,1,0,1,0] (.tup [.agg [.int .i64 r.1.kind,.int .i64 r.1.value,.own 1501,.own 1502],.box 1601 0]) [(1501,⟨List.map AD r.1.data,some 1,0,.no⟩),(1502,⟨List.map Core.ds r.1.kids,some 4,0,.no⟩),(1503,⟨List.map AD r.2.entered,some 1,0,.no⟩),(1504,⟨List.map AD r.2.origins,some 1,0,.no⟩),(1505,⟨List.map Be r.2.labels,some 1,0,.no⟩)] [(1601,[.rop [.ro (r.2.n.agents.map Agent.ds)] 0,.int .i64 r.2.steps,.int .i64 r.2.nodes,.own 1503,.own 1504,.own 1505,.int .i64 r.2.code])] ⟨[(0,.rop [.ro (C.agents.map Agent.ds)] 0),(2,.box 1000001500 0),(4,.box 1000001501 0),(5,.own 1000001000),(6,.int .i64 w)],[(1000001000,some ⟨List.map (slD AD) u,some 1,0,.no⟩)],[(1000001500,some [.int .i64 0,.int .i64 0,.nils,.nils]),(1000001501,some [.rop [.ro (C.agents.map Agent.ds)] 0,.int .i64 0,.int .i64 0,.nils,.nils,.nils,.int .i64 0])]⟩):=by
 induction n with
 |zero=>exact((fun _ _ _ _ h=>by rw [Df] at h; cases h))
 | succ n ih=>
  have F:=ih
  ·intro C u w r h
   rw [Df] at h
   refine AM rfl rfl (Z ?_)
   refine Ai (Z ?_)
   refine AI h (fun h=>Z ?_) (fun h=>Z ?_)
   ·refine AK ?_
    replace h:=AB h; obtain⟨y,q,h⟩:=h
    have G:=AT q
    obtain⟨v,p⟩:=G
    refine BO .no (Z ?_)
    refine By (Z ?_)
    refine Ar (List.map (slD AD) y) (by rw [← p]; simp only [List.map_append,List.map_cons,List.map_nil,List.nil_append,List.append_nil,go_sem,slD]) (Z ?_)
    exact AF (k1 F) h
   ·refine Wt (.fT 1000001000 [(5,[])] [] (k:=.done _)) (Z ?_)
    all_goals try rfl
    replace h:=AB h; obtain⟨g,j,h⟩:=h
    refine AS j (Agent.ds_len _) (Z ?_)
    replace h:=AB h; obtain⟨k,b,h⟩:=h
    refine AS b (Port.ds_len _) (Z ?_)
    replace h:=AB h; obtain⟨d,c,h⟩:=h
    refine caG ⟨[(3000128176,.nils,some 1),(3000128177,.nils,some 1),(3000128178,.nils,some 1)],(r3 1001 3000128176 []),[(1,1000001501,0)],(r5 1501 128176 []),[],true⟩ (QU fuel _ _ _ _ _ _ c) (Z ?_)
    exact AF trivial h
theorem XV (a0 r) (h:Km a0=some r):AG prog 42 [.rop [.ro (a0.agents.map Agent.ds)] 0] [] [] (.tup [.agg [.int .i64 r.1.kind,.int .i64 r.1.value,.own 1501,.own 1502],.box 1601 0]) [(1501,⟨List.map AD r.1.data,some 1,0,.no⟩),(1502,⟨List.map Core.ds r.1.kids,some 4,0,.no⟩),(1503,⟨List.map AD r.2.entered,some 1,0,.no⟩),(1504,⟨List.map AD r.2.origins,some 1,0,.no⟩),(1505,⟨List.map Be r.2.labels,some 1,0,.no⟩)] [(1601,[.rop [.ro (r.2.n.agents.map Agent.ds)] 0,.int .i64 r.2.steps,.int .i64 r.2.nodes,.own 1503,.own 1504,.own 1505,.int .i64 r.2.code])] :=by
 unfold Km at h
 refine agF func42 mixed (h:=Z ?_)
 refine AK ?_
 refine AK ?_
 refine CH (DL rfl rfl (Sk fuel a0 [] 0 _ h):) (.one ⟨_,.lt 5 2000000000 3000 0 1 .no [] (k:=.done _),[(1000001000,2000000000)],[(1000001500,1000),(1000001501,2002)],?_⟩)
 simp only [go_sem]
 all_goals try rfl
end Go.Proofs.YthenkmapmnkelaaGreatDoor.Ab
