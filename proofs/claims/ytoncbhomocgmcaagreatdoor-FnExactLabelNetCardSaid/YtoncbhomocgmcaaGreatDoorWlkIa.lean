/-
 The functions do what their models say. Printed by wip/ab/gen.py.
-/
import Derived.Test.YtoncbhomocgmcaaGreatDoorModI
import Derived.Test.YtoncbhomocgmcaaGreatDoorTi2
import Derived.Test.YtoncbhomocgmcaaGreatDoorSameW
import Derived.Test.YtoncbhomocgmcaaGreatDoorWlkC
namespace Go.Proofs.YtoncbhomocgmcaaGreatDoor.Ab
set_option linter.defProp false
set_option linter.unusedVariables false
set_option linter.unusedSimpArgs false
set_option maxRecDepth 20000
set_option maxHeartbeats 4000000
open Go.RowKit
@[go_sem] def tka0 (b:Nat) (x0:List Int) (x1:List Core) (x2:List Int):List (Nat×Tok):=[(b,⟨List.map AB x0,some 1,0,.no⟩),(b+1,⟨List.map Core.ds x1,some 4,0,.no⟩),(b+2,⟨List.map AB x2,some 1,0,.no⟩)]
theorem H2 (a0:Reading) (a1:Port) (u:Bool) (r:Int × Reading) (h:BT a0 a1 u=some r):CF Tryz.prog Tryz.f59 [1,1,1,0,1,1] (.int .i64 r.1) [(1501,⟨List.map AB r.2.origins,some 1,0,.no⟩),(1502,⟨List.map AB r.2.times,some 1,0,.no⟩),(1503,⟨List.map AT r.2.labels,some 1,0,.no⟩)] [(1,[.ro (a0.net.agents.map Agent.ds),.int .i64 r.2.entered,.int .i64 r.2.nodes,.own 1501,.own 1502,.own 1503])] ⟨[(0,.box 1 0),(3,.box 1000000500 0),(40,.bool u)],[(1000000000,some ⟨List.map AB a0.origins,some 1,0,.no⟩),(1000000001,some ⟨List.map AB a0.times,some 1,0,.no⟩),(1000000002,some ⟨List.map AT a0.labels,some 1,0,.no⟩)],[(1,some [.ro (a0.net.agents.map Agent.ds),.int .i64 (IntKind.i64.wrap (a0.entered+1)),.int .i64 a0.nodes,.own 1000000000,.own 1000000001,.own 1000000002]),(1000000500,some [.int .i64 a1.agent,.int .i64 a1.slot])]⟩:=by
 unfold BT at h
 refine Aj rfl rfl (Z ?_)
 refine AO h (fun h=>Z ?_) (fun h=>Z ?_)
 ·refine BS [false,false,false,false,false,false,false,false,false,false,true] (Tr.sq [10] .fin) (by kernel_rfl) (Z ?_)
  replace h:=AJ h; obtain⟨w,y,h⟩:=h
  refine Aq y rfl (Z ?_)
  refine BN (A8 y) (Z ?_)
  replace h:=AJ h; obtain⟨q,g,h⟩:=h
  refine Aq g rfl (Z ?_)
  replace h:=AJ h; obtain⟨j,k,h⟩:=h
  refine BN (A8 g) (Z ?_)
  refine AN (j.map AB) (by rw [← BG k]; simp only [List.map_set,go_sem,slD]) (Z ?_)
  exact AI trivial h
 ·exact AI trivial h
theorem J7 (a0 a1 r) (h:Ck a0 a1=some r):AG Tryz.prog 59 [.box 1 0,.agg [.int .i64 a1.agent,.int .i64 a1.slot]] [(1001,⟨List.map AB a0.origins,some 1,0,.no⟩),(1002,⟨List.map AB a0.times,some 1,0,.no⟩),(1003,⟨List.map AT a0.labels,some 1,0,.no⟩)] [(1,[.ro (a0.net.agents.map Agent.ds),.int .i64 a0.entered,.int .i64 a0.nodes,.own 1001,.own 1002,.own 1003])] (.int .i64 r.1) [(1501,⟨List.map AB r.2.origins,some 1,0,.no⟩),(1502,⟨List.map AB r.2.times,some 1,0,.no⟩),(1503,⟨List.map AT r.2.labels,some 1,0,.no⟩)] [(1,[.ro (a0.net.agents.map Agent.ds),.int .i64 r.2.entered,.int .i64 r.2.nodes,.own 1501,.own 1502,.own 1503])] :=by
 unfold Ck at h
 refine agF Tryz.func59 mixed (h:=Z ?_)
 refine AO h (fun h=>Z ?_) (fun h=>Z ?_)
 ·exact AI trivial h
 ·refine AS ?_
  refine BS [false,false,false,false,false,false,false,false,false,false,true] (Tr.sq [10] .fin) (by kernel_rfl) (Z ?_)
  exact AI (k1 H2) h
theorem OT (a0 r) (h:E8 a0=some r):AC Tryz.prog 60 [.agg (Port.avs a0)] (.str r):=by
 unfold E8 at h
 refine acF Tryz.func60 mixed (h:=Z ?_)
 refine BS [] .fin (by kernel_rfl) (Z ?_)
 replace h:=AJ h; obtain⟨u,w,h⟩:=h
 refine AU (Ho _ _ w) (Z ?_)
 replace h:=AJ h; obtain⟨y,q,h⟩:=h
 have hq_:=Cj q
 obtain⟨hv2003a,hv2003b⟩:=hq_
 refine AK hv2003a ?_
 rw [hv2003b]
 try simp only [go_sem]
 replace h:=AJ h; obtain⟨g,j,h⟩:=h
 refine AU (Ho _ _ j) (Z ?_)
 replace h:=AJ h; obtain⟨k,b,h⟩:=h
 have hq_:=Cj b
 obtain⟨hv2007a,hv2007b⟩:=hq_
 refine AK hv2007a ?_
 rw [hv2007b]
 try simp only [go_sem]
 replace h:=AJ h; obtain⟨d,c,h⟩:=h
 have hq_:=Cj c
 obtain⟨hv2008a,hv2008b⟩:=hq_
 refine AK hv2008a ?_
 rw [hv2008b]
 try simp only [go_sem]
 exact AI trivial h
theorem Lt (a0 a1 a2 r) (h:Bp a0 a1 a2=some r):AG Tryz.prog 61 [.box 1 0,.agg [.int .i64 a1.agent,.int .i64 a1.slot],.box 2 0] [(1001,⟨List.map AB a0.origins,some 1,0,.no⟩),(1002,⟨List.map AB a0.times,some 1,0,.no⟩),(1003,⟨List.map AT a0.labels,some 1,0,.no⟩)] [(1,[.ro (a0.net.agents.map Agent.ds),.int .i64 a0.entered,.int .i64 a0.nodes,.own 1001,.own 1002,.own 1003]),(2,[(nop Stack.avs a2.e0),(nop Stack.avs a2.e1),(nop Stack.avs a2.e2),(nop Stack.avs a2.e3),(nop Stack.avs a2.e4),(nop Stack.avs a2.e5),(nop Stack.avs a2.e6),(nop Stack.avs a2.e7),(nop Stack.avs a2.e8)])] (.tup [.agg [.int .i64 r.1.agent,.int .i64 r.1.slot],.bool r.2.1]) [(1501,⟨List.map AB a0.origins,some 1,0,.no⟩),(1502,⟨List.map AB a0.times,some 1,0,.no⟩),(1503,⟨List.map AT a0.labels,some 1,0,.no⟩)] [(2,[(nop Stack.avs r.2.2.e0),(nop Stack.avs r.2.2.e1),(nop Stack.avs r.2.2.e2),(nop Stack.avs r.2.2.e3),(nop Stack.avs r.2.2.e4),(nop Stack.avs r.2.2.e5),(nop Stack.avs r.2.2.e6),(nop Stack.avs r.2.2.e7),(nop Stack.avs r.2.2.e8)]),(1,[.ro (a0.net.agents.map Agent.ds),.int .i64 a0.entered,.int .i64 a0.nodes,.own 1501,.own 1502,.own 1503])] :=by
 unfold Bp at h
 refine agF Tryz.func61 mixed (h:=Z ?_)
 refine AS ?_
 refine BS [] .fin (by kernel_rfl) (Z ?_)
 replace h:=AJ h; obtain⟨u,w,h⟩:=h
 refine Aq w (Agent.ds_len _) (Z ?_)
 refine AS ?_
 refine AO h (fun h=>Z ?_) (fun h=>Z ?_)
 ·refine BS [false,false,false,false,false,false,false,false,false,false,false,false,false,true] (.fz (Tr.sq [13] .fin)) (by kernel_rfl) (Z ?_)
  replace h:=AJ h; obtain⟨y,q,h⟩:=h
  refine AK (by have hb_:=GZ q; simpa using hb_) (Z ?_)
  refine BN (x:=nop Stack.avs y) (by simp only [Nat.zero_add,Nat.mul_one]; exact Ul (f:=nop Stack.avs) (l:=[a2.e0,a2.e1,a2.e2,a2.e3,a2.e4,a2.e5,a2.e6,a2.e7,a2.e8]) q) (Z ?_)
  replace h:=AJ h; obtain⟨g,j,h⟩:=h
  refine AK (by have hb_:=GZ j; simpa using hb_) (Z ?_)
  refine BB (.frzB 4010 [(33,[])] [] _ _ _ (by (first|rfl|(simp only [go_sem]; rfl))) (by decide) (by rfl) (by (first|rfl|(simp only [go_sem]; rfl))) (by (first|rfl|(simp only [go_sem]; rfl))) (.done _)) (Z ?_)
  all_goals try rfl
  replace h:=AJ h; obtain⟨k,b,h⟩:=h
  replace h:=AJ h; obtain⟨d,c,h⟩:=h
  refine AK (by have hb_:=GZ j; simp only [List.length_cons,List.length_nil] at hb_ ⊢; omega) (Z ?_)
  refine AN (Stacks.avs d) (by have hp_:=Stacks.put (s:=a2) (x:=(some (⟨a1.slot,y⟩:Stack))) b c; rw [Stack.nop_some] at hp_; simp only [Nat.zero_add,Nat.mul_one]; exact hp_) (Z ?_)
  refine AS ?_
  refine BS [false,false,false,false,false,false,false,true,true] (Tr.sq [7,8] .fin) (by kernel_rfl) (Z ?_)
  exact AI (k1 EC) h
 ·refine AS ?_
  replace h:=AJ h; obtain⟨t,o,h⟩:=h
  refine AK (by have hb_:=GZ o; simpa using hb_) (Z ?_)
  refine BN (x:=nop Stack.avs t) (by simp only [Nat.zero_add,Nat.mul_one]; exact Ul (f:=nop Stack.avs) (l:=[a2.e0,a2.e1,a2.e2,a2.e3,a2.e4,a2.e5,a2.e6,a2.e7,a2.e8]) o) (Z ?_)
  rcases hqv7001_8n:t with _|v7001_8n
  ·rw [hqv7001_8n] at h
   replace h:=aV h
   try simp only [hqv7001_8n,Xq]
   try simp only [go_sem]
   exact AI trivial h
  ·rw [hqv7001_8n] at h
   replace h:=aW h
   try simp only [hqv7001_8n,Un]
   try simp only [go_sem]
   refine AS ?_
   refine BS [false,false,false,false,false,false,false,false,true] (Tr.sq [8] .fin) (by kernel_rfl) (Z ?_)
   replace h:=AJ h; obtain⟨z,u1,h⟩:=h
   refine AK (by have hb_:=GZ u1; simpa using hb_) (Z ?_)
   replace h:=AJ h; obtain⟨u2,u3,h⟩:=h
   replace h:=AJ h; obtain⟨u4,u5,h⟩:=h
   refine AK (by have hb_:=GZ u1; simp only [List.length_cons,List.length_nil] at hb_ ⊢; omega) (Z ?_)
   refine AN (Stacks.avs u4) (by simp only [Nat.zero_add,Nat.mul_one]; exact Stacks.put (s:=a2) (x:=v7001_8n.rest) u3 u5) (Z ?_)
   refine AS ?_
   refine BS [false,false,false,false,false,false,false,false,false,false,false,true,true] (Tr.sq [11,12] .fin) (by kernel_rfl) (Z ?_)
   exact AI (k1 EC) h
theorem LD (a0 r) (h:Ew a0=some r):AG Tryz.prog 65 [.int .i64 a0] [] [] (.agg [.int .i64 r.kind,.int .i64 r.value,.nils,.nils]) [] [] :=by
 unfold Ew at h
 refine agF Tryz.func65 mixed (h:=Z ?_)
 exact AI trivial h
theorem Gm (n:Nat):(∀a0 a1 a2 u r,Ao n a0 a1 a2 u=some r→BE Tryz.prog Tryz.f103 [1,0,1,0] (.bool r) ⟨[(3,.box 1000001500 0),(4,.box 1000001501 0),(8,.int .i64 a2),(9,.int .i64 u)],[],[(1000001500,some [(nop Stack.avs a0.e0),(nop Stack.avs a0.e1),(nop Stack.avs a0.e2),(nop Stack.avs a0.e3),(nop Stack.avs a0.e4),(nop Stack.avs a0.e5),(nop Stack.avs a0.e6),(nop Stack.avs a0.e7),(nop Stack.avs a0.e8)]),(1000001501,some [(nop Stack.avs a1.e0),(nop Stack.avs a1.e1),(nop Stack.avs a1.e2),(nop Stack.avs a1.e3),(nop Stack.avs a1.e4),(nop Stack.avs a1.e5),(nop Stack.avs a1.e6),(nop Stack.avs a1.e7),(nop Stack.avs a1.e8)])]⟩):=by
 induction n with
 |zero=>exact((fun _ _ _ _ _ h=>by rw [Ao] at h; cases h))
 | succ n ih=>
  have ih0:=ih
  ·intro a0 a1 a2 u r h
   rw [Ao] at h
   refine Bn rfl rfl (Z ?_)
   refine Bw (Z ?_)
   refine AO h (fun h=>Z ?_) (fun h=>Z ?_)
   ·refine AS ?_
    refine BS [] .fin (by kernel_rfl) (Z ?_)
    replace h:=AJ h; obtain⟨w,y,h⟩:=h
    refine AK (by have hb_:=GZ y; simpa using hb_) (Z ?_)
    refine BN (x:=nop Stack.avs w) (by simp only [Nat.zero_add,Nat.mul_one]; exact Ul (f:=nop Stack.avs) (l:=[a0.e0,a0.e1,a0.e2,a0.e3,a0.e4,a0.e5,a0.e6,a0.e7,a0.e8]) y) (Z ?_)
    replace h:=AJ h; obtain⟨q,g,h⟩:=h
    refine AK (by have hb_:=GZ g; simpa using hb_) (Z ?_)
    refine BN (x:=nop Stack.avs q) (by simp only [Nat.zero_add,Nat.mul_one]; exact Ul (f:=nop Stack.avs) (l:=[a1.e0,a1.e1,a1.e2,a1.e3,a1.e4,a1.e5,a1.e6,a1.e7,a1.e8]) g) (Z ?_)
    exact AI (k2 OP ih0) h
   ·exact AI trivial h
theorem H3 (a0 a1 a2 r) (h:CS a0 a1 a2=some r):AC Tryz.prog 103 [.agg (Stacks.avs a0),.agg (Stacks.avs a1),.int .i64 a2] (.bool r):=by
 unfold CS at h
 refine acF Tryz.func103 mixed (h:=Z ?_)
 exact AI (k1 Gm) h
theorem GP (n:Nat):(∀a0 a1 a2 u w r,Ah n a0 a1 a2 u w=some r→BE Tryz.prog Tryz.f85 [1,0,1,0] (.int .i64 r) ⟨[(0,.rop (Reading.avs a0) 0),(1,.int .i64 a1),(3,(nop ReadBinder.avs u)),(6,.box 1000002500 0),(9,.int .i64 w)],[],[(1000002500,some [(nop Stack.avs a2.e0),(nop Stack.avs a2.e1),(nop Stack.avs a2.e2),(nop Stack.avs a2.e3),(nop Stack.avs a2.e4),(nop Stack.avs a2.e5),(nop Stack.avs a2.e6),(nop Stack.avs a2.e7),(nop Stack.avs a2.e8)])]⟩)∧
    (∀ (a0:Reading) (a1:Int) (a2:Stacks) (w:Int) (v3001_8nnn:ReadBinder) (y:Bool) (r:Int),A4 n a0 a1 a2 w v3001_8nnn y=some r→BE Tryz.prog Tryz.f85 [1,0,1,0,0,1,0,0,1] (.int .i64 r) ⟨[(0,.rop (Reading.avs a0) 0),(1,.int .i64 a1),(3,.rop [.int .i64 v3001_8nnn.lam,(nop Stack.avs v3001_8nnn.stacks.e0),(nop Stack.avs v3001_8nnn.stacks.e1),(nop Stack.avs v3001_8nnn.stacks.e2),(nop Stack.avs v3001_8nnn.stacks.e3),(nop Stack.avs v3001_8nnn.stacks.e4),(nop Stack.avs v3001_8nnn.stacks.e5),(nop Stack.avs v3001_8nnn.stacks.e6),(nop Stack.avs v3001_8nnn.stacks.e7),(nop Stack.avs v3001_8nnn.stacks.e8),(nop ReadBinder.avs v3001_8nnn.rest)] 0),(6,.box 1000003500 0),(9,.int .i64 w),(40,.bool y)],[],[(1000003500,some [(nop Stack.avs a2.e0),(nop Stack.avs a2.e1),(nop Stack.avs a2.e2),(nop Stack.avs a2.e3),(nop Stack.avs a2.e4),(nop Stack.avs a2.e5),(nop Stack.avs a2.e6),(nop Stack.avs a2.e7),(nop Stack.avs a2.e8)])]⟩):=by
 induction n with
 |zero=>exact⟨(fun _ _ _ _ _ _ h=>by rw [Ah] at h; cases h),(fun _ _ _ _ _ _ _ h=>by rw [A4] at h; cases h)⟩
 | succ n ih=>
  obtain⟨ih0,ih1⟩:=ih
  refine⟨?_,?_⟩
  ·intro a0 a1 a2 u w r h
   rw [Ah] at h
   refine Bn rfl rfl (Z ?_)
   refine Bw (Z ?_)
   rcases hqv3001_8nnn:u with _|v3001_8nnn
   ·rw [hqv3001_8nnn] at h
    replace h:=aV h
    try simp only [hqv3001_8nnn,Xq]
    try simp only [go_sem]
    exact AI trivial h
   ·rw [hqv3001_8nnn] at h
    replace h:=aW h
    try simp only [hqv3001_8nnn,Un]
    try simp only [go_sem]
    exact AI (k2 H3 ih1) h
  ·intro a0 a1 a2 w v3001_8nnn y r h
   rw [A4] at h
   exact AI (k1 ih0) h
def Gn (n:Nat):=(GP n).1
theorem H4 (a0 a1 a2 a3 r) (h:Bl a0 a1 a2 a3=some r):AC Tryz.prog 85 [.rop (Reading.avs a0) 0,.int .i64 a1,.agg (Stacks.avs a2),(nop ReadBinder.avs a3)] (.int .i64 r):=by
 unfold Bl at h
 refine acF Tryz.func85 mixed (h:=Z ?_)
 exact AI (k1 Gn) h
theorem Qv (a0 r) (h:JA a0=some r):AG Tryz.prog 86 [.int .i64 a0] [] [] (.agg [.int .i64 r.kind,.int .i64 r.value,.nils,.nils]) [] [] :=by
 unfold JA at h
 refine agF Tryz.func86 mixed (h:=Z ?_)
 exact AI trivial h
theorem Ge (a0 r) (h:C8 a0=some r):AC Tryz.prog 87 [.ro (a0.map AB)] (.ow (some 1) (r.map AB)):=by
 unfold C8 at h
 refine acF Tryz.func87 mixed (h:=Z ?_)
 refine gD (by simp only [go_sem]) (fun h0=>?_) ?_
 ·try simp only [go_sem]
  have hq_:=List.map_eq_nil_iff.1 h0
  obtain rfl:=hq_
  obtain rfl:r=[] :=by cases h; rfl
  simp only [go_sem]
 ·try simp only [go_sem]
  refine AS ?_
  replace h:=AJ h; obtain⟨u,w,h⟩:=h
  have hq_:=AH w
  obtain⟨hv4002a,hv4002b⟩:=hq_
  refine AP .no (Z ?_)
  refine AK (Kx (by intro x; exact⟨rfl,by simp [go_sem,D.flat]⟩) _) (Z ?_)
  refine AK (by (try refine⟨?_,?_⟩) <;> (try simp only [List.length_map,List.length_append,List.length_cons,List.length_nil] at*) <;> (try unfold maxLen) <;> omega) (Z ?_)
  refine AN (u.map AB) (by rw [← hv4002b]; simp only [List.map_append,List.map_cons,List.map_nil,List.nil_append,List.append_nil,go_sem,slD]) (Z ?_)
  exact AI trivial h
theorem Qw (a0 r) (h:JB a0=some r):AG Tryz.prog 88 [.int .i64 a0] [] [] (.agg [.int .i64 r.kind,.int .i64 r.value,.nils,.nils]) [] [] :=by
 unfold JB at h
 refine agF Tryz.func88 mixed (h:=Z ?_)
 exact AI trivial h
theorem Hp (n:Nat):(∀u w y r,Ap n u w y=some r→CF Tryz.prog Tryz.f62 [1,1,0,0,1,1,1,1,1,1,1,1,1,1,1,1,1,0,1,0,1,0] (.tup [.agg [.int .i64 r.1.kind,.int .i64 r.1.value,.own 1501,.own 1502],.own 1503,.bool r.2.2]) (tka0 1501 r.1.data r.1.kids r.2.1) [] ⟨[(8,.box 1000011500 0),(11,.box 1000011501 0),(13,.own 1000011000),(14,.int .i64 y)],[(1000011000,some ⟨List.map AB w,some 1,0,.no⟩)],[(1000011500,some [.int .i64 0,.int .i64 0,.nils,.nils]),(1000011501,some (Agent.avs u))]⟩):=by
 induction n with
 |zero=>exact((fun _ _ _ _ h=>by rw [Ap] at h; cases h))
 | succ n ih=>
  have ih0:=ih
  ·intro u w y r h
   rw [Ap] at h
   refine Aj rfl rfl (Z ?_)
   refine Bw (Z ?_)
   refine AO h (fun h=>Z ?_) (fun h=>Z ?_)
   ·refine AS ?_
    replace h:=AJ h; obtain⟨q,g,h⟩:=h
    have hq_:=AH g
    obtain⟨hv21003a,hv21003b⟩:=hq_
    refine AP .no (Z ?_)
    refine AK (by (try refine⟨?_,?_⟩) <;> (try simp only [List.length_map,List.length_append,List.length_cons,List.length_nil] at*) <;> (try unfold maxLen) <;> omega) (Z ?_)
    refine AN (q.map AB) (by rw [← hv21003b]; simp only [List.map_append,List.map_cons,List.map_nil,List.nil_append,List.append_nil,go_sem,slD]) (Z ?_)
    exact AI (k1 ih0) h
   ·refine AS ?_
    cases h
    refine CK (.deep 0 2000000000 (some 1) .no [0,2] (by (first|rfl|(simp only [go_sem]; rfl))) (by simp only [go_sem]) (.deep 0 2000000001 (some 4) .no [0,3] (by (first|rfl|(simp only [go_sem]; rfl))) (by simp only [go_sem]) (.done _))) [(1501,2000000000),(1502,2000000001),(1503,1000011000)] [] ?_
    simp only [go_sem]
    all_goals try rfl
theorem Hq (u:Agent) (w:Bool) (r:Core × (List Int) × Bool) (h:CE u w=some r):CF Tryz.prog Tryz.f62 [1,1,0,0,1,1,1,1,1,1,1,1,1,1,1,1,1,1,1,1,1] (.tup [.agg [.int .i64 r.1.kind,.int .i64 r.1.value,.own 1501,.own 1502],.own 1503,.bool r.2.2]) (tka0 1501 r.1.data r.1.kids r.2.1) [] ⟨[(8,.box 1000009500 0),(11,.box 1000009501 0),(136,.bool w)],[],[(1000009500,some [.int .i64 0,.int .i64 0,.nils,.nils]),(1000009501,some (Agent.avs u))]⟩:=by
 unfold CE at h
 refine Aj rfl rfl (Z ?_)
 refine AO h (fun h=>Z ?_) (fun h=>Z ?_)
 ·replace h:=AJ h; obtain⟨y,q,h⟩:=h
  refine AU (Ge _ _ q) (Z ?_)
  refine AS ?_
  cases h
  refine CK (.deep 0 2000000000 (some 4) .no [0,3] (by (first|rfl|(simp only [go_sem]; rfl))) (by simp only [go_sem]) (.lit 0 2000000001 26004 1 1 .no [1] _ _ (by (first|rfl|(simp only [go_sem]; rfl))) (by simp only [go_sem]; rfl) (by (first|rfl|(simp only [go_sem]; rfl))) (by (first|rfl|(simp only [go_sem]; rfl))) (by decide) (by decide) (by simp only [go_sem]) (.done _))) [(1501,416032),(1502,2000000000),(1503,2000000001)] [] ?_
  simp only [go_sem]
  all_goals try rfl
 ·refine AO h (fun h=>Z ?_) (fun h=>Z ?_)
  ·replace h:=AJ h; obtain⟨g,j,h⟩:=h
   refine AZ (Qw _ _ j) (by (first|rfl|(simp only [go_sem]; rfl))) (by first|rfl|(simp only [go_sem])) (Z ?_)
   refine AS ?_
   cases h
   refine CK (.deep 0 2000000000 (some 1) .no [0,2] (by (first|rfl|(simp only [go_sem]; rfl))) (by simp only [go_sem]) (.deep 0 2000000001 (some 4) .no [0,3] (by (first|rfl|(simp only [go_sem]; rfl))) (by simp only [go_sem]) (.deep 0 2000000002 (some 1) .no [1] (by (first|rfl|(simp only [go_sem]; rfl))) (by simp only [go_sem]) (.done _)))) (r3 1501 2000000000 []) [] ?_
   simp only [go_sem]
   all_goals try rfl
  ·refine AS ?_
   cases h
   refine CK (.deep 0 2000000000 (some 1) .no [0,2] (by (first|rfl|(simp only [go_sem]; rfl))) (by simp only [go_sem]) (.deep 0 2000000001 (some 4) .no [0,3] (by (first|rfl|(simp only [go_sem]; rfl))) (by simp only [go_sem]) (.deep 0 2000000002 (some 1) .no [1] (by (first|rfl|(simp only [go_sem]; rfl))) (by simp only [go_sem]) (.done _)))) (r3 1501 2000000000 []) [] ?_
   simp only [go_sem]
   all_goals try rfl
theorem H5 (a1:Port) (u:Agent) (w:Bool) (r:Core × (List Int) × Bool) (h:CT a1 u w=some r):CF Tryz.prog Tryz.f62 [1,1,0,0,1,1,1,1,1,1,1,1,1,1,1,1,1,1,1] (.tup [.agg [.int .i64 r.1.kind,.int .i64 r.1.value,.own 1501,.own 1502],.own 1503,.bool r.2.2]) (tka0 1501 r.1.data r.1.kids r.2.1) [] ⟨[(5,.box 1000008500 0),(8,.box 1000008501 0),(11,.box 1000008502 0),(122,.bool w)],[],[(1000008500,some [.int .i64 a1.agent,.int .i64 a1.slot]),(1000008501,some [.int .i64 0,.int .i64 0,.nils,.nils]),(1000008502,some (Agent.avs u))]⟩:=by
 unfold CT at h
 refine Aj rfl rfl (Z ?_)
 refine AO h (fun h=>Z ?_) (fun h=>Z ?_)
 ·replace h:=AJ h; obtain⟨y,q,h⟩:=h
  refine AU (Ge _ _ q) (Z ?_)
  refine AS ?_
  cases h
  refine CK (.deep 0 2000000000 (some 4) .no [0,3] (by (first|rfl|(simp only [go_sem]; rfl))) (by simp only [go_sem]) (.lit 0 2000000001 24004 1 1 .no [1] _ _ (by (first|rfl|(simp only [go_sem]; rfl))) (by simp only [go_sem]; rfl) (by (first|rfl|(simp only [go_sem]; rfl))) (by (first|rfl|(simp only [go_sem]; rfl))) (by decide) (by decide) (by simp only [go_sem]) (.done _))) [(1501,384032),(1502,2000000000),(1503,2000000001)] [] ?_
  simp only [go_sem]
  all_goals try rfl
 ·exact AI (k1 Hq) h
theorem H6 (a1:Port) (u:Agent) (w:Bool) (r:Core × (List Int) × Bool) (h:CU a1 u w=some r):CF Tryz.prog Tryz.f62 [1,1,0,0,1,1,1,1,1,1,1,1,1,1,1,1,1] (.tup [.agg [.int .i64 r.1.kind,.int .i64 r.1.value,.own 1501,.own 1502],.own 1503,.bool r.2.2]) (tka0 1501 r.1.data r.1.kids r.2.1) [] ⟨[(5,.box 1000005500 0),(8,.box 1000005501 0),(11,.box 1000005502 0),(98,.bool w)],[],[(1000005500,some [.int .i64 a1.agent,.int .i64 a1.slot]),(1000005501,some [.int .i64 0,.int .i64 0,.nils,.nils]),(1000005502,some (Agent.avs u))]⟩:=by
 unfold CU at h
 refine Aj rfl rfl (Z ?_)
 refine AO h (fun h=>Z ?_) (fun h=>Z ?_)
 ·refine EX (EE rfl rfl (Hp fuel u [] 1 _ h):) (.one ⟨_,.slot 13 2000000000 (some 1) .no (by simp only [go_sem]) (by simp only [go_sem]) (.done _),[(1000011000,2000000000)],[(1000011500,1000005501),(1000011501,1000005502)],?_⟩)
  simp only [go_sem]
  all_goals try rfl
 ·exact AI (k1 H5) h
theorem H7 (a1:Port) (u:Agent) (w:Bool) (r:Core × (List Int) × Bool) (h:CV a1 u w=some r):CF Tryz.prog Tryz.f62 [1,1,0,0,1,1,1,1,1,1,1,1,1,1,1] (.tup [.agg [.int .i64 r.1.kind,.int .i64 r.1.value,.own 1501,.own 1502],.own 1503,.bool r.2.2]) (tka0 1501 r.1.data r.1.kids r.2.1) [] ⟨[(5,.box 1000004500 0),(8,.box 1000004501 0),(11,.box 1000004502 0),(85,.bool w)],[],[(1000004500,some [.int .i64 a1.agent,.int .i64 a1.slot]),(1000004501,some [.int .i64 0,.int .i64 0,.nils,.nils]),(1000004502,some (Agent.avs u))]⟩:=by
 unfold CV at h
 refine Aj rfl rfl (Z ?_)
 refine AO h (fun h=>Z ?_) (fun h=>Z ?_)
 ·refine AS ?_
  cases h
  refine CK (.deep 0 2000000000 (some 1) .no [0,2] (by (first|rfl|(simp only [go_sem]; rfl))) (by simp only [go_sem]) (.deep 0 2000000001 (some 4) .no [0,3] (by (first|rfl|(simp only [go_sem]; rfl))) (by simp only [go_sem]) (.lit 0 2000000002 15003 1 1 .no [1] _ _ (by (first|rfl|(simp only [go_sem]; rfl))) (by simp only [go_sem]; rfl) (by (first|rfl|(simp only [go_sem]; rfl))) (by (first|rfl|(simp only [go_sem]; rfl))) (by decide) (by decide) (by simp only [go_sem]) (.done _)))) (r3 1501 2000000000 []) [] ?_
  simp only [go_sem]
  all_goals try rfl
 ·exact AI (k1 H6) h
theorem H8 (a1:Port) (u:Agent) (w:Bool) (r:Core × (List Int) × Bool) (h:CW a1 u w=some r):CF Tryz.prog Tryz.f62 [1,1,0,0,1,1,1,1,1,1,1,1,1] (.tup [.agg [.int .i64 r.1.kind,.int .i64 r.1.value,.own 1501,.own 1502],.own 1503,.bool r.2.2]) (tka0 1501 r.1.data r.1.kids r.2.1) [] ⟨[(5,.box 1000003500 0),(8,.box 1000003501 0),(11,.box 1000003502 0),(72,.bool w)],[],[(1000003500,some [.int .i64 a1.agent,.int .i64 a1.slot]),(1000003501,some [.int .i64 0,.int .i64 0,.nils,.nils]),(1000003502,some (Agent.avs u))]⟩:=by
 unfold CW at h
 refine Aj rfl rfl (Z ?_)
 refine AO h (fun h=>Z ?_) (fun h=>Z ?_)
 ·refine AS ?_
  cases h
  refine CK (.deep 0 2000000000 (some 1) .no [0,2] (by (first|rfl|(simp only [go_sem]; rfl))) (by simp only [go_sem]) (.deep 0 2000000001 (some 4) .no [0,3] (by (first|rfl|(simp only [go_sem]; rfl))) (by simp only [go_sem]) (.lit 0 2000000002 13003 2 1 .no [1] _ _ (by (first|rfl|(simp only [go_sem]; rfl))) (by simp only [go_sem]; rfl) (by (first|rfl|(simp only [go_sem]; rfl))) (by (first|rfl|(simp only [go_sem]; rfl))) (by decide) (by decide) (by simp only [go_sem]) (.done _)))) (r3 1501 2000000000 []) [] ?_
  simp only [go_sem]
  all_goals try rfl
 ·exact AI (k1 H7) h
theorem H9 (a1:Port) (u:Agent) (w:Bool) (r:Core × (List Int) × Bool) (h:CX a1 u w=some r):CF Tryz.prog Tryz.f62 [1,1,0,0,1,1,1,1,1] (.tup [.agg [.int .i64 r.1.kind,.int .i64 r.1.value,.own 1501,.own 1502],.own 1503,.bool r.2.2]) (tka0 1501 r.1.data r.1.kids r.2.1) [] ⟨[(5,.box 1000002500 0),(8,.box 1000002501 0),(11,.box 1000002502 0),(54,.bool w)],[],[(1000002500,some [.int .i64 a1.agent,.int .i64 a1.slot]),(1000002501,some [.int .i64 0,.int .i64 0,.nils,.nils]),(1000002502,some (Agent.avs u))]⟩:=by
 unfold CX at h
 refine Aj rfl rfl (Z ?_)
 refine AO h (fun h=>Z ?_) (fun h=>Z ?_)
 ·refine AS ?_
  cases h
  refine CK (.deep 0 2000000000 (some 1) .no [0,2] (by (first|rfl|(simp only [go_sem]; rfl))) (by simp only [go_sem]) (.deep 0 2000000001 (some 4) .no [0,3] (by (first|rfl|(simp only [go_sem]; rfl))) (by simp only [go_sem]) (.lit 0 2000000002 9001 2 1 .no [1] _ _ (by (first|rfl|(simp only [go_sem]; rfl))) (by simp only [go_sem]; rfl) (by (first|rfl|(simp only [go_sem]; rfl))) (by (first|rfl|(simp only [go_sem]; rfl))) (by decide) (by decide) (by simp only [go_sem]) (.done _)))) (r3 1501 2000000000 []) [] ?_
  simp only [go_sem]
  all_goals try rfl
 ·refine AO h (fun h=>Z ?_) (fun h=>Z ?_)
  ·replace h:=AJ h; obtain⟨y,q,h⟩:=h
   refine AZ (LD _ _ q) (by (first|rfl|(simp only [go_sem]; rfl))) (by first|rfl|(simp only [go_sem])) (Z ?_)
   refine AS ?_
   cases h
   refine CK (.deep 0 2000000000 (some 1) .no [0,2] (by (first|rfl|(simp only [go_sem]; rfl))) (by simp only [go_sem]) (.deep 0 2000000001 (some 4) .no [0,3] (by (first|rfl|(simp only [go_sem]; rfl))) (by simp only [go_sem]) (.deep 0 2000000002 (some 1) .no [1] (by (first|rfl|(simp only [go_sem]; rfl))) (by simp only [go_sem]) (.done _)))) (r3 1501 2000000000 []) [] ?_
   simp only [go_sem]
   all_goals try rfl
  ·exact AI (k1 H8) h
theorem IA (a0:Reading) (a1:Port) (a2:Stacks) (a3:Option ReadBinder) (u:Agent) (w:Bool) (r:Core × (List Int) × Bool) (h:CY a0 a1 a2 a3 u w=some r):CF Tryz.prog Tryz.f62 [1,1,0,0,1,1,1] (.tup [.agg [.int .i64 r.1.kind,.int .i64 r.1.value,.own 1501,.own 1502],.own 1503,.bool r.2.2]) (tka0 1501 r.1.data r.1.kids r.2.1) [] ⟨[(0,.rop (Reading.avs a0) 0),(3,(nop ReadBinder.avs a3)),(5,.box 1000001500 0),(6,.box 1000001501 0),(8,.box 1000001502 0),(11,.box 1000001503 0),(35,.bool w)],[],[(1000001500,some [.int .i64 a1.agent,.int .i64 a1.slot]),(1000001501,some [(nop Stack.avs a2.e0),(nop Stack.avs a2.e1),(nop Stack.avs a2.e2),(nop Stack.avs a2.e3),(nop Stack.avs a2.e4),(nop Stack.avs a2.e5),(nop Stack.avs a2.e6),(nop Stack.avs a2.e7),(nop Stack.avs a2.e8)]),(1000001502,some [.int .i64 0,.int .i64 0,.nils,.nils]),(1000001503,some (Agent.avs u))]⟩:=by
 unfold CY at h
 refine Aj rfl rfl (Z ?_)
 refine AO h (fun h=>Z ?_) (fun h=>Z ?_)
 ·replace h:=AJ h; obtain⟨y,q,h⟩:=h
  refine AU (H4 _ _ _ _ _ q) (Z ?_)
  refine AS ?_
  replace h:=AJ h; obtain⟨g,j,h⟩:=h
  refine AZ (Qv _ _ j) (by (first|rfl|(simp only [go_sem]; rfl))) (by first|rfl|(simp only [go_sem])) (Z ?_)
  refine AS ?_
  cases h
  refine CK (.deep 0 2000000000 (some 1) .no [0,2] (by (first|rfl|(simp only [go_sem]; rfl))) (by simp only [go_sem]) (.deep 0 2000000001 (some 4) .no [0,3] (by (first|rfl|(simp only [go_sem]; rfl))) (by simp only [go_sem]) (.deep 0 2000000002 (some 1) .no [1] (by (first|rfl|(simp only [go_sem]; rfl))) (by simp only [go_sem]) (.done _)))) (r3 1501 2000000000 []) [] ?_
  simp only [go_sem]
  all_goals try rfl
 ·exact AI (k1 H9) h
theorem IB (a0:Reading) (a1:Port) (a2:Stacks) (a3:Option ReadBinder) (u:Agent) (w:Bool) (r:Core × (List Int) × Bool) (h:CZ a0 a1 a2 a3 u w=some r):CF Tryz.prog Tryz.f62 [1,1,0,0,1] (.tup [.agg [.int .i64 r.1.kind,.int .i64 r.1.value,.own 1501,.own 1502],.own 1503,.bool r.2.2]) (tka0 1501 r.1.data r.1.kids r.2.1) [] ⟨[(0,.rop (Reading.avs a0) 0),(3,(nop ReadBinder.avs a3)),(5,.box 1000000500 0),(6,.box 1000000501 0),(8,.box 1000000502 0),(11,.box 1000000503 0),(24,.bool w)],[],[(1000000500,some [.int .i64 a1.agent,.int .i64 a1.slot]),(1000000501,some [(nop Stack.avs a2.e0),(nop Stack.avs a2.e1),(nop Stack.avs a2.e2),(nop Stack.avs a2.e3),(nop Stack.avs a2.e4),(nop Stack.avs a2.e5),(nop Stack.avs a2.e6),(nop Stack.avs a2.e7),(nop Stack.avs a2.e8)]),(1000000502,some [.int .i64 0,.int .i64 0,.nils,.nils]),(1000000503,some (Agent.avs u))]⟩:=by
 unfold CZ at h
 refine Aj rfl rfl (Z ?_)
 refine AO h (fun h=>Z ?_) (fun h=>Z ?_)
 ·refine AS ?_
  cases h
  refine CK (.deep 0 2000000000 (some 1) .no [0,2] (by (first|rfl|(simp only [go_sem]; rfl))) (by simp only [go_sem]) (.deep 0 2000000001 (some 4) .no [0,3] (by (first|rfl|(simp only [go_sem]; rfl))) (by simp only [go_sem]) (.lit 0 2000000002 4001 1 1 .no [1] _ _ (by (first|rfl|(simp only [go_sem]; rfl))) (by simp only [go_sem]; rfl) (by (first|rfl|(simp only [go_sem]; rfl))) (by (first|rfl|(simp only [go_sem]; rfl))) (by decide) (by decide) (by simp only [go_sem]) (.done _)))) (r3 1501 2000000000 []) [] ?_
  simp only [go_sem]
  all_goals try rfl
 ·exact AI (k1 IA) h
theorem J8 (a0 a1 a2 a3 r) (h:DW a0 a1 a2 a3=some r):AG Tryz.prog 62 [.rop (Reading.avs a0) 0,.agg [.int .i64 a1.agent,.int .i64 a1.slot],.agg [(nop Stack.avs a2.e0),(nop Stack.avs a2.e1),(nop Stack.avs a2.e2),(nop Stack.avs a2.e3),(nop Stack.avs a2.e4),(nop Stack.avs a2.e5),(nop Stack.avs a2.e6),(nop Stack.avs a2.e7),(nop Stack.avs a2.e8)],(nop ReadBinder.avs a3)] [] [] (.tup [.agg [.int .i64 r.1.kind,.int .i64 r.1.value,.own 1501,.own 1502],.own 1503,.bool r.2.2]) (tka0 1501 r.1.data r.1.kids r.2.1) [] :=by
 unfold DW at h
 refine agF Tryz.func62 mixed (h:=Z ?_)
 refine AS ?_
 refine BS [false,false,false,false,false,false,false,false,false,false,true] (Tr.sq [10] .fin) (by kernel_rfl) (Z ?_)
 exact AI (k1 IB) h
theorem Iv (a0:Reading) (a1:Int) (a2:ByteArray) (u:Bool) (r:Int × Reading) (h:B7 a0 a1 a2 u=some r):CF Tryz.prog Tryz.f63 [1,0,1] (.int .i64 r.1) [(1501,⟨List.map AB r.2.origins,some 1,0,.no⟩),(1502,⟨List.map AB r.2.times,some 1,0,.no⟩),(1503,⟨List.map AT r.2.labels,some 1,0,.no⟩)] [(1,[.ro (a0.net.agents.map Agent.ds),.int .i64 r.2.entered,.int .i64 r.2.nodes,.own 1501,.own 1502,.own 1503])] ⟨[(0,.box 1 0),(1,.int .i64 a1),(2,.str a2),(17,.bool u)],[(1000000000,some ⟨List.map AB a0.origins,some 1,0,.no⟩),(1000000001,some ⟨List.map AB a0.times,some 1,0,.no⟩),(1000000002,some ⟨List.map AT a0.labels,some 1,0,.no⟩)],[(1,some [.ro (a0.net.agents.map Agent.ds),.int .i64 a0.entered,.int .i64 a0.nodes,.own 1000000000,.own 1000000001,.own 1000000002])]⟩:=by
 unfold B7 at h
 refine Aj rfl rfl (Z ?_)
 refine AO h (fun h=>Z ?_) (fun h=>Z ?_)
 ·exact AI trivial h
 ·refine AS ?_
  replace h:=AJ h; obtain⟨w,y,h⟩:=h
  have hq_:=AH y
  obtain⟨hv5007a,hv5007b⟩:=hq_
  refine AP .no (Z ?_)
  refine AK (by (try refine⟨?_,?_⟩) <;> (try simp only [List.length_map,List.length_append,List.length_cons,List.length_nil] at*) <;> (try unfold maxLen) <;> omega) (Z ?_)
  refine AN (w.map AB) (by rw [← hv5007b]; simp only [List.map_append,List.map_cons,List.map_nil,List.nil_append,List.append_nil,go_sem,slD]) (Z ?_)
  refine AS ?_
  replace h:=AJ h; obtain⟨q,g,h⟩:=h
  have hq_:=AH g
  obtain⟨hv6007a,hv6007b⟩:=hq_
  refine AP .no (Z ?_)
  refine AK (by (try refine⟨?_,?_⟩) <;> (try simp only [List.length_map,List.length_append,List.length_cons,List.length_nil] at*) <;> (try unfold maxLen) <;> omega) (Z ?_)
  refine AN (q.map AT) (by rw [← hv6007b]; simp only [List.map_append,List.map_cons,List.map_nil,List.nil_append,List.append_nil,go_sem,slD]) (Z ?_)
  exact AI trivial h
theorem Gd (a0 a1 a2 a3 r) (h:Bz a0 a1 a2 a3=some r):AG Tryz.prog 63 [.box 1 0,.int .i64 a1,.str a2,.int .i64 a3] [(1001,⟨List.map AB a0.origins,some 1,0,.no⟩),(1002,⟨List.map AB a0.times,some 1,0,.no⟩),(1003,⟨List.map AT a0.labels,some 1,0,.no⟩)] [(1,[.ro (a0.net.agents.map Agent.ds),.int .i64 a0.entered,.int .i64 a0.nodes,.own 1001,.own 1002,.own 1003])] (.int .i64 r.1) [(1501,⟨List.map AB r.2.origins,some 1,0,.no⟩),(1502,⟨List.map AB r.2.times,some 1,0,.no⟩),(1503,⟨List.map AT r.2.labels,some 1,0,.no⟩)] [(1,[.ro (a0.net.agents.map Agent.ds),.int .i64 r.2.entered,.int .i64 r.2.nodes,.own 1501,.own 1502,.own 1503])] :=by
 unfold Bz at h
 refine agF Tryz.func63 mixed (h:=Z ?_)
 exact AI (k1 Iv) h
end Go.Proofs.YtoncbhomocgmcaaGreatDoor.Ab
