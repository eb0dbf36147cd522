/-
 The functions do what their models say. Printed by wip/ab/gen.py.
-/
import Derived.Test.YtoncbhomocgmcaaGreatDoorModS
import Derived.Test.YtoncbhomocgmcaaGreatDoorTi2
import Derived.Test.YtoncbhomocgmcaaGreatDoorWlkC
namespace Go.Proofs.YtoncbhomocgmcaaGreatDoor.Ab
set_option linter.defProp false
set_option linter.unusedVariables false
set_option linter.unusedSimpArgs false
set_option maxRecDepth 20000
set_option maxHeartbeats 4000000
open Go.RowKit
theorem O0 (a0 r) (h:GB a0=some r):AC Tryz.prog 72 [.agg (Port.avs a0)] (.str r):=by
 unfold GB at h
 refine acF Tryz.func72 mixed (h:=Z ?_)
 refine BS [] .fin (by kernel_rfl) (Z ?_)
 replace h:=AJ h; obtain⟨u,w,h⟩:=h
 refine AU (Hs _ _ w) (Z ?_)
 replace h:=AJ h; obtain⟨y,q,h⟩:=h
 have hq_:=Cj q
 obtain⟨hv2003a,hv2003b⟩:=hq_
 refine AK hv2003a ?_
 rw [hv2003b]
 try simp only [go_sem]
 replace h:=AJ h; obtain⟨g,j,h⟩:=h
 refine AU (Hs _ _ j) (Z ?_)
 replace h:=AJ h; obtain⟨k,b,h⟩:=h
 have hq_:=Cj b
 obtain⟨hv2007a,hv2007b⟩:=hq_
 refine AK hv2007a ?_
 rw [hv2007b]
 try simp only [go_sem]
 replace h:=AJ h; obtain⟨d,c,h⟩:=h
 have hq_:=Cj c
 obtain⟨hv2008a,hv2008b⟩:=hq_
 refine AK hv2008a ?_
 rw [hv2008b]
 try simp only [go_sem]
 exact AI trivial h
theorem B8 (a0 a1 r) (h:A1 a0 a1=some r):AG Tryz.prog 73 [.box 1 0,.int .i64 a1] [(1001,⟨List.map AB a0.entered,some 1,0,.no⟩),(1002,⟨List.map AB a0.origins,some 1,0,.no⟩),(1003,⟨List.map AT a0.labels,some 1,0,.no⟩)] [(1,[.rop [.ro (a0.n.agents.map Agent.ds)] 0,.int .i64 a0.steps,.int .i64 a0.nodes,.own 1001,.own 1002,.own 1003,.int .i64 a0.code])] (.agg [.int .i64 r.1.kind,.int .i64 r.1.value,.own 1501,.own 1502]) [(1501,⟨List.map AB r.1.data,some 1,0,.no⟩),(1502,⟨List.map Core.ds r.1.kids,some 4,0,.no⟩),(1503,⟨List.map AB r.2.entered,some 1,0,.no⟩),(1504,⟨List.map AB r.2.origins,some 1,0,.no⟩),(1505,⟨List.map AT r.2.labels,some 1,0,.no⟩)] [(1,[.rop [.ro (r.2.n.agents.map Agent.ds)] 0,.int .i64 r.2.steps,.int .i64 r.2.nodes,.own 1503,.own 1504,.own 1505,.int .i64 r.2.code])] :=by
 unfold A1 at h
 refine agF Tryz.func73 mixed (h:=Z ?_)
 refine AS ?_
 refine AO h (fun h=>Z ?_) (fun h=>Z ?_)
 ·refine AS ?_
  cases h
  refine CK (.deep 0 2000000000 (some 1) .no [2] (by (first|rfl|(simp only [go_sem]; rfl))) (by simp only [go_sem]) (.deep 0 2000000001 (some 4) .no [3] (by (first|rfl|(simp only [go_sem]; rfl))) (by simp only [go_sem]) (.done _))) ((1501,2000000000)::(1502,2000000001)::r3 1503 1001 []) [(1,1)] ?_
  simp only [go_sem]
  all_goals try rfl
 ·refine AS ?_
  cases h
  refine CK (.deep 0 2000000000 (some 1) .no [2] (by (first|rfl|(simp only [go_sem]; rfl))) (by simp only [go_sem]) (.deep 0 2000000001 (some 4) .no [3] (by (first|rfl|(simp only [go_sem]; rfl))) (by simp only [go_sem]) (.done _))) ((1501,2000000000)::(1502,2000000001)::r3 1503 1001 []) [(1,1)] ?_
  simp only [go_sem]
  all_goals try rfl
theorem AL (a0 a1 a2 r) (h:G5 a0 a1 a2=some r):AG Tryz.prog 74 [.ro (List.map (slD AB) a0),.int .i64 a1,.ro (a2.map AB)] [] [] (.ro (List.map (slD AB) r)) [] [] :=by
 unfold G5 at h
 refine agF Tryz.func74 mixed (h:=Z ?_)
 replace h:=AJ h; obtain⟨u,w,h⟩:=h
 have hq_:=AH w
 obtain⟨hv2002a,hv2002b⟩:=hq_
 refine AP .yes (Z ?_)
 refine AK (OB (by intro x; exact⟨rfl,cR x⟩) _) (Z ?_)
 refine AN (List.map (szD AB) a0) (Qc cQ _) (Z ?_)
 refine AK (by (try refine⟨?_,?_⟩) <;> (try simp only [List.length_map,List.length_append,List.length_cons,List.length_nil] at*) <;> (try unfold maxLen) <;> omega) (Z ?_)
 refine AN (List.map (szD AB) u) (by rw [← hv2002b]; simp only [List.map_append,List.map_cons,List.map_nil,List.nil_append,List.append_nil,go_sem,slD,szD]) (Z ?_)
 refine AS ?_
 replace h:=AJ h; obtain⟨y,q,h⟩:=h
 refine Aq q rfl (Z ?_)
 replace h:=AJ h; obtain⟨g,j,h⟩:=h
 refine BN (A8 q) (Z ?_)
 refine AN (List.map (szD AB) g) (by rw [← BG j]; simp only [List.map_set,go_sem,slD,szD]) (Z ?_)
 cases h
 refine CK (.frzT 32032 [(0,[])] [] _ _ _ (by (first|rfl|(simp only [go_sem]; rfl))) (by decide) (by (first|rfl|(simp only [go_sem]; rfl))) (by (first|rfl|(simp only [go_sem]; rfl))) (.done _)) [] [] ?_
 simp only [go_sem]
 all_goals try rfl
theorem Ae (a0 r) (h:FA a0=some r):AC Tryz.prog 75 [.ro (a0.map AB)] (.ow (some 1) (r.map AB)):=by
 unfold FA at h
 refine acF Tryz.func75 mixed (h:=Z ?_)
 replace h:=AJ h; obtain⟨u,w,h⟩:=h
 have hq_:=AH w
 obtain⟨hv2002a,hv2002b⟩:=hq_
 refine AP .no (Z ?_)
 refine AK (Kx (by intro x; exact⟨rfl,by simp [go_sem,D.flat]⟩) _) (Z ?_)
 refine AK (by (try refine⟨?_,?_⟩) <;> (try simp only [List.length_map,List.length_append,List.length_cons,List.length_nil] at*) <;> (try unfold maxLen) <;> omega) (Z ?_)
 refine AN (u.map AB) (by rw [← hv2002b]; simp only [List.map_append,List.map_cons,List.map_nil,List.nil_append,List.append_nil,go_sem,slD]) (Z ?_)
 exact AI trivial h
theorem Lz (n:Nat):(∀a0 u w r,Br n a0 u w=some r→CF Tryz.prog Tryz.f76 [1,0,0,1,1,1,1,1,1,1,1,1,1,1,1,1,0,1,0,1,0] (.tup [.int .i64 r.1,.own 1501]) [(1501,⟨List.map AB r.2,some 1,0,.no⟩)] [] ⟨[(0,.rop (Agent.avs a0) 0),(6,.own 1000011000),(7,.int .i64 w)],[(1000011000,some ⟨List.map AB u,some 1,0,.no⟩)],[]⟩):=by
 induction n with
 |zero=>exact((fun _ _ _ _ h=>by rw [Br] at h; cases h))
 | succ n ih=>
  have ih0:=ih
  ·intro a0 u w r h
   rw [Br] at h
   refine Aj rfl rfl (Z ?_)
   refine Bw (Z ?_)
   refine AO h (fun h=>Z ?_) (fun h=>Z ?_)
   ·refine AS ?_
    replace h:=AJ h; obtain⟨y,q,h⟩:=h
    have hq_:=AH q
    obtain⟨hv19003a,hv19003b⟩:=hq_
    refine AP .no (Z ?_)
    refine AK (by (try refine⟨?_,?_⟩) <;> (try simp only [List.length_map,List.length_append,List.length_cons,List.length_nil] at*) <;> (try unfold maxLen) <;> omega) (Z ?_)
    refine AN (y.map AB) (by rw [← hv19003b]; simp only [List.map_append,List.map_cons,List.map_nil,List.nil_append,List.append_nil,go_sem,slD]) (Z ?_)
    exact AI (k1 ih0) h
   ·exact AI trivial h
theorem L0 (a0:Agent) (u:Bool) (r:Int × (List Int)) (h:EA a0 u=some r):CF Tryz.prog Tryz.f76 [1,0,0,1,1,1,1,1,1,1,1,1,1,1,1,1,1,1,1,1] (.tup [.int .i64 r.1,.own 1501]) [(1501,⟨List.map AB r.2,some 1,0,.no⟩)] [] ⟨[(0,.rop (Agent.avs a0) 0),(104,.bool u)],[],[]⟩:=by
 unfold EA at h
 refine Aj rfl rfl (Z ?_)
 refine AO h (fun h=>Z ?_) (fun h=>Z ?_)
 ·refine AS ?_
  cases h
  refine CK (.lit 0 2000000000 24000 1 1 .no [1] _ _ (by (first|rfl|(simp only [go_sem]; rfl))) (by simp only [go_sem]; rfl) (by (first|rfl|(simp only [go_sem]; rfl))) (by (first|rfl|(simp only [go_sem]; rfl))) (by decide) (by decide) (by simp only [go_sem]) (.done _)) [(1501,2000000000)] [] ?_
  simp only [go_sem]
  all_goals try rfl
 ·refine AO h (fun h=>Z ?_) (fun h=>Z ?_)
  ·cases h
   refine CK (.deep 0 2000000000 (some 1) .no [1] (by (first|rfl|(simp only [go_sem]; rfl))) (by simp only [go_sem]) (.done _)) [(1501,2000000000)] [] ?_
   simp only [go_sem]
   all_goals try rfl
  ·refine AS ?_
   cases h
   refine CK (.deep 0 2000000000 (some 1) .no [1] (by (first|rfl|(simp only [go_sem]; rfl))) (by simp only [go_sem]) (.done _)) [(1501,2000000000)] [] ?_
   simp only [go_sem]
   all_goals try rfl
theorem Ml (a0:Agent) (a1:Int) (u:Bool) (r:Int × (List Int)) (h:EZ a0 a1 u=some r):CF Tryz.prog Tryz.f76 [1,0,0,1,1,1,1,1,1,1,1,1,1,1,1,1,1,1] (.tup [.int .i64 r.1,.own 1501]) [(1501,⟨List.map AB r.2,some 1,0,.no⟩)] [] ⟨[(0,.rop (Agent.avs a0) 0),(1,.int .i64 a1),(93,.bool u)],[],[]⟩:=by
 unfold EZ at h
 refine Aj rfl rfl (Z ?_)
 refine AO h (fun h=>Z ?_) (fun h=>Z ?_)
 ·refine AS ?_
  cases h
  refine CK (.lit 0 2000000000 22000 1 1 .no [1] _ _ (by (first|rfl|(simp only [go_sem]; rfl))) (by simp only [go_sem]; rfl) (by (first|rfl|(simp only [go_sem]; rfl))) (by (first|rfl|(simp only [go_sem]; rfl))) (by decide) (by decide) (by simp only [go_sem]) (.done _)) [(1501,2000000000)] [] ?_
  simp only [go_sem]
  all_goals try rfl
 ·exact AI (k1 L0) h
theorem Mm (a0:Agent) (a1:Int) (u:Bool) (r:Int × (List Int)) (h:Ea a0 a1 u=some r):CF Tryz.prog Tryz.f76 [1,0,0,1,1,1,1,1,1,1,1,1,1,1,1,1] (.tup [.int .i64 r.1,.own 1501]) [(1501,⟨List.map AB r.2,some 1,0,.no⟩)] [] ⟨[(0,.rop (Agent.avs a0) 0),(1,.int .i64 a1),(68,.bool u)],[],[]⟩:=by
 unfold Ea at h
 refine Aj rfl rfl (Z ?_)
 refine AO h (fun h=>Z ?_) (fun h=>Z ?_)
 ·refine AS ?_
  refine EX (EE rfl rfl (Lz fuel a0 [] 1 _ h):) (.one ⟨_,.lit 6 2000000000 15000 0 1 .no [] _ _ (by (first|rfl|(simp only [go_sem]; rfl))) (by simp only [go_sem]; rfl) (by (first|rfl|(simp only [go_sem]; rfl))) (by (first|rfl|(simp only [go_sem]; rfl))) (by decide) (by decide) (by simp only [go_sem]) (.done _),[(1000011000,2000000000)],[],?_⟩)
  simp only [go_sem]
  all_goals try rfl
 ·exact AI (k1 Ml) h
theorem Mn (a0:Agent) (a1:Int) (u:Bool) (r:Int × (List Int)) (h:Eb a0 a1 u=some r):CF Tryz.prog Tryz.f76 [1,0,0,1,1,1,1,1,1,1,1,1,1,1] (.tup [.int .i64 r.1,.own 1501]) [(1501,⟨List.map AB r.2,some 1,0,.no⟩)] [] ⟨[(0,.rop (Agent.avs a0) 0),(1,.int .i64 a1),(57,.bool u)],[],[]⟩:=by
 unfold Eb at h
 refine Aj rfl rfl (Z ?_)
 refine AO h (fun h=>Z ?_) (fun h=>Z ?_)
 ·refine AS ?_
  cases h
  refine CK (.lit 0 2000000000 13000 1 1 .no [1] _ _ (by (first|rfl|(simp only [go_sem]; rfl))) (by simp only [go_sem]; rfl) (by (first|rfl|(simp only [go_sem]; rfl))) (by (first|rfl|(simp only [go_sem]; rfl))) (by decide) (by decide) (by simp only [go_sem]) (.done _)) [(1501,2000000000)] [] ?_
  simp only [go_sem]
  all_goals try rfl
 ·exact AI (k1 Mm) h
theorem Mo (a0:Agent) (a1:Int) (u:Bool) (r:Int × (List Int)) (h:Ec a0 a1 u=some r):CF Tryz.prog Tryz.f76 [1,0,0,1,1,1,1,1,1,1,1,1] (.tup [.int .i64 r.1,.own 1501]) [(1501,⟨List.map AB r.2,some 1,0,.no⟩)] [] ⟨[(0,.rop (Agent.avs a0) 0),(1,.int .i64 a1),(46,.bool u)],[],[]⟩:=by
 unfold Ec at h
 refine Aj rfl rfl (Z ?_)
 refine AO h (fun h=>Z ?_) (fun h=>Z ?_)
 ·refine AS ?_
  cases h
  refine CK (.lit 0 2000000000 11000 2 1 .no [1] _ _ (by (first|rfl|(simp only [go_sem]; rfl))) (by simp only [go_sem]; rfl) (by (first|rfl|(simp only [go_sem]; rfl))) (by (first|rfl|(simp only [go_sem]; rfl))) (by decide) (by decide) (by simp only [go_sem]) (.done _)) [(1501,2000000000)] [] ?_
  simp only [go_sem]
  all_goals try rfl
 ·exact AI (k1 Mn) h
theorem Mp (a0:Agent) (a1:Int) (u:Bool) (r:Int × (List Int)) (h:Ed a0 a1 u=some r):CF Tryz.prog Tryz.f76 [1,0,0,1,1,1,1,1] (.tup [.int .i64 r.1,.own 1501]) [(1501,⟨List.map AB r.2,some 1,0,.no⟩)] [] ⟨[(0,.rop (Agent.avs a0) 0),(1,.int .i64 a1),(29,.bool u)],[],[]⟩:=by
 unfold Ed at h
 refine Aj rfl rfl (Z ?_)
 refine AO h (fun h=>Z ?_) (fun h=>Z ?_)
 ·refine AS ?_
  cases h
  refine CK (.lit 0 2000000000 7000 2 1 .no [1] _ _ (by (first|rfl|(simp only [go_sem]; rfl))) (by simp only [go_sem]; rfl) (by (first|rfl|(simp only [go_sem]; rfl))) (by (first|rfl|(simp only [go_sem]; rfl))) (by decide) (by decide) (by simp only [go_sem]) (.done _)) [(1501,2000000000)] [] ?_
  simp only [go_sem]
  all_goals try rfl
 ·refine AO h (fun h=>Z ?_) (fun h=>Z ?_)
  ·cases h
   refine CK (.deep 0 2000000000 (some 1) .no [1] (by (first|rfl|(simp only [go_sem]; rfl))) (by simp only [go_sem]) (.done _)) [(1501,2000000000)] [] ?_
   simp only [go_sem]
   all_goals try rfl
  ·exact AI (k1 Mo) h
theorem Mq (a0:Agent) (a1:Int) (u:Bool) (r:Int × (List Int)) (h:Ee a0 a1 u=some r):CF Tryz.prog Tryz.f76 [1,0,0,1,1,1] (.tup [.int .i64 r.1,.own 1501]) [(1501,⟨List.map AB r.2,some 1,0,.no⟩)] [] ⟨[(0,.rop (Agent.avs a0) 0),(1,.int .i64 a1),(19,.bool u)],[],[]⟩:=by
 unfold Ee at h
 refine Aj rfl rfl (Z ?_)
 refine AO h (fun h=>Z ?_) (fun h=>Z ?_)
 ·cases h
  refine CK (.deep 0 2000000000 (some 1) .no [1] (by (first|rfl|(simp only [go_sem]; rfl))) (by simp only [go_sem]) (.done _)) [(1501,2000000000)] [] ?_
  simp only [go_sem]
  all_goals try rfl
 ·exact AI (k1 Mp) h
theorem Mr (a0:Agent) (a1:Int) (u:Bool) (r:Int × (List Int)) (h:Ef a0 a1 u=some r):CF Tryz.prog Tryz.f76 [1,0,0,1] (.tup [.int .i64 r.1,.own 1501]) [(1501,⟨List.map AB r.2,some 1,0,.no⟩)] [] ⟨[(0,.rop (Agent.avs a0) 0),(1,.int .i64 a1),(8,.bool u)],[],[]⟩:=by
 unfold Ef at h
 refine Aj rfl rfl (Z ?_)
 refine AO h (fun h=>Z ?_) (fun h=>Z ?_)
 ·refine AS ?_
  cases h
  refine CK (.lit 0 2000000000 3000 1 1 .no [1] _ _ (by (first|rfl|(simp only [go_sem]; rfl))) (by simp only [go_sem]; rfl) (by (first|rfl|(simp only [go_sem]; rfl))) (by (first|rfl|(simp only [go_sem]; rfl))) (by decide) (by decide) (by simp only [go_sem]) (.done _)) [(1501,2000000000)] [] ?_
  simp only [go_sem]
  all_goals try rfl
 ·exact AI (k1 Mq) h
theorem Qz (a0 a1 r) (h:G6 a0 a1=some r):AG Tryz.prog 76 [.rop (Agent.avs a0) 0,.int .i64 a1] [] [] (.tup [.int .i64 r.1,.own 1501]) [(1501,⟨List.map AB r.2,some 1,0,.no⟩)] [] :=by
 unfold G6 at h
 refine agF Tryz.func76 mixed (h:=Z ?_)
 exact AI (k1 Mr) h
theorem JZ (a0 a1 r) (h:Ez a0 a1=some r):AG Tryz.prog 78 [.ro (List.map (slD AB) a0),.int .i64 a1] [] [] (.ro (List.map (slD AB) r)) [] [] :=by
 unfold Ez at h
 refine agF Tryz.func78 mixed (h:=Z ?_)
 replace h:=AJ h; obtain⟨u,w,h⟩:=h
 refine AK (As (by intro x; exact rfl) _) (Z ?_)
 refine BN (Um w) (Z ?_)
 exact AI trivial h
theorem Ms (n:Nat):(∀a0 a1 u r,DK n a0 a1 u=some r→BE Tryz.prog Tryz.f105 [1,1,0,1,0] (.bool r) ⟨[(0,.ro (a0.map AB)),(1,.ro (a1.map AB)),(5,.int .i64 u)],[],[]⟩):=by
 induction n with
 |zero=>exact((fun _ _ _ _ h=>by rw [DK] at h; cases h))
 | succ n ih=>
  have ih0:=ih
  ·intro a0 a1 u r h
   rw [DK] at h
   exact AI (k1 ih0) h
theorem Q0 (a0 a1 r) (h:Fj a0 a1=some r):AC Tryz.prog 105 [.ro (a0.map AB),.ro (a1.map AB)] (.bool r):=by
 unfold Fj at h
 refine acF Tryz.func105 mixed (h:=Z ?_)
 exact AI (k1 Ms) h
theorem IC (n:Nat):(∀a0 a1 u r,BU n a0 a1 u=some r→BE Tryz.prog Tryz.f94 [1,1,0,1,0] (.bool r) ⟨[(0,.ro (List.map (slD AB) a0)),(1,.ro (List.map (slD AB) a1)),(5,.int .i64 u)],[],[]⟩):=by
 induction n with
 |zero=>exact((fun _ _ _ _ h=>by rw [BU] at h; cases h))
 | succ n ih=>
  have ih0:=ih
  ·intro a0 a1 u r h
   rw [BU] at h
   exact AI (k2 Q0 ih0) h
theorem KA (a0 a1 r) (h:DX a0 a1=some r):AC Tryz.prog 94 [.ro (List.map (slD AB) a0),.ro (List.map (slD AB) a1)] (.bool r):=by
 unfold DX at h
 refine acF Tryz.func94 mixed (h:=Z ?_)
 exact AI (k1 IC) h
theorem GS (n:Nat):(∀a1 a3 u w r,Ai n a1 a3 u w=some r→BE Tryz.prog Tryz.f77 [1,1,0,1,0] (.int .i64 r) ⟨[(1,.int .i64 a1),(3,.ro (a3.map L16Binder.ds)),(9,.ro (List.map (slD AB) u)),(10,.int .i64 w)],[],[]⟩)∧
    (∀a1 a3 w u y r,A5 n a1 a3 w u y=some r→BE Tryz.prog Tryz.f77 [1,1,0,1,0,0,1,0,0,1] (.int .i64 r) ⟨[(1,.int .i64 a1),(3,.ro (a3.map L16Binder.ds)),(9,.ro (List.map (slD AB) u)),(10,.int .i64 w),(46,.bool y)],[],[]⟩):=by
 induction n with
 |zero=>exact⟨(fun _ _ _ _ _ h=>by rw [Ai] at h; cases h),(fun _ _ _ _ _ _ h=>by rw [A5] at h; cases h)⟩
 | succ n ih=>
  obtain⟨ih0,ih1⟩:=ih
  refine⟨?_,?_⟩
  ·intro a1 a3 u w r h
   rw [Ai] at h
   exact AI (k2 KA ih1) h
  ·intro a1 a3 w u y r h
   rw [A5] at h
   exact AI (k1 ih0) h
def Gp (n:Nat):=(GS n).1
theorem ID (a0 a1 a2 a3 r) (h:Ca a0 a1 a2 a3=some r):AC Tryz.prog 77 [.rop (L16Walk.avs a0) 0,.int .i64 a1,.ro (List.map (slD AB) a2),.ro (a3.map L16Binder.ds)] (.int .i64 r):=by
 unfold Ca at h
 refine acF Tryz.func77 mixed (h:=Z ?_)
 replace h:=AJ h; obtain⟨u,w,h⟩:=h
 refine Aq w (Agent.ds_len _) (Z ?_)
 replace h:=AJ h; obtain⟨y,q,h⟩:=h
 refine AZ (JZ _ _ _ q) (by (first|rfl|(simp only [go_sem]; rfl))) (by first|rfl|(simp only [go_sem])) (Z ?_)
 exact AI (k1 Gp) h
theorem Gf (a0 a1 a2 a3 r) (h:C9 a0 a1 a2 a3=some r):AG Tryz.prog 79 [.box 1 0,.int .i64 a1,.int .i64 a2,.str a3] [(1001,⟨List.map AB a0.entered,some 1,0,.no⟩),(1002,⟨List.map AB a0.origins,some 1,0,.no⟩),(1003,⟨List.map AT a0.labels,some 1,0,.no⟩)] [(1,[.rop [.ro (a0.n.agents.map Agent.ds)] 0,.int .i64 a0.steps,.int .i64 a0.nodes,.own 1001,.own 1002,.own 1003,.int .i64 a0.code])] (.bool r.1) [(1501,⟨List.map AB r.2.entered,some 1,0,.no⟩),(1502,⟨List.map AB r.2.origins,some 1,0,.no⟩),(1503,⟨List.map AT r.2.labels,some 1,0,.no⟩)] [(1,[.rop [.ro (r.2.n.agents.map Agent.ds)] 0,.int .i64 r.2.steps,.int .i64 r.2.nodes,.own 1501,.own 1502,.own 1503,.int .i64 r.2.code])] :=by
 unfold C9 at h
 refine agF Tryz.func79 mixed (h:=Z ?_)
 replace h:=AJ h; obtain⟨u,w,h⟩:=h
 have hq_:=AH w
 obtain⟨hv3007a,hv3007b⟩:=hq_
 refine AP .no (Z ?_)
 refine AK (by (try refine⟨?_,?_⟩) <;> (try simp only [List.length_map,List.length_append,List.length_cons,List.length_nil] at*) <;> (try unfold maxLen) <;> omega) (Z ?_)
 refine AN (u.map AB) (by rw [← hv3007b]; simp only [List.map_append,List.map_cons,List.map_nil,List.nil_append,List.append_nil,go_sem,slD]) (Z ?_)
 refine AS ?_
 replace h:=AJ h; obtain⟨y,q,h⟩:=h
 have hq_:=AH q
 obtain⟨hv4007a,hv4007b⟩:=hq_
 refine AP .no (Z ?_)
 refine AK (by (try refine⟨?_,?_⟩) <;> (try simp only [List.length_map,List.length_append,List.length_cons,List.length_nil] at*) <;> (try unfold maxLen) <;> omega) (Z ?_)
 refine AN (y.map AT) (by rw [← hv4007b]; simp only [List.map_append,List.map_cons,List.map_nil,List.nil_append,List.append_nil,go_sem,slD]) (Z ?_)
 exact AI trivial h
theorem WP (a0 r) (h:Qe a0=some r):AG Tryz.prog 81 [.int .i64 a0] [] [] (.agg [.int .i64 r.kind,.int .i64 r.value,.nils,.nils]) [] [] :=by
 unfold Qe at h
 refine agF Tryz.func81 mixed (h:=Z ?_)
 exact AI trivial h
theorem KC (n:Nat):(∀a0 a1 a2 a3 a4 r,Ba n a0 a1 a2 a3 a4=some r→AG Tryz.prog 51 [.box 1 0,.agg [.int .i64 a1.agent,.int .i64 a1.slot],.ro (List.map (slD AB) a2),.ro (a3.map L16Binder.ds),.int .i64 a4] [(1001,⟨List.map AB a0.entered,some 1,0,.no⟩),(1002,⟨List.map AB a0.origins,some 1,0,.no⟩),(1003,⟨List.map AT a0.labels,some 1,0,.no⟩)] [(1,[.rop [.ro (a0.n.agents.map Agent.ds)] 0,.int .i64 a0.steps,.int .i64 a0.nodes,.own 1001,.own 1002,.own 1003,.int .i64 a0.code])] (.agg [.int .i64 r.1.kind,.int .i64 r.1.value,.own 1501,.own 1502]) [(1501,⟨List.map AB r.1.data,some 1,0,.no⟩),(1502,⟨List.map Core.ds r.1.kids,some 4,0,.no⟩),(1503,⟨List.map AB r.2.entered,some 1,0,.no⟩),(1504,⟨List.map AB r.2.origins,some 1,0,.no⟩),(1505,⟨List.map AT r.2.labels,some 1,0,.no⟩)] [(1,[.rop [.ro (r.2.n.agents.map Agent.ds)] 0,.int .i64 r.2.steps,.int .i64 r.2.nodes,.own 1503,.own 1504,.own 1505,.int .i64 r.2.code])])∧
    (∀a0 a3 a4 u w y q g j r,Ax n a0 a3 a4 u w y q g j=some r→CF Tryz.prog Tryz.f51 [1,1,0,0] (.agg [.int .i64 r.1.kind,.int .i64 r.1.value,.own 1501,.own 1502]) [(1501,⟨List.map AB r.1.data,some 1,0,.no⟩),(1502,⟨List.map Core.ds r.1.kids,some 4,0,.no⟩),(1503,⟨List.map AB r.2.entered,some 1,0,.no⟩),(1504,⟨List.map AB r.2.origins,some 1,0,.no⟩),(1505,⟨List.map AT r.2.labels,some 1,0,.no⟩)] [(1,[.rop [.ro (r.2.n.agents.map Agent.ds)] 0,.int .i64 r.2.steps,.int .i64 r.2.nodes,.own 1503,.own 1504,.own 1505,.int .i64 r.2.code])] ⟨[(0,.box 1 0),(2,.ro (List.map (slD AB) y)),(3,.ro (a3.map L16Binder.ds)),(4,.int .i64 a4),(6,.box 1000004500 0),(10,.box 1000004501 0),(11,.str j)],[(1000004000,some ⟨List.map AB w,some 1,0,.no⟩),(1000004001,some ⟨List.map AB a0.origins,some 1,0,.no⟩),(1000004002,some ⟨List.map AT a0.labels,some 1,0,.no⟩)],[(1,some [.rop [.ro (a0.n.agents.map Agent.ds)] 0,.int .i64 u,.int .i64 a0.nodes,.own 1000004000,.own 1000004001,.own 1000004002,.int .i64 a0.code]),(1000004500,some [.int .i64 q,.int .i64 g]),(1000004501,some [.int .i64 0,.int .i64 0,.nils,.nils])]⟩)∧
    (∀a0 a3 a4 u w y q g k b d r,Ay n a0 a3 a4 u w y q g k b d=some r→CF Tryz.prog Tryz.f51 [1,1,0,0,0,0,1,1,1,1,1,0,1] (.agg [.int .i64 r.1.kind,.int .i64 r.1.value,.own 1501,.own 1502]) [(1501,⟨List.map AB r.1.data,some 1,0,.no⟩),(1502,⟨List.map Core.ds r.1.kids,some 4,0,.no⟩),(1503,⟨List.map AB r.2.entered,some 1,0,.no⟩),(1504,⟨List.map AB r.2.origins,some 1,0,.no⟩),(1505,⟨List.map AT r.2.labels,some 1,0,.no⟩)] [(1,[.rop [.ro (r.2.n.agents.map Agent.ds)] 0,.int .i64 r.2.steps,.int .i64 r.2.nodes,.own 1503,.own 1504,.own 1505,.int .i64 r.2.code])] ⟨[(0,.box 1 0),(2,.ro (List.map (slD AB) y)),(3,.ro (a3.map L16Binder.ds)),(4,.int .i64 a4),(6,.box 1000005500 0),(10,.box 1000005501 0),(11,.str k),(12,.rop (Agent.avs b) 0),(63,.bool d)],[(1000005000,some ⟨List.map AB w,some 1,0,.no⟩),(1000005001,some ⟨List.map AB a0.origins,some 1,0,.no⟩),(1000005002,some ⟨List.map AT a0.labels,some 1,0,.no⟩)],[(1,some [.rop [.ro (a0.n.agents.map Agent.ds)] 0,.int .i64 (IntKind.i64.wrap (u+1)),.int .i64 a0.nodes,.own 1000005000,.own 1000005001,.own 1000005002,.int .i64 a0.code]),(1000005500,some [.int .i64 q,.int .i64 g]),(1000005501,some [.int .i64 0,.int .i64 0,.nils,.nils])]⟩)∧
    (∀a0 a3 a4 u y q g k b c r,Af n a0 a3 a4 u y q g k b c=some r→CF Tryz.prog Tryz.f51 [1,1,0,0,0,0,1,1,1,1,1,1] (.agg [.int .i64 r.1.kind,.int .i64 r.1.value,.own 1501,.own 1502]) [(1501,⟨List.map AB r.1.data,some 1,0,.no⟩),(1502,⟨List.map Core.ds r.1.kids,some 4,0,.no⟩),(1503,⟨List.map AB r.2.entered,some 1,0,.no⟩),(1504,⟨List.map AB r.2.origins,some 1,0,.no⟩),(1505,⟨List.map AT r.2.labels,some 1,0,.no⟩)] [(1,[.rop [.ro (r.2.n.agents.map Agent.ds)] 0,.int .i64 r.2.steps,.int .i64 r.2.nodes,.own 1503,.own 1504,.own 1505,.int .i64 r.2.code])] ⟨[(0,.box 1 0),(2,.ro (List.map (slD AB) y)),(3,.ro (a3.map L16Binder.ds)),(4,.int .i64 a4),(6,.box 1000006500 0),(10,.box 1000006501 0),(11,.str k),(12,.rop (Agent.avs b) 0)],[(1000006000,some ⟨List.map AB c,some 1,0,.no⟩),(1000006001,some ⟨List.map AB a0.origins,some 1,0,.no⟩),(1000006002,some ⟨List.map AT a0.labels,some 1,0,.no⟩)],[(1,some [.rop [.ro (a0.n.agents.map Agent.ds)] 0,.int .i64 (IntKind.i64.wrap (u+1)),.int .i64 a0.nodes,.own 1000006000,.own 1000006001,.own 1000006002,.int .i64 a0.code]),(1000006500,some [.int .i64 q,.int .i64 g]),(1000006501,some [.int .i64 0,.int .i64 0,.nils,.nils])]⟩)∧
    (∀a0 a4 u y q g c k e i l t s r,Aa n a0 a4 u y q g c k e i l t s=some r→CF Tryz.prog Tryz.f51 [1,1,1,1,1,1,1,1] (.agg [.int .i64 r.1.kind,.int .i64 r.1.value,.own 1501,.own 1502]) [(1501,⟨List.map AB r.1.data,some 1,0,.no⟩),(1502,⟨List.map Core.ds r.1.kids,some 4,0,.no⟩),(1503,⟨List.map AB r.2.entered,some 1,0,.no⟩),(1504,⟨List.map AB r.2.origins,some 1,0,.no⟩),(1505,⟨List.map AT r.2.labels,some 1,0,.no⟩)] [(1,[.rop [.ro (r.2.n.agents.map Agent.ds)] 0,.int .i64 r.2.steps,.int .i64 r.2.nodes,.own 1503,.own 1504,.own 1505,.int .i64 r.2.code])] ⟨[(0,.box 1 0),(2,.ro (List.map (slD AB) y)),(3,.ro (l.map L16Binder.ds)),(4,.int .i64 a4),(6,.box 1000009500 0),(10,.box 1000009501 0),(11,.str k),(15,.rop (Agent.avs e) 0),(17,.own 1000009003),(18,.box 1000009502 0)],[(1000009000,some ⟨List.map AB c,some 1,0,.no⟩),(1000009001,some ⟨List.map AB a0.origins,some 1,0,.no⟩),(1000009002,some ⟨List.map AT a0.labels,some 1,0,.no⟩),(1000009003,some ⟨List.map AB i.2,some 1,0,.no⟩),(1000009004,some ⟨List.map AB s,some 1,0,.no⟩)],[(1,some [.rop [.ro (a0.n.agents.map Agent.ds)] 0,.int .i64 (IntKind.i64.wrap (u+1)),.int .i64 a0.nodes,.own 1000009000,.own 1000009001,.own 1000009002,.int .i64 a0.code]),(1000009500,some [.int .i64 q,.int .i64 g]),(1000009501,some [.int .i64 0,.int .i64 0,.nils,.nils]),(1000009502,some [.int .i64 i.1,.int .i64 t,.own 1000009004,.nils])]⟩)∧
    (∀a4 y l t s e i o (z:Int) u1 u2 u3 u4 u5 u6 r,BV n a4 y l t s e i o z u1 u2 u3 u4 u5 u6=some r→CF Tryz.prog Tryz.f51 [1,1,1,1,1,1,1,1,1,1] (.agg [.int .i64 r.1.kind,.int .i64 r.1.value,.own 1501,.own 1502]) [(1501,⟨List.map AB r.1.data,some 1,0,.no⟩),(1502,⟨List.map Core.ds r.1.kids,some 4,0,.no⟩),(1503,⟨List.map AB r.2.entered,some 1,0,.no⟩),(1504,⟨List.map AB r.2.origins,some 1,0,.no⟩),(1505,⟨List.map AT r.2.labels,some 1,0,.no⟩)] [(1,[.rop [.ro (r.2.n.agents.map Agent.ds)] 0,.int .i64 r.2.steps,.int .i64 r.2.nodes,.own 1503,.own 1504,.own 1505,.int .i64 r.2.code])] ⟨[(0,.box 1 0),(2,.ro (List.map (slD AB) y)),(3,.ro (l.map L16Binder.ds)),(4,.int .i64 a4),(10,.box 1000011500 0),(15,.rop (Agent.avs e) 0),(17,.own 1000011003),(18,.box 1000011501 0)],[(1000011000,some ⟨List.map AB u2,some 1,0,.no⟩),(1000011001,some ⟨List.map AB u3,some 1,0,.no⟩),(1000011002,some ⟨List.map AT u4,some 1,0,.no⟩),(1000011003,some ⟨List.map AB i.2,some 1,0,.no⟩),(1000011004,some ⟨List.map AB s,some 1,0,.no⟩),(1000011005,some ⟨List.map Core.ds u6,some 4,0,.no⟩)],[(1,some [.rop [.ro (o.map Agent.ds)] 0,.int .i64 z,.int .i64 u1,.own 1000011000,.own 1000011001,.own 1000011002,.int .i64 u5]),(1000011500,some [.int .i64 0,.int .i64 0,.nils,.nils]),(1000011501,some [.int .i64 i.1,.int .i64 t,.own 1000011004,.own 1000011005])]⟩)∧
    (∀a4 y l t s e i u7 u8 u9 u10 u11 u12 u13 u14 u15 r,Ag n a4 y l t s e i u7 u8 u9 u10 u11 u12 u13 u14 u15=some r→CF Tryz.prog Tryz.f51 [1,1,1,1,1,1,1,1,1,1,0,1,0] (.agg [.int .i64 r.1.kind,.int .i64 r.1.value,.own 1501,.own 1502]) [(1501,⟨List.map AB r.1.data,some 1,0,.no⟩),(1502,⟨List.map Core.ds r.1.kids,some 4,0,.no⟩),(1503,⟨List.map AB r.2.entered,some 1,0,.no⟩),(1504,⟨List.map AB r.2.origins,some 1,0,.no⟩),(1505,⟨List.map AT r.2.labels,some 1,0,.no⟩)] [(1,[.rop [.ro (r.2.n.agents.map Agent.ds)] 0,.int .i64 r.2.steps,.int .i64 r.2.nodes,.own 1503,.own 1504,.own 1505,.int .i64 r.2.code])] ⟨[(0,.box 1 0),(2,.ro (List.map (slD AB) y)),(3,.ro (l.map L16Binder.ds)),(4,.int .i64 a4),(10,.box 1000013500 0),(15,.rop (Agent.avs e) 0),(17,.own 1000013003),(18,.box 1000013501 0),(19,.int .i64 u15)],[(1000013000,some ⟨List.map AB u10,some 1,0,.no⟩),(1000013001,some ⟨List.map AB u11,some 1,0,.no⟩),(1000013002,some ⟨List.map AT u12,some 1,0,.no⟩),(1000013003,some ⟨List.map AB i.2,some 1,0,.no⟩),(1000013004,some ⟨List.map AB s,some 1,0,.no⟩),(1000013005,some ⟨List.map Core.ds u14,some 4,0,.no⟩)],[(1,some [.rop [.ro (u7.map Agent.ds)] 0,.int .i64 u8,.int .i64 u9,.own 1000013000,.own 1000013001,.own 1000013002,.int .i64 u13]),(1000013500,some [.int .i64 0,.int .i64 0,.nils,.nils]),(1000013501,some [.int .i64 i.1,.int .i64 t,.own 1000013004,.own 1000013005])]⟩)∧
    (∀a0 a3 a4 u y q g c k e i u16 r,AR n a0 a3 a4 u y q g c k e i u16=some r→CF Tryz.prog Tryz.f51 [1,1,1,1,1,1,1,0,1,0,1,1,1] (.agg [.int .i64 r.1.kind,.int .i64 r.1.value,.own 1501,.own 1502]) [(1501,⟨List.map AB r.1.data,some 1,0,.no⟩),(1502,⟨List.map Core.ds r.1.kids,some 4,0,.no⟩),(1503,⟨List.map AB r.2.entered,some 1,0,.no⟩),(1504,⟨List.map AB r.2.origins,some 1,0,.no⟩),(1505,⟨List.map AT r.2.labels,some 1,0,.no⟩)] [(1,[.rop [.ro (r.2.n.agents.map Agent.ds)] 0,.int .i64 r.2.steps,.int .i64 r.2.nodes,.own 1503,.own 1504,.own 1505,.int .i64 r.2.code])] ⟨[(0,.box 1 0),(2,.ro (List.map (slD AB) y)),(3,.ro (a3.map L16Binder.ds)),(4,.int .i64 a4),(6,.box 1000007500 0),(10,.box 1000007501 0),(11,.str k),(15,.rop (Agent.avs e) 0),(17,.own 1000007003),(18,.box 1000007502 0),(161,.int .i64 i.1),(176,.bool u16)],[(1000007000,some ⟨List.map AB c,some 1,0,.no⟩),(1000007001,some ⟨List.map AB a0.origins,some 1,0,.no⟩),(1000007002,some ⟨List.map AT a0.labels,some 1,0,.no⟩),(1000007003,some ⟨List.map AB i.2,some 1,0,.no⟩)],[(1,some [.rop [.ro (a0.n.agents.map Agent.ds)] 0,.int .i64 (IntKind.i64.wrap (u+1)),.int .i64 a0.nodes,.own 1000007000,.own 1000007001,.own 1000007002,.int .i64 a0.code]),(1000007500,some [.int .i64 q,.int .i64 g]),(1000007501,some [.int .i64 0,.int .i64 0,.nils,.nils]),(1000007502,some [.int .i64 i.1,.int .i64 0,.nils,.nils])]⟩)∧
    (∀a0 a3 a4 u y q g c k e i u17 r,Az n a0 a3 a4 u y q g c k e i u17=some r→CF Tryz.prog Tryz.f51 [1,1,1,1,1,1,1,0,1,0,1,1,1,1,1] (.agg [.int .i64 r.1.kind,.int .i64 r.1.value,.own 1501,.own 1502]) [(1501,⟨List.map AB r.1.data,some 1,0,.no⟩),(1502,⟨List.map Core.ds r.1.kids,some 4,0,.no⟩),(1503,⟨List.map AB r.2.entered,some 1,0,.no⟩),(1504,⟨List.map AB r.2.origins,some 1,0,.no⟩),(1505,⟨List.map AT r.2.labels,some 1,0,.no⟩)] [(1,[.rop [.ro (r.2.n.agents.map Agent.ds)] 0,.int .i64 r.2.steps,.int .i64 r.2.nodes,.own 1503,.own 1504,.own 1505,.int .i64 r.2.code])] ⟨[(0,.box 1 0),(2,.ro (List.map (slD AB) y)),(3,.ro (a3.map L16Binder.ds)),(4,.int .i64 a4),(6,.box 1000008500 0),(10,.box 1000008501 0),(11,.str k),(15,.rop (Agent.avs e) 0),(17,.own 1000008003),(18,.box 1000008502 0),(161,.int .i64 i.1),(186,.bool u17)],[(1000008000,some ⟨List.map AB c,some 1,0,.no⟩),(1000008001,some ⟨List.map AB a0.origins,some 1,0,.no⟩),(1000008002,some ⟨List.map AT a0.labels,some 1,0,.no⟩),(1000008003,some ⟨List.map AB i.2,some 1,0,.no⟩)],[(1,some [.rop [.ro (a0.n.agents.map Agent.ds)] 0,.int .i64 (IntKind.i64.wrap (u+1)),.int .i64 a0.nodes,.own 1000008000,.own 1000008001,.own 1000008002,.int .i64 a0.code]),(1000008500,some [.int .i64 q,.int .i64 g]),(1000008501,some [.int .i64 0,.int .i64 0,.nils,.nils]),(1000008502,some [.int .i64 i.1,.int .i64 0,.nils,.nils])]⟩)∧
    (∀a0 a3 a4 u q g c k b u18 r,Cb n a0 a3 a4 u q g c k b u18=some r→CF Tryz.prog Tryz.f51 [1,1,0,0,0,0,1,1,1,1,1,1,1,1,0,1,0,1] (.agg [.int .i64 r.1.kind,.int .i64 r.1.value,.own 1501,.own 1502]) [(1501,⟨List.map AB r.1.data,some 1,0,.no⟩),(1502,⟨List.map Core.ds r.1.kids,some 4,0,.no⟩),(1503,⟨List.map AB r.2.entered,some 1,0,.no⟩),(1504,⟨List.map AB r.2.origins,some 1,0,.no⟩),(1505,⟨List.map AT r.2.labels,some 1,0,.no⟩)] [(1,[.rop [.ro (r.2.n.agents.map Agent.ds)] 0,.int .i64 r.2.steps,.int .i64 r.2.nodes,.own 1503,.own 1504,.own 1505,.int .i64 r.2.code])] ⟨[(0,.box 1 0),(2,.ro (List.map (slD AB) u18)),(3,.ro (a3.map L16Binder.ds)),(4,.int .i64 a4),(6,.box 1000010500 0),(10,.box 1000010501 0),(11,.str k),(12,.rop (Agent.avs b) 0)],[(1000010000,some ⟨List.map AB c,some 1,0,.no⟩),(1000010001,some ⟨List.map AB a0.origins,some 1,0,.no⟩),(1000010002,some ⟨List.map AT a0.labels,some 1,0,.no⟩)],[(1,some [.rop [.ro (a0.n.agents.map Agent.ds)] 0,.int .i64 (IntKind.i64.wrap (u+1)),.int .i64 a0.nodes,.own 1000010000,.own 1000010001,.own 1000010002,.int .i64 a0.code]),(1000010500,some [.int .i64 q,.int .i64 g]),(1000010501,some [.int .i64 0,.int .i64 0,.nils,.nils])]⟩):=by
 induction n with
 |zero=>exact⟨(fun _ _ _ _ _ _ h=>by rw [Ba] at h; cases h),(fun _ _ _ _ _ _ _ _ _ _ h=>by rw [Ax] at h; cases h),(fun _ _ _ _ _ _ _ _ _ _ _ _ h=>by rw [Ay] at h; cases h),(fun _ _ _ _ _ _ _ _ _ _ _ h=>by rw [Af] at h; cases h),(fun _ _ _ _ _ _ _ _ _ _ _ _ _ _ h=>by rw [Aa] at h; cases h),(fun _ _ _ _ _ _ _ _ _ _ _ _ _ _ _ _ h=>by rw [BV] at h; cases h),(fun _ _ _ _ _ _ _ _ _ _ _ _ _ _ _ _ _ h=>by rw [Ag] at h; cases h),(fun _ _ _ _ _ _ _ _ _ _ _ _ _ h=>by rw [AR] at h; cases h),(fun _ _ _ _ _ _ _ _ _ _ _ _ _ h=>by rw [Az] at h; cases h),(fun _ _ _ _ _ _ _ _ _ _ _ h=>by rw [Cb] at h; cases h)⟩
 | succ n ih=>
  obtain⟨ih0,ih1,ih2,ih3,ih4,ih5,ih6,ih7,ih8,ih9⟩:=ih
  refine⟨?_,?_,?_,?_,?_,?_,?_,?_,?_,?_⟩
  ·intro a0 a1 a2 a3 a4 r h
   rw [Ba] at h
   refine agF Tryz.func51 mixed (h:=Z ?_)
   refine AS ?_
   exact SI (ih1 a0 a3 a4 a0.steps a0.entered a2 a1.agent a1.slot (ByteArray.mk #[]) _ h)
  ·intro a0 a3 a4 u w y q g j r h
   rw [Ax] at h
   refine Aj rfl rfl (Z ?_)
   refine Bw (Z ?_)
   refine AO h (fun h=>Z ?_) (fun h=>Z ?_)
   ·cases h
    refine CK (.deep 0 2000000000 (some 1) .no [2] (by (first|rfl|(simp only [go_sem]; rfl))) (by simp only [go_sem]) (.deep 0 2000000001 (some 4) .no [3] (by (first|rfl|(simp only [go_sem]; rfl))) (by simp only [go_sem]) (.done _))) ((1501,2000000000)::(1502,2000000001)::r3 1503 1000004000 []) [(1,1)] ?_
    simp only [go_sem]
    all_goals try rfl
   ·refine AS ?_
    replace h:=AJ h; obtain⟨u19,u20,h⟩:=h
    refine AU (O0 _ _ u20) (Z ?_)
    replace h:=AJ h; obtain⟨k,u21,h⟩:=h
    have hq_:=Cj u21
    obtain⟨hv5003a,hv5003b⟩:=hq_
    refine AK hv5003a ?_
    rw [hv5003b]
    try simp only [go_sem]
    refine AS ?_
    refine AO h (fun h=>Z ?_) (fun h=>Z ?_)
    ·replace h:=AJ h; obtain⟨u22,u23,h⟩:=h
     refine caG ⟨[],(r3 1001 1000004000 []),[(1,1,0)],(r5 1501 128016 []),[],true⟩ (B8 _ _ _ u23) (Z ?_)
     exact AI trivial h
    ·exact AI (k1 ih2) h
  ·intro a0 a3 a4 u w y q g k b d r h
   rw [Ay] at h
   refine Aj rfl rfl (Z ?_)
   refine AO h (fun h=>Z ?_) (fun h=>Z ?_)
   ·refine BS [false,false,false,false,false,false,false,false,true,true,true,true] (Tr.sq [8,9,10,11] .fin) (by kernel_rfl) (Z ?_)
    replace h:=AJ h; obtain⟨u25,u26,h⟩:=h
    have hq_:=AH u26
    obtain⟨hv11008a,hv11008b⟩:=hq_
    refine AP .no (Z ?_)
    refine AK (by (try refine⟨?_,?_⟩) <;> (try simp only [List.length_map,List.length_append,List.length_cons,List.length_nil] at*) <;> (try unfold maxLen) <;> omega) (Z ?_)
    refine AN (u25.map AB) (by rw [← hv11008b]; simp only [List.map_append,List.map_cons,List.map_nil,List.nil_append,List.append_nil,go_sem,slD]) (Z ?_)
    exact AI (k1 ih3) h
   ·exact AI (k1 ih3) h
  ·intro a0 a3 a4 u y q g k b c r h
   rw [Af] at h
   refine Aj rfl rfl (Z ?_)
   refine AO h (fun h=>Z ?_) (fun h=>Z ?_)
   ·refine AS ?_
    refine BS [] .fin (by kernel_rfl) (Z ?_)
    replace h:=AJ h; obtain⟨e,u27,h⟩:=h
    refine Aq u27 (Agent.ds_len _) (Z ?_)
    refine AS ?_
    replace h:=AJ h; obtain⟨i,u28,h⟩:=h
    refine caG ⟨[],[],[],[(1501,368048)],[],true⟩ (Qz _ _ _ u28) (Z ?_)
    refine AS ?_
    refine AO h (fun h=>Z ?_) (fun h=>Z ?_)
    ·replace h:=AJ h; obtain⟨u29,u30,h⟩:=h
     refine caG ⟨[],(r3 1001 1000006000 []),[(1,1,0)],(r5 1501 400016 []),[],true⟩ (B8 _ _ _ u30) (Z ?_)
     exact AI trivial h
    ·refine AS ?_
     refine AS ?_
     refine AO h (fun h=>Z ?_) (fun h=>Z ?_)
     ·replace h:=AJ h; obtain⟨u31,u32,h⟩:=h
      refine AU (ID _ _ _ _ _ u32) (Z ?_)
      refine AS ?_
      refine AO h (fun h=>Z ?_) (fun h=>Z ?_)
      ·replace h:=AJ h; obtain⟨u33,u34,h⟩:=h
       refine caG ⟨[],(r3 1001 1000006000 []),[(1,1,0)],(r5 1501 496016 []),[],true⟩ (B8 _ _ _ u34) (Z ?_)
       exact AI trivial h
      ·refine Ie (EE rfl rfl (ih4 a0 a4 u y q g c k e i a3 u31 [] _ h):) (.one ⟨_,.cell 26002 2 2000000000 (some 1) .no _ (by simp only [go_sem]; rfl) (by rfl) (by simp only [go_sem]) (.done _),(r3 1000009000 1000006000 [(1000009003,368048),(1000009004,2000000000)]),[(1,1),(1000009500,1000006500),(1000009501,1000006501),(1000009502,26002)],?_⟩)
       simp only [go_sem]
       all_goals try rfl
     ·exact AI (k1 ih7) h
   ·refine AS ?_
    replace h:=AJ h; obtain⟨u35,u36,h⟩:=h
    refine Aq u36 rfl (Z ?_)
    refine AO h (fun h=>Z ?_) (fun h=>Z ?_)
    ·replace h:=AJ h; obtain⟨u37,u38,h⟩:=h
     replace h:=AJ h; obtain⟨u39,u40,h⟩:=h
     replace h:=AJ h; obtain⟨u18,u41,h⟩:=h
     refine BS [false,false,true,true,true,false,true,false,true,true,true,true,true] (.br 2 (Tr.sq [3] (.br 4 (.br 6 (Tr.sq [8,9,10] (.fz (Tr.sq [11,12] .fin))) (.br 8 (.br 6 (Tr.sq [9,10] (.fz (Tr.sq [11,12] .fin))) (.br 9 (Tr.sq [6,10] (.fz (Tr.sq [11,12] .fin))) .stop)) .stop)) (.br 6 (.br 4 (Tr.sq [8,9,10] (.fz (Tr.sq [11,12] .fin))) (.br 8 (.br 4 (Tr.sq [9,10] (.fz (Tr.sq [11,12] .fin))) (.br 9 (.br 4 (Tr.sq [10] (.fz (Tr.sq [11,12] .fin))) (.br 10 (Tr.sq [4] (.fz (Tr.sq [11,12] .fin))) .stop)) .stop)) .stop)) (.br 8 (.br 4 (.br 6 (Tr.sq [9,10] (.fz (Tr.sq [11,12] .fin))) (.br 9 (Tr.sq [6,10] (.fz (Tr.sq [11,12] .fin))) .stop)) (.br 6 (.br 4 (Tr.sq [9,10] (.fz (Tr.sq [11,12] .fin))) (.br 9 (.br 4 (Tr.sq [10] (.fz (Tr.sq [11,12] .fin))) (.br 10 (Tr.sq [4] (.fz (Tr.sq [11,12] .fin))) .stop)) .stop)) (.br 9 (.br 4 (Tr.sq [6,10] (.fz (Tr.sq [11,12] .fin))) (.br 6 (.br 4 (Tr.sq [10] (.fz (Tr.sq [11,12] .fin))) (.br 10 (Tr.sq [4] (.fz (Tr.sq [11,12] .fin))) .stop)) .stop)) .stop))) .stop)))) (.br 6 (.br 2 (Tr.sq [3] (.br 4 (Tr.sq [8,9,10] (.fz (Tr.sq [11,12] .fin))) (.br 8 (.br 4 (Tr.sq [9,10] (.fz (Tr.sq [11,12] .fin))) (.br 9 (.br 4 (Tr.sq [10] (.fz (Tr.sq [11,12] .fin))) (.br 10 (Tr.sq [4] (.fz (Tr.sq [11,12] .fin))) .stop)) .stop)) .stop))) (.br 8 (.br 2 (Tr.sq [3] (.br 4 (Tr.sq [9,10] (.fz (Tr.sq [11,12] .fin))) (.br 9 (.br 4 (Tr.sq [10] (.fz (Tr.sq [11,12] .fin))) (.br 10 (Tr.sq [4] (.fz (Tr.sq [11,12] .fin))) .stop)) .stop))) (.br 9 (.br 2 (Tr.sq [3] (.br 4 (Tr.sq [10] (.fz (Tr.sq [11,12] .fin))) (.br 10 (Tr.sq [4] (.fz (Tr.sq [11,12] .fin))) .stop))) (.br 10 (Tr.sq [2,3,4] (.fz (Tr.sq [11,12] .fin))) .stop)) .stop)) .stop)) (.br 8 (.br 2 (Tr.sq [3] (.br 4 (.br 6 (Tr.sq [9,10] (.fz (Tr.sq [11,12] .fin))) (.br 9 (Tr.sq [6,10] (.fz (Tr.sq [11,12] .fin))) .stop)) (.br 6 (.br 4 (Tr.sq [9,10] (.fz (Tr.sq [11,12] .fin))) (.br 9 (.br 4 (Tr.sq [10] (.fz (Tr.sq [11,12] .fin))) (.br 10 (Tr.sq [4] (.fz (Tr.sq [11,12] .fin))) .stop)) .stop)) (.br 9 (.br 4 (Tr.sq [6,10] (.fz (Tr.sq [11,12] .fin))) (.br 6 (.br 4 (Tr.sq [10] (.fz (Tr.sq [11,12] .fin))) (.br 10 (Tr.sq [4] (.fz (Tr.sq [11,12] .fin))) .stop)) .stop)) .stop)))) (.br 6 (.br 2 (Tr.sq [3] (.br 4 (Tr.sq [9,10] (.fz (Tr.sq [11,12] .fin))) (.br 9 (.br 4 (Tr.sq [10] (.fz (Tr.sq [11,12] .fin))) (.br 10 (Tr.sq [4] (.fz (Tr.sq [11,12] .fin))) .stop)) .stop))) (.br 9 (.br 2 (Tr.sq [3] (.br 4 (Tr.sq [10] (.fz (Tr.sq [11,12] .fin))) (.br 10 (Tr.sq [4] (.fz (Tr.sq [11,12] .fin))) .stop))) (.br 10 (Tr.sq [2,3,4] (.fz (Tr.sq [11,12] .fin))) .stop)) .stop)) (.br 9 (.br 2 (Tr.sq [3] (.br 4 (Tr.sq [6,10] (.fz (Tr.sq [11,12] .fin))) (.br 6 (.br 4 (Tr.sq [10] (.fz (Tr.sq [11,12] .fin))) (.br 10 (Tr.sq [4] (.fz (Tr.sq [11,12] .fin))) .stop)) .stop))) (.br 6 (.br 2 (Tr.sq [3] (.br 4 (Tr.sq [10] (.fz (Tr.sq [11,12] .fin))) (.br 10 (Tr.sq [4] (.fz (Tr.sq [11,12] .fin))) .stop))) (.br 10 (Tr.sq [2,3,4] (.fz (Tr.sq [11,12] .fin))) .stop)) .stop)) .stop))) .stop))) (by kernel_rfl) ?_
     try simp only [go_sem]
     refine AW ?_ ?_
     ·try simp only [go_sem]
      refine AW ?_ ?_
      ·try simp only [go_sem]
       refine AW ?_ ?_
       ·try simp only [go_sem]
        refine AU (Ae _ _ u38) (Z ?_)
        have hq_:=AH u40
        obtain⟨hv15010a,hv15010b⟩:=hq_
        refine AP .no (Z ?_)
        refine AK (by (try refine⟨?_,?_⟩) <;> (try simp only [List.length_map,List.length_append,List.length_cons,List.length_nil] at*) <;> (try unfold maxLen) <;> omega) (Z ?_)
        refine AN (u39.map AB) (by rw [← hv15010b]; simp only [List.map_append,List.map_cons,List.map_nil,List.nil_append,List.append_nil,go_sem,slD]) (Z ?_)
        refine BB (.frzT 240160 [(100,[])] [] _ _ _ (by (first|rfl|(simp only [go_sem]; rfl))) (by decide) (by (first|rfl|(simp only [go_sem]; rfl))) (by (first|rfl|(simp only [go_sem]; rfl))) (.done _)) (Z ?_)
        all_goals try rfl
        refine AZ (AL _ _ _ _ u41) (by (first|rfl|(simp only [go_sem]; rfl))) (by first|rfl|(simp only [go_sem])) (Z ?_)
        exact AI (k1 ih9) h
       ·try simp only [go_sem]
        refine AW (Z ?_) (Z ?_)
        ·refine AU (Ae _ _ u38) (Z ?_)
         have hq_:=AH u40
         obtain⟨hv15010a,hv15010b⟩:=hq_
         refine AP .no (Z ?_)
         refine AK (by (try refine⟨?_,?_⟩) <;> (try simp only [List.length_map,List.length_append,List.length_cons,List.length_nil] at*) <;> (try unfold maxLen) <;> omega) (Z ?_)
         refine AN (u39.map AB) (by rw [← hv15010b]; simp only [List.map_append,List.map_cons,List.map_nil,List.nil_append,List.append_nil,go_sem,slD]) (Z ?_)
         refine BB (.frzT 240160 [(100,[])] [] _ _ _ (by (first|rfl|(simp only [go_sem]; rfl))) (by decide) (by (first|rfl|(simp only [go_sem]; rfl))) (by (first|rfl|(simp only [go_sem]; rfl))) (.done _)) (Z ?_)
         all_goals try rfl
         refine AZ (AL _ _ _ _ u41) (by (first|rfl|(simp only [go_sem]; rfl))) (by first|rfl|(simp only [go_sem])) (Z ?_)
         exact AI (k1 ih9) h
        ·refine AU (Ae _ _ u38) (Z ?_)
         have hq_:=AH u40
         obtain⟨hv15010a,hv15010b⟩:=hq_
         refine AP .no (Z ?_)
         refine AK (by (try refine⟨?_,?_⟩) <;> (try simp only [List.length_map,List.length_append,List.length_cons,List.length_nil] at*) <;> (try unfold maxLen) <;> omega) (Z ?_)
         refine AN (u39.map AB) (by rw [← hv15010b]; simp only [List.map_append,List.map_cons,List.map_nil,List.nil_append,List.append_nil,go_sem,slD]) (Z ?_)
         refine BB (.frzT 240160 [(100,[])] [] _ _ _ (by (first|rfl|(simp only [go_sem]; rfl))) (by decide) (by (first|rfl|(simp only [go_sem]; rfl))) (by (first|rfl|(simp only [go_sem]; rfl))) (.done _)) (Z ?_)
         all_goals try rfl
         refine AZ (AL _ _ _ _ u41) (by (first|rfl|(simp only [go_sem]; rfl))) (by first|rfl|(simp only [go_sem])) (Z ?_)
         exact AI (k1 ih9) h
      ·try simp only [go_sem]
       refine AW ?_ ?_
       ·try simp only [go_sem]
        refine AU (Ae _ _ u38) ?_
        try simp only [go_sem]
        refine AW ?_ ?_
        ·try simp only [go_sem]
         have hq_:=AH u40
         obtain⟨hv15010a,hv15010b⟩:=hq_
         refine AP .no (Z ?_)
         refine AK (by (try refine⟨?_,?_⟩) <;> (try simp only [List.length_map,List.length_append,List.length_cons,List.length_nil] at*) <;> (try unfold maxLen) <;> omega) (Z ?_)
         refine AN (u39.map AB) (by rw [← hv15010b]; simp only [List.map_append,List.map_cons,List.map_nil,List.nil_append,List.append_nil,go_sem,slD]) (Z ?_)
         refine BB (.frzT 240160 [(100,[])] [] _ _ _ (by (first|rfl|(simp only [go_sem]; rfl))) (by decide) (by (first|rfl|(simp only [go_sem]; rfl))) (by (first|rfl|(simp only [go_sem]; rfl))) (.done _)) (Z ?_)
         all_goals try rfl
         refine AZ (AL _ _ _ _ u41) (by (first|rfl|(simp only [go_sem]; rfl))) (by first|rfl|(simp only [go_sem])) (Z ?_)
         exact AI (k1 ih9) h
        ·try simp only [go_sem]
         refine AW ?_ ?_
         ·try simp only [go_sem]
          have hq_:=AH u40
          obtain⟨hv15010a,hv15010b⟩:=hq_
          refine AP .no (Z ?_)
          refine AK (by (try refine⟨?_,?_⟩) <;> (try simp only [List.length_map,List.length_append,List.length_cons,List.length_nil] at*) <;> (try unfold maxLen) <;> omega) (Z ?_)
          refine AN (u39.map AB) (by rw [← hv15010b]; simp only [List.map_append,List.map_cons,List.map_nil,List.nil_append,List.append_nil,go_sem,slD]) (Z ?_)
          refine BB (.frzT 240160 [(100,[])] [] _ _ _ (by (first|rfl|(simp only [go_sem]; rfl))) (by decide) (by (first|rfl|(simp only [go_sem]; rfl))) (by (first|rfl|(simp only [go_sem]; rfl))) (.done _)) (Z ?_)
          all_goals try rfl
          refine AZ (AL _ _ _ _ u41) (by (first|rfl|(simp only [go_sem]; rfl))) (by first|rfl|(simp only [go_sem])) (Z ?_)
          exact AI (k1 ih9) h
         ·try simp only [go_sem]
          refine AW (Z ?_) (Z ?_)
          ·have hq_:=AH u40
           obtain⟨hv15010a,hv15010b⟩:=hq_
           refine AP .no (Z ?_)
           refine AK (by (try refine⟨?_,?_⟩) <;> (try simp only [List.length_map,List.length_append,List.length_cons,List.length_nil] at*) <;> (try unfold maxLen) <;> omega) (Z ?_)
           refine AN (u39.map AB) (by rw [← hv15010b]; simp only [List.map_append,List.map_cons,List.map_nil,List.nil_append,List.append_nil,go_sem,slD]) (Z ?_)
           refine BB (.frzT 240160 [(100,[])] [] _ _ _ (by (first|rfl|(simp only [go_sem]; rfl))) (by decide) (by (first|rfl|(simp only [go_sem]; rfl))) (by (first|rfl|(simp only [go_sem]; rfl))) (.done _)) (Z ?_)
           all_goals try rfl
           refine AZ (AL _ _ _ _ u41) (by (first|rfl|(simp only [go_sem]; rfl))) (by first|rfl|(simp only [go_sem])) (Z ?_)
           exact AI (k1 ih9) h
          ·have hq_:=AH u40
           obtain⟨hv15010a,hv15010b⟩:=hq_
           refine AP .no (Z ?_)
           refine AK (by (try refine⟨?_,?_⟩) <;> (try simp only [List.length_map,List.length_append,List.length_cons,List.length_nil] at*) <;> (try unfold maxLen) <;> omega) (Z ?_)
           refine AN (u39.map AB) (by rw [← hv15010b]; simp only [List.map_append,List.map_cons,List.map_nil,List.nil_append,List.append_nil,go_sem,slD]) (Z ?_)
           refine BB (.frzT 240160 [(100,[])] [] _ _ _ (by (first|rfl|(simp only [go_sem]; rfl))) (by decide) (by (first|rfl|(simp only [go_sem]; rfl))) (by (first|rfl|(simp only [go_sem]; rfl))) (.done _)) (Z ?_)
           all_goals try rfl
           refine AZ (AL _ _ _ _ u41) (by (first|rfl|(simp only [go_sem]; rfl))) (by first|rfl|(simp only [go_sem])) (Z ?_)
           exact AI (k1 ih9) h
       ·try simp only [go_sem]
        refine AW ?_ ?_
        ·try simp only [go_sem]
         refine AW (Z ?_) (Z ?_)
         ·refine AU (Ae _ _ u38) (Z ?_)
          have hq_:=AH u40
          obtain⟨hv15010a,hv15010b⟩:=hq_
          refine AP .no (Z ?_)
          refine AK (by (try refine⟨?_,?_⟩) <;> (try simp only [List.length_map,List.length_append,List.length_cons,List.length_nil] at*) <;> (try unfold maxLen) <;> omega) (Z ?_)
          refine AN (u39.map AB) (by rw [← hv15010b]; simp only [List.map_append,List.map_cons,List.map_nil,List.nil_append,List.append_nil,go_sem,slD]) (Z ?_)
          refine BB (.frzT 240160 [(100,[])] [] _ _ _ (by (first|rfl|(simp only [go_sem]; rfl))) (by decide) (by (first|rfl|(simp only [go_sem]; rfl))) (by (first|rfl|(simp only [go_sem]; rfl))) (.done _)) (Z ?_)
          all_goals try rfl
          refine AZ (AL _ _ _ _ u41) (by (first|rfl|(simp only [go_sem]; rfl))) (by first|rfl|(simp only [go_sem])) (Z ?_)
          exact AI (k1 ih9) h
         ·refine AU (Ae _ _ u38) (Z ?_)
          have hq_:=AH u40
          obtain⟨hv15010a,hv15010b⟩:=hq_
          refine AP .no (Z ?_)
          refine AK (by (try refine⟨?_,?_⟩) <;> (try simp only [List.length_map,List.length_append,List.length_cons,List.length_nil] at*) <;> (try unfold maxLen) <;> omega) (Z ?_)
          refine AN (u39.map AB) (by rw [← hv15010b]; simp only [List.map_append,List.map_cons,List.map_nil,List.nil_append,List.append_nil,go_sem,slD]) (Z ?_)
          refine BB (.frzT 240160 [(100,[])] [] _ _ _ (by (first|rfl|(simp only [go_sem]; rfl))) (by decide) (by (first|rfl|(simp only [go_sem]; rfl))) (by (first|rfl|(simp only [go_sem]; rfl))) (.done _)) (Z ?_)
          all_goals try rfl
          refine AZ (AL _ _ _ _ u41) (by (first|rfl|(simp only [go_sem]; rfl))) (by first|rfl|(simp only [go_sem])) (Z ?_)
          exact AI (k1 ih9) h
        ·try simp only [go_sem]
         refine AW ?_ ?_
         ·try simp only [go_sem]
          refine AU (Ae _ _ u38) ?_
          try simp only [go_sem]
          refine AW ?_ ?_
          ·try simp only [go_sem]
           have hq_:=AH u40
           obtain⟨hv15010a,hv15010b⟩:=hq_
           refine AP .no (Z ?_)
           refine AK (by (try refine⟨?_,?_⟩) <;> (try simp only [List.length_map,List.length_append,List.length_cons,List.length_nil] at*) <;> (try unfold maxLen) <;> omega) (Z ?_)
           refine AN (u39.map AB) (by rw [← hv15010b]; simp only [List.map_append,List.map_cons,List.map_nil,List.nil_append,List.append_nil,go_sem,slD]) (Z ?_)
           refine BB (.frzT 240160 [(100,[])] [] _ _ _ (by (first|rfl|(simp only [go_sem]; rfl))) (by decide) (by (first|rfl|(simp only [go_sem]; rfl))) (by (first|rfl|(simp only [go_sem]; rfl))) (.done _)) (Z ?_)
           all_goals try rfl
           refine AZ (AL _ _ _ _ u41) (by (first|rfl|(simp only [go_sem]; rfl))) (by first|rfl|(simp only [go_sem])) (Z ?_)
           exact AI (k1 ih9) h
          ·try simp only [go_sem]
           refine AW (Z ?_) (Z ?_)
           ·have hq_:=AH u40
            obtain⟨hv15010a,hv15010b⟩:=hq_
            refine AP .no (Z ?_)
            refine AK (by (try refine⟨?_,?_⟩) <;> (try simp only [List.length_map,List.length_append,List.length_cons,List.length_nil] at*) <;> (try unfold maxLen) <;> omega) (Z ?_)
            refine AN (u39.map AB) (by rw [← hv15010b]; simp only [List.map_append,List.map_cons,List.map_nil,List.nil_append,List.append_nil,go_sem,slD]) (Z ?_)
            refine BB (.frzT 240160 [(100,[])] [] _ _ _ (by (first|rfl|(simp only [go_sem]; rfl))) (by decide) (by (first|rfl|(simp only [go_sem]; rfl))) (by (first|rfl|(simp only [go_sem]; rfl))) (.done _)) (Z ?_)
            all_goals try rfl
            refine AZ (AL _ _ _ _ u41) (by (first|rfl|(simp only [go_sem]; rfl))) (by first|rfl|(simp only [go_sem])) (Z ?_)
            exact AI (k1 ih9) h
           ·have hq_:=AH u40
            obtain⟨hv15010a,hv15010b⟩:=hq_
            refine AP .no (Z ?_)
            refine AK (by (try refine⟨?_,?_⟩) <;> (try simp only [List.length_map,List.length_append,List.length_cons,List.length_nil] at*) <;> (try unfold maxLen) <;> omega) (Z ?_)
            refine AN (u39.map AB) (by rw [← hv15010b]; simp only [List.map_append,List.map_cons,List.map_nil,List.nil_append,List.append_nil,go_sem,slD]) (Z ?_)
            refine BB (.frzT 240160 [(100,[])] [] _ _ _ (by (first|rfl|(simp only [go_sem]; rfl))) (by decide) (by (first|rfl|(simp only [go_sem]; rfl))) (by (first|rfl|(simp only [go_sem]; rfl))) (.done _)) (Z ?_)
            all_goals try rfl
            refine AZ (AL _ _ _ _ u41) (by (first|rfl|(simp only [go_sem]; rfl))) (by first|rfl|(simp only [go_sem])) (Z ?_)
            exact AI (k1 ih9) h
         ·try simp only [go_sem]
          refine AW (Z ?_) (Z ?_)
          ·refine AU (Ae _ _ u38) (Z ?_)
           have hq_:=AH u40
           obtain⟨hv15010a,hv15010b⟩:=hq_
           refine AP .no (Z ?_)
           refine AK (by (try refine⟨?_,?_⟩) <;> (try simp only [List.length_map,List.length_append,List.length_cons,List.length_nil] at*) <;> (try unfold maxLen) <;> omega) (Z ?_)
           refine AN (u39.map AB) (by rw [← hv15010b]; simp only [List.map_append,List.map_cons,List.map_nil,List.nil_append,List.append_nil,go_sem,slD]) (Z ?_)
           refine BB (.frzT 240160 [(100,[])] [] _ _ _ (by (first|rfl|(simp only [go_sem]; rfl))) (by decide) (by (first|rfl|(simp only [go_sem]; rfl))) (by (first|rfl|(simp only [go_sem]; rfl))) (.done _)) (Z ?_)
           all_goals try rfl
           refine AZ (AL _ _ _ _ u41) (by (first|rfl|(simp only [go_sem]; rfl))) (by first|rfl|(simp only [go_sem])) (Z ?_)
           exact AI (k1 ih9) h
          ·refine AU (Ae _ _ u38) ?_
           try simp only [go_sem]
           refine AW (Z ?_) (Z ?_)
           ·have hq_:=AH u40
            obtain⟨hv15010a,hv15010b⟩:=hq_
            refine AP .no (Z ?_)
            refine AK (by (try refine⟨?_,?_⟩) <;> (try simp only [List.length_map,List.length_append,List.length_cons,List.length_nil] at*) <;> (try unfold maxLen) <;> omega) (Z ?_)
            refine AN (u39.map AB) (by rw [← hv15010b]; simp only [List.map_append,List.map_cons,List.map_nil,List.nil_append,List.append_nil,go_sem,slD]) (Z ?_)
            refine BB (.frzT 240160 [(100,[])] [] _ _ _ (by (first|rfl|(simp only [go_sem]; rfl))) (by decide) (by (first|rfl|(simp only [go_sem]; rfl))) (by (first|rfl|(simp only [go_sem]; rfl))) (.done _)) (Z ?_)
            all_goals try rfl
            refine AZ (AL _ _ _ _ u41) (by (first|rfl|(simp only [go_sem]; rfl))) (by first|rfl|(simp only [go_sem])) (Z ?_)
            exact AI (k1 ih9) h
           ·have hq_:=AH u40
            obtain⟨hv15010a,hv15010b⟩:=hq_
            refine AP .no (Z ?_)
            refine AK (by (try refine⟨?_,?_⟩) <;> (try simp only [List.length_map,List.length_append,List.length_cons,List.length_nil] at*) <;> (try unfold maxLen) <;> omega) (Z ?_)
            refine AN (u39.map AB) (by rw [← hv15010b]; simp only [List.map_append,List.map_cons,List.map_nil,List.nil_append,List.append_nil,go_sem,slD]) (Z ?_)
            refine BB (.frzT 240160 [(100,[])] [] _ _ _ (by (first|rfl|(simp only [go_sem]; rfl))) (by decide) (by (first|rfl|(simp only [go_sem]; rfl))) (by (first|rfl|(simp only [go_sem]; rfl))) (.done _)) (Z ?_)
            all_goals try rfl
            refine AZ (AL _ _ _ _ u41) (by (first|rfl|(simp only [go_sem]; rfl))) (by first|rfl|(simp only [go_sem])) (Z ?_)
            exact AI (k1 ih9) h
     ·try simp only [go_sem]
      refine AW ?_ ?_
      ·try simp only [go_sem]
       refine AU (Ae _ _ u38) ?_
       try simp only [go_sem]
       refine AW ?_ ?_
       ·try simp only [go_sem]
        refine AW ?_ ?_
        ·try simp only [go_sem]
         have hq_:=AH u40
         obtain⟨hv15010a,hv15010b⟩:=hq_
         refine AP .no (Z ?_)
         refine AK (by (try refine⟨?_,?_⟩) <;> (try simp only [List.length_map,List.length_append,List.length_cons,List.length_nil] at*) <;> (try unfold maxLen) <;> omega) (Z ?_)
         refine AN (u39.map AB) (by rw [← hv15010b]; simp only [List.map_append,List.map_cons,List.map_nil,List.nil_append,List.append_nil,go_sem,slD]) (Z ?_)
         refine BB (.frzT 240160 [(100,[])] [] _ _ _ (by (first|rfl|(simp only [go_sem]; rfl))) (by decide) (by (first|rfl|(simp only [go_sem]; rfl))) (by (first|rfl|(simp only [go_sem]; rfl))) (.done _)) (Z ?_)
         all_goals try rfl
         refine AZ (AL _ _ _ _ u41) (by (first|rfl|(simp only [go_sem]; rfl))) (by first|rfl|(simp only [go_sem])) (Z ?_)
         exact AI (k1 ih9) h
        ·try simp only [go_sem]
         refine AW ?_ ?_
         ·try simp only [go_sem]
          have hq_:=AH u40
          obtain⟨hv15010a,hv15010b⟩:=hq_
          refine AP .no (Z ?_)
          refine AK (by (try refine⟨?_,?_⟩) <;> (try simp only [List.length_map,List.length_append,List.length_cons,List.length_nil] at*) <;> (try unfold maxLen) <;> omega) (Z ?_)
          refine AN (u39.map AB) (by rw [← hv15010b]; simp only [List.map_append,List.map_cons,List.map_nil,List.nil_append,List.append_nil,go_sem,slD]) (Z ?_)
          refine BB (.frzT 240160 [(100,[])] [] _ _ _ (by (first|rfl|(simp only [go_sem]; rfl))) (by decide) (by (first|rfl|(simp only [go_sem]; rfl))) (by (first|rfl|(simp only [go_sem]; rfl))) (.done _)) (Z ?_)
          all_goals try rfl
          refine AZ (AL _ _ _ _ u41) (by (first|rfl|(simp only [go_sem]; rfl))) (by first|rfl|(simp only [go_sem])) (Z ?_)
          exact AI (k1 ih9) h
         ·try simp only [go_sem]
          refine AW (Z ?_) (Z ?_)
          ·have hq_:=AH u40
           obtain⟨hv15010a,hv15010b⟩:=hq_
           refine AP .no (Z ?_)
           refine AK (by (try refine⟨?_,?_⟩) <;> (try simp only [List.length_map,List.length_append,List.length_cons,List.length_nil] at*) <;> (try unfold maxLen) <;> omega) (Z ?_)
           refine AN (u39.map AB) (by rw [← hv15010b]; simp only [List.map_append,List.map_cons,List.map_nil,List.nil_append,List.append_nil,go_sem,slD]) (Z ?_)
           refine BB (.frzT 240160 [(100,[])] [] _ _ _ (by (first|rfl|(simp only [go_sem]; rfl))) (by decide) (by (first|rfl|(simp only [go_sem]; rfl))) (by (first|rfl|(simp only [go_sem]; rfl))) (.done _)) (Z ?_)
           all_goals try rfl
           refine AZ (AL _ _ _ _ u41) (by (first|rfl|(simp only [go_sem]; rfl))) (by first|rfl|(simp only [go_sem])) (Z ?_)
           exact AI (k1 ih9) h
          ·have hq_:=AH u40
           obtain⟨hv15010a,hv15010b⟩:=hq_
           refine AP .no (Z ?_)
           refine AK (by (try refine⟨?_,?_⟩) <;> (try simp only [List.length_map,List.length_append,List.length_cons,List.length_nil] at*) <;> (try unfold maxLen) <;> omega) (Z ?_)
           refine AN (u39.map AB) (by rw [← hv15010b]; simp only [List.map_append,List.map_cons,List.map_nil,List.nil_append,List.append_nil,go_sem,slD]) (Z ?_)
           refine BB (.frzT 240160 [(100,[])] [] _ _ _ (by (first|rfl|(simp only [go_sem]; rfl))) (by decide) (by (first|rfl|(simp only [go_sem]; rfl))) (by (first|rfl|(simp only [go_sem]; rfl))) (.done _)) (Z ?_)
           all_goals try rfl
           refine AZ (AL _ _ _ _ u41) (by (first|rfl|(simp only [go_sem]; rfl))) (by first|rfl|(simp only [go_sem])) (Z ?_)
           exact AI (k1 ih9) h
       ·try simp only [go_sem]
        refine AW ?_ ?_
        ·try simp only [go_sem]
         refine AW ?_ ?_
         ·try simp only [go_sem]
          have hq_:=AH u40
          obtain⟨hv15010a,hv15010b⟩:=hq_
          refine AP .no (Z ?_)
          refine AK (by (try refine⟨?_,?_⟩) <;> (try simp only [List.length_map,List.length_append,List.length_cons,List.length_nil] at*) <;> (try unfold maxLen) <;> omega) (Z ?_)
          refine AN (u39.map AB) (by rw [← hv15010b]; simp only [List.map_append,List.map_cons,List.map_nil,List.nil_append,List.append_nil,go_sem,slD]) (Z ?_)
          refine BB (.frzT 240160 [(100,[])] [] _ _ _ (by (first|rfl|(simp only [go_sem]; rfl))) (by decide) (by (first|rfl|(simp only [go_sem]; rfl))) (by (first|rfl|(simp only [go_sem]; rfl))) (.done _)) (Z ?_)
          all_goals try rfl
          refine AZ (AL _ _ _ _ u41) (by (first|rfl|(simp only [go_sem]; rfl))) (by first|rfl|(simp only [go_sem])) (Z ?_)
          exact AI (k1 ih9) h
         ·try simp only [go_sem]
          refine AW (Z ?_) (Z ?_)
          ·have hq_:=AH u40
           obtain⟨hv15010a,hv15010b⟩:=hq_
           refine AP .no (Z ?_)
           refine AK (by (try refine⟨?_,?_⟩) <;> (try simp only [List.length_map,List.length_append,List.length_cons,List.length_nil] at*) <;> (try unfold maxLen) <;> omega) (Z ?_)
           refine AN (u39.map AB) (by rw [← hv15010b]; simp only [List.map_append,List.map_cons,List.map_nil,List.nil_append,List.append_nil,go_sem,slD]) (Z ?_)
           refine BB (.frzT 240160 [(100,[])] [] _ _ _ (by (first|rfl|(simp only [go_sem]; rfl))) (by decide) (by (first|rfl|(simp only [go_sem]; rfl))) (by (first|rfl|(simp only [go_sem]; rfl))) (.done _)) (Z ?_)
           all_goals try rfl
           refine AZ (AL _ _ _ _ u41) (by (first|rfl|(simp only [go_sem]; rfl))) (by first|rfl|(simp only [go_sem])) (Z ?_)
           exact AI (k1 ih9) h
          ·have hq_:=AH u40
           obtain⟨hv15010a,hv15010b⟩:=hq_
           refine AP .no (Z ?_)
           refine AK (by (try refine⟨?_,?_⟩) <;> (try simp only [List.length_map,List.length_append,List.length_cons,List.length_nil] at*) <;> (try unfold maxLen) <;> omega) (Z ?_)
           refine AN (u39.map AB) (by rw [← hv15010b]; simp only [List.map_append,List.map_cons,List.map_nil,List.nil_append,List.append_nil,go_sem,slD]) (Z ?_)
           refine BB (.frzT 240160 [(100,[])] [] _ _ _ (by (first|rfl|(simp only [go_sem]; rfl))) (by decide) (by (first|rfl|(simp only [go_sem]; rfl))) (by (first|rfl|(simp only [go_sem]; rfl))) (.done _)) (Z ?_)
           all_goals try rfl
           refine AZ (AL _ _ _ _ u41) (by (first|rfl|(simp only [go_sem]; rfl))) (by first|rfl|(simp only [go_sem])) (Z ?_)
           exact AI (k1 ih9) h
        ·try simp only [go_sem]
         refine AW ?_ ?_
         ·try simp only [go_sem]
          refine AW (Z ?_) (Z ?_)
          ·have hq_:=AH u40
           obtain⟨hv15010a,hv15010b⟩:=hq_
           refine AP .no (Z ?_)
           refine AK (by (try refine⟨?_,?_⟩) <;> (try simp only [List.length_map,List.length_append,List.length_cons,List.length_nil] at*) <;> (try unfold maxLen) <;> omega) (Z ?_)
           refine AN (u39.map AB) (by rw [← hv15010b]; simp only [List.map_append,List.map_cons,List.map_nil,List.nil_append,List.append_nil,go_sem,slD]) (Z ?_)
           refine BB (.frzT 240160 [(100,[])] [] _ _ _ (by (first|rfl|(simp only [go_sem]; rfl))) (by decide) (by (first|rfl|(simp only [go_sem]; rfl))) (by (first|rfl|(simp only [go_sem]; rfl))) (.done _)) (Z ?_)
           all_goals try rfl
           refine AZ (AL _ _ _ _ u41) (by (first|rfl|(simp only [go_sem]; rfl))) (by first|rfl|(simp only [go_sem])) (Z ?_)
           exact AI (k1 ih9) h
          ·have hq_:=AH u40
           obtain⟨hv15010a,hv15010b⟩:=hq_
           refine AP .no (Z ?_)
           refine AK (by (try refine⟨?_,?_⟩) <;> (try simp only [List.length_map,List.length_append,List.length_cons,List.length_nil] at*) <;> (try unfold maxLen) <;> omega) (Z ?_)
           refine AN (u39.map AB) (by rw [← hv15010b]; simp only [List.map_append,List.map_cons,List.map_nil,List.nil_append,List.append_nil,go_sem,slD]) (Z ?_)
           refine BB (.frzT 240160 [(100,[])] [] _ _ _ (by (first|rfl|(simp only [go_sem]; rfl))) (by decide) (by (first|rfl|(simp only [go_sem]; rfl))) (by (first|rfl|(simp only [go_sem]; rfl))) (.done _)) (Z ?_)
           all_goals try rfl
           refine AZ (AL _ _ _ _ u41) (by (first|rfl|(simp only [go_sem]; rfl))) (by first|rfl|(simp only [go_sem])) (Z ?_)
           exact AI (k1 ih9) h
         ·try simp only [go_sem]
          have hq_:=AH u40
          obtain⟨hv15010a,hv15010b⟩:=hq_
          refine AP .no (Z ?_)
          refine AK (by (try refine⟨?_,?_⟩) <;> (try simp only [List.length_map,List.length_append,List.length_cons,List.length_nil] at*) <;> (try unfold maxLen) <;> omega) (Z ?_)
          refine AN (u39.map AB) (by rw [← hv15010b]; simp only [List.map_append,List.map_cons,List.map_nil,List.nil_append,List.append_nil,go_sem,slD]) (Z ?_)
          refine BB (.frzT 240160 [(100,[])] [] _ _ _ (by (first|rfl|(simp only [go_sem]; rfl))) (by decide) (by (first|rfl|(simp only [go_sem]; rfl))) (by (first|rfl|(simp only [go_sem]; rfl))) (.done _)) (Z ?_)
          all_goals try rfl
          refine AZ (AL _ _ _ _ u41) (by (first|rfl|(simp only [go_sem]; rfl))) (by first|rfl|(simp only [go_sem])) (Z ?_)
          exact AI (k1 ih9) h
      ·try simp only [go_sem]
       refine AW ?_ ?_
       ·try simp only [go_sem]
        refine AW ?_ ?_
        ·try simp only [go_sem]
         refine AW (Z ?_) (Z ?_)
         ·refine AU (Ae _ _ u38) (Z ?_)
          have hq_:=AH u40
          obtain⟨hv15010a,hv15010b⟩:=hq_
          refine AP .no (Z ?_)
          refine AK (by (try refine⟨?_,?_⟩) <;> (try simp only [List.length_map,List.length_append,List.length_cons,List.length_nil] at*) <;> (try unfold maxLen) <;> omega) (Z ?_)
          refine AN (u39.map AB) (by rw [← hv15010b]; simp only [List.map_append,List.map_cons,List.map_nil,List.nil_append,List.append_nil,go_sem,slD]) (Z ?_)
          refine BB (.frzT 240160 [(100,[])] [] _ _ _ (by (first|rfl|(simp only [go_sem]; rfl))) (by decide) (by (first|rfl|(simp only [go_sem]; rfl))) (by (first|rfl|(simp only [go_sem]; rfl))) (.done _)) (Z ?_)
          all_goals try rfl
          refine AZ (AL _ _ _ _ u41) (by (first|rfl|(simp only [go_sem]; rfl))) (by first|rfl|(simp only [go_sem])) (Z ?_)
          exact AI (k1 ih9) h
         ·refine AU (Ae _ _ u38) (Z ?_)
          have hq_:=AH u40
          obtain⟨hv15010a,hv15010b⟩:=hq_
          refine AP .no (Z ?_)
          refine AK (by (try refine⟨?_,?_⟩) <;> (try simp only [List.length_map,List.length_append,List.length_cons,List.length_nil] at*) <;> (try unfold maxLen) <;> omega) (Z ?_)
          refine AN (u39.map AB) (by rw [← hv15010b]; simp only [List.map_append,List.map_cons,List.map_nil,List.nil_append,List.append_nil,go_sem,slD]) (Z ?_)
          refine BB (.frzT 240160 [(100,[])] [] _ _ _ (by (first|rfl|(simp only [go_sem]; rfl))) (by decide) (by (first|rfl|(simp only [go_sem]; rfl))) (by (first|rfl|(simp only [go_sem]; rfl))) (.done _)) (Z ?_)
          all_goals try rfl
          refine AZ (AL _ _ _ _ u41) (by (first|rfl|(simp only [go_sem]; rfl))) (by first|rfl|(simp only [go_sem])) (Z ?_)
          exact AI (k1 ih9) h
        ·try simp only [go_sem]
         refine AW ?_ ?_
         ·try simp only [go_sem]
          refine AU (Ae _ _ u38) ?_
          try simp only [go_sem]
          refine AW ?_ ?_
          ·try simp only [go_sem]
           have hq_:=AH u40
           obtain⟨hv15010a,hv15010b⟩:=hq_
           refine AP .no (Z ?_)
           refine AK (by (try refine⟨?_,?_⟩) <;> (try simp only [List.length_map,List.length_append,List.length_cons,List.length_nil] at*) <;> (try unfold maxLen) <;> omega) (Z ?_)
           refine AN (u39.map AB) (by rw [← hv15010b]; simp only [List.map_append,List.map_cons,List.map_nil,List.nil_append,List.append_nil,go_sem,slD]) (Z ?_)
           refine BB (.frzT 240160 [(100,[])] [] _ _ _ (by (first|rfl|(simp only [go_sem]; rfl))) (by decide) (by (first|rfl|(simp only [go_sem]; rfl))) (by (first|rfl|(simp only [go_sem]; rfl))) (.done _)) (Z ?_)
           all_goals try rfl
           refine AZ (AL _ _ _ _ u41) (by (first|rfl|(simp only [go_sem]; rfl))) (by first|rfl|(simp only [go_sem])) (Z ?_)
           exact AI (k1 ih9) h
          ·try simp only [go_sem]
           refine AW (Z ?_) (Z ?_)
           ·have hq_:=AH u40
            obtain⟨hv15010a,hv15010b⟩:=hq_
            refine AP .no (Z ?_)
            refine AK (by (try refine⟨?_,?_⟩) <;> (try simp only [List.length_map,List.length_append,List.length_cons,List.length_nil] at*) <;> (try unfold maxLen) <;> omega) (Z ?_)
            refine AN (u39.map AB) (by rw [← hv15010b]; simp only [List.map_append,List.map_cons,List.map_nil,List.nil_append,List.append_nil,go_sem,slD]) (Z ?_)
            refine BB (.frzT 240160 [(100,[])] [] _ _ _ (by (first|rfl|(simp only [go_sem]; rfl))) (by decide) (by (first|rfl|(simp only [go_sem]; rfl))) (by (first|rfl|(simp only [go_sem]; rfl))) (.done _)) (Z ?_)
            all_goals try rfl
            refine AZ (AL _ _ _ _ u41) (by (first|rfl|(simp only [go_sem]; rfl))) (by first|rfl|(simp only [go_sem])) (Z ?_)
            exact AI (k1 ih9) h
           ·have hq_:=AH u40
            obtain⟨hv15010a,hv15010b⟩:=hq_
            refine AP .no (Z ?_)
            refine AK (by (try refine⟨?_,?_⟩) <;> (try simp only [List.length_map,List.length_append,List.length_cons,List.length_nil] at*) <;> (try unfold maxLen) <;> omega) (Z ?_)
            refine AN (u39.map AB) (by rw [← hv15010b]; simp only [List.map_append,List.map_cons,List.map_nil,List.nil_append,List.append_nil,go_sem,slD]) (Z ?_)
            refine BB (.frzT 240160 [(100,[])] [] _ _ _ (by (first|rfl|(simp only [go_sem]; rfl))) (by decide) (by (first|rfl|(simp only [go_sem]; rfl))) (by (first|rfl|(simp only [go_sem]; rfl))) (.done _)) (Z ?_)
            all_goals try rfl
            refine AZ (AL _ _ _ _ u41) (by (first|rfl|(simp only [go_sem]; rfl))) (by first|rfl|(simp only [go_sem])) (Z ?_)
            exact AI (k1 ih9) h
         ·try simp only [go_sem]
          refine AW (Z ?_) (Z ?_)
          ·refine AU (Ae _ _ u38) (Z ?_)
           have hq_:=AH u40
           obtain⟨hv15010a,hv15010b⟩:=hq_
           refine AP .no (Z ?_)
           refine AK (by (try refine⟨?_,?_⟩) <;> (try simp only [List.length_map,List.length_append,List.length_cons,List.length_nil] at*) <;> (try unfold maxLen) <;> omega) (Z ?_)
           refine AN (u39.map AB) (by rw [← hv15010b]; simp only [List.map_append,List.map_cons,List.map_nil,List.nil_append,List.append_nil,go_sem,slD]) (Z ?_)
           refine BB (.frzT 240160 [(100,[])] [] _ _ _ (by (first|rfl|(simp only [go_sem]; rfl))) (by decide) (by (first|rfl|(simp only [go_sem]; rfl))) (by (first|rfl|(simp only [go_sem]; rfl))) (.done _)) (Z ?_)
           all_goals try rfl
           refine AZ (AL _ _ _ _ u41) (by (first|rfl|(simp only [go_sem]; rfl))) (by first|rfl|(simp only [go_sem])) (Z ?_)
           exact AI (k1 ih9) h
          ·refine AU (Ae _ _ u38) ?_
           try simp only [go_sem]
           refine AW (Z ?_) (Z ?_)
           ·have hq_:=AH u40
            obtain⟨hv15010a,hv15010b⟩:=hq_
            refine AP .no (Z ?_)
            refine AK (by (try refine⟨?_,?_⟩) <;> (try simp only [List.length_map,List.length_append,List.length_cons,List.length_nil] at*) <;> (try unfold maxLen) <;> omega) (Z ?_)
            refine AN (u39.map AB) (by rw [← hv15010b]; simp only [List.map_append,List.map_cons,List.map_nil,List.nil_append,List.append_nil,go_sem,slD]) (Z ?_)
            refine BB (.frzT 240160 [(100,[])] [] _ _ _ (by (first|rfl|(simp only [go_sem]; rfl))) (by decide) (by (first|rfl|(simp only [go_sem]; rfl))) (by (first|rfl|(simp only [go_sem]; rfl))) (.done _)) (Z ?_)
            all_goals try rfl
            refine AZ (AL _ _ _ _ u41) (by (first|rfl|(simp only [go_sem]; rfl))) (by first|rfl|(simp only [go_sem])) (Z ?_)
            exact AI (k1 ih9) h
           ·have hq_:=AH u40
            obtain⟨hv15010a,hv15010b⟩:=hq_
            refine AP .no (Z ?_)
            refine AK (by (try refine⟨?_,?_⟩) <;> (try simp only [List.length_map,List.length_append,List.length_cons,List.length_nil] at*) <;> (try unfold maxLen) <;> omega) (Z ?_)
            refine AN (u39.map AB) (by rw [← hv15010b]; simp only [List.map_append,List.map_cons,List.map_nil,List.nil_append,List.append_nil,go_sem,slD]) (Z ?_)
            refine BB (.frzT 240160 [(100,[])] [] _ _ _ (by (first|rfl|(simp only [go_sem]; rfl))) (by decide) (by (first|rfl|(simp only [go_sem]; rfl))) (by (first|rfl|(simp only [go_sem]; rfl))) (.done _)) (Z ?_)
            all_goals try rfl
            refine AZ (AL _ _ _ _ u41) (by (first|rfl|(simp only [go_sem]; rfl))) (by first|rfl|(simp only [go_sem])) (Z ?_)
            exact AI (k1 ih9) h
       ·try simp only [go_sem]
        refine AW ?_ ?_
        ·try simp only [go_sem]
         refine AU (Ae _ _ u38) ?_
         try simp only [go_sem]
         refine AW ?_ ?_
         ·try simp only [go_sem]
          refine AW ?_ ?_
          ·try simp only [go_sem]
           have hq_:=AH u40
           obtain⟨hv15010a,hv15010b⟩:=hq_
           refine AP .no (Z ?_)
           refine AK (by (try refine⟨?_,?_⟩) <;> (try simp only [List.length_map,List.length_append,List.length_cons,List.length_nil] at*) <;> (try unfold maxLen) <;> omega) (Z ?_)
           refine AN (u39.map AB) (by rw [← hv15010b]; simp only [List.map_append,List.map_cons,List.map_nil,List.nil_append,List.append_nil,go_sem,slD]) (Z ?_)
           refine BB (.frzT 240160 [(100,[])] [] _ _ _ (by (first|rfl|(simp only [go_sem]; rfl))) (by decide) (by (first|rfl|(simp only [go_sem]; rfl))) (by (first|rfl|(simp only [go_sem]; rfl))) (.done _)) (Z ?_)
           all_goals try rfl
           refine AZ (AL _ _ _ _ u41) (by (first|rfl|(simp only [go_sem]; rfl))) (by first|rfl|(simp only [go_sem])) (Z ?_)
           exact AI (k1 ih9) h
          ·try simp only [go_sem]
           refine AW (Z ?_) (Z ?_)
           ·have hq_:=AH u40
            obtain⟨hv15010a,hv15010b⟩:=hq_
            refine AP .no (Z ?_)
            refine AK (by (try refine⟨?_,?_⟩) <;> (try simp only [List.length_map,List.length_append,List.length_cons,List.length_nil] at*) <;> (try unfold maxLen) <;> omega) (Z ?_)
            refine AN (u39.map AB) (by rw [← hv15010b]; simp only [List.map_append,List.map_cons,List.map_nil,List.nil_append,List.append_nil,go_sem,slD]) (Z ?_)
            refine BB (.frzT 240160 [(100,[])] [] _ _ _ (by (first|rfl|(simp only [go_sem]; rfl))) (by decide) (by (first|rfl|(simp only [go_sem]; rfl))) (by (first|rfl|(simp only [go_sem]; rfl))) (.done _)) (Z ?_)
            all_goals try rfl
            refine AZ (AL _ _ _ _ u41) (by (first|rfl|(simp only [go_sem]; rfl))) (by first|rfl|(simp only [go_sem])) (Z ?_)
            exact AI (k1 ih9) h
           ·have hq_:=AH u40
            obtain⟨hv15010a,hv15010b⟩:=hq_
            refine AP .no (Z ?_)
            refine AK (by (try refine⟨?_,?_⟩) <;> (try simp only [List.length_map,List.length_append,List.length_cons,List.length_nil] at*) <;> (try unfold maxLen) <;> omega) (Z ?_)
            refine AN (u39.map AB) (by rw [← hv15010b]; simp only [List.map_append,List.map_cons,List.map_nil,List.nil_append,List.append_nil,go_sem,slD]) (Z ?_)
            refine BB (.frzT 240160 [(100,[])] [] _ _ _ (by (first|rfl|(simp only [go_sem]; rfl))) (by decide) (by (first|rfl|(simp only [go_sem]; rfl))) (by (first|rfl|(simp only [go_sem]; rfl))) (.done _)) (Z ?_)
            all_goals try rfl
            refine AZ (AL _ _ _ _ u41) (by (first|rfl|(simp only [go_sem]; rfl))) (by first|rfl|(simp only [go_sem])) (Z ?_)
            exact AI (k1 ih9) h
         ·try simp only [go_sem]
          refine AW ?_ ?_
          ·try simp only [go_sem]
           refine AW (Z ?_) (Z ?_)
           ·have hq_:=AH u40
            obtain⟨hv15010a,hv15010b⟩:=hq_
            refine AP .no (Z ?_)
            refine AK (by (try refine⟨?_,?_⟩) <;> (try simp only [List.length_map,List.length_append,List.length_cons,List.length_nil] at*) <;> (try unfold maxLen) <;> omega) (Z ?_)
            refine AN (u39.map AB) (by rw [← hv15010b]; simp only [List.map_append,List.map_cons,List.map_nil,List.nil_append,List.append_nil,go_sem,slD]) (Z ?_)
            refine BB (.frzT 240160 [(100,[])] [] _ _ _ (by (first|rfl|(simp only [go_sem]; rfl))) (by decide) (by (first|rfl|(simp only [go_sem]; rfl))) (by (first|rfl|(simp only [go_sem]; rfl))) (.done _)) (Z ?_)
            all_goals try rfl
            refine AZ (AL _ _ _ _ u41) (by (first|rfl|(simp only [go_sem]; rfl))) (by first|rfl|(simp only [go_sem])) (Z ?_)
            exact AI (k1 ih9) h
           ·have hq_:=AH u40
            obtain⟨hv15010a,hv15010b⟩:=hq_
            refine AP .no (Z ?_)
            refine AK (by (try refine⟨?_,?_⟩) <;> (try simp only [List.length_map,List.length_append,List.length_cons,List.length_nil] at*) <;> (try unfold maxLen) <;> omega) (Z ?_)
            refine AN (u39.map AB) (by rw [← hv15010b]; simp only [List.map_append,List.map_cons,List.map_nil,List.nil_append,List.append_nil,go_sem,slD]) (Z ?_)
            refine BB (.frzT 240160 [(100,[])] [] _ _ _ (by (first|rfl|(simp only [go_sem]; rfl))) (by decide) (by (first|rfl|(simp only [go_sem]; rfl))) (by (first|rfl|(simp only [go_sem]; rfl))) (.done _)) (Z ?_)
            all_goals try rfl
            refine AZ (AL _ _ _ _ u41) (by (first|rfl|(simp only [go_sem]; rfl))) (by first|rfl|(simp only [go_sem])) (Z ?_)
            exact AI (k1 ih9) h
          ·try simp only [go_sem]
           have hq_:=AH u40
           obtain⟨hv15010a,hv15010b⟩:=hq_
           refine AP .no (Z ?_)
           refine AK (by (try refine⟨?_,?_⟩) <;> (try simp only [List.length_map,List.length_append,List.length_cons,List.length_nil] at*) <;> (try unfold maxLen) <;> omega) (Z ?_)
           refine AN (u39.map AB) (by rw [← hv15010b]; simp only [List.map_append,List.map_cons,List.map_nil,List.nil_append,List.append_nil,go_sem,slD]) (Z ?_)
           refine BB (.frzT 240160 [(100,[])] [] _ _ _ (by (first|rfl|(simp only [go_sem]; rfl))) (by decide) (by (first|rfl|(simp only [go_sem]; rfl))) (by (first|rfl|(simp only [go_sem]; rfl))) (.done _)) (Z ?_)
           all_goals try rfl
           refine AZ (AL _ _ _ _ u41) (by (first|rfl|(simp only [go_sem]; rfl))) (by first|rfl|(simp only [go_sem])) (Z ?_)
           exact AI (k1 ih9) h
        ·try simp only [go_sem]
         refine AW ?_ ?_
         ·try simp only [go_sem]
          refine AW (Z ?_) (Z ?_)
          ·refine AU (Ae _ _ u38) (Z ?_)
           have hq_:=AH u40
           obtain⟨hv15010a,hv15010b⟩:=hq_
           refine AP .no (Z ?_)
           refine AK (by (try refine⟨?_,?_⟩) <;> (try simp only [List.length_map,List.length_append,List.length_cons,List.length_nil] at*) <;> (try unfold maxLen) <;> omega) (Z ?_)
           refine AN (u39.map AB) (by rw [← hv15010b]; simp only [List.map_append,List.map_cons,List.map_nil,List.nil_append,List.append_nil,go_sem,slD]) (Z ?_)
           refine BB (.frzT 240160 [(100,[])] [] _ _ _ (by (first|rfl|(simp only [go_sem]; rfl))) (by decide) (by (first|rfl|(simp only [go_sem]; rfl))) (by (first|rfl|(simp only [go_sem]; rfl))) (.done _)) (Z ?_)
           all_goals try rfl
           refine AZ (AL _ _ _ _ u41) (by (first|rfl|(simp only [go_sem]; rfl))) (by first|rfl|(simp only [go_sem])) (Z ?_)
           exact AI (k1 ih9) h
          ·refine AU (Ae _ _ u38) ?_
           try simp only [go_sem]
           refine AW (Z ?_) (Z ?_)
           ·have hq_:=AH u40
            obtain⟨hv15010a,hv15010b⟩:=hq_
            refine AP .no (Z ?_)
            refine AK (by (try refine⟨?_,?_⟩) <;> (try simp only [List.length_map,List.length_append,List.length_cons,List.length_nil] at*) <;> (try unfold maxLen) <;> omega) (Z ?_)
            refine AN (u39.map AB) (by rw [← hv15010b]; simp only [List.map_append,List.map_cons,List.map_nil,List.nil_append,List.append_nil,go_sem,slD]) (Z ?_)
            refine BB (.frzT 240160 [(100,[])] [] _ _ _ (by (first|rfl|(simp only [go_sem]; rfl))) (by decide) (by (first|rfl|(simp only [go_sem]; rfl))) (by (first|rfl|(simp only [go_sem]; rfl))) (.done _)) (Z ?_)
            all_goals try rfl
            refine AZ (AL _ _ _ _ u41) (by (first|rfl|(simp only [go_sem]; rfl))) (by first|rfl|(simp only [go_sem])) (Z ?_)
            exact AI (k1 ih9) h
           ·have hq_:=AH u40
            obtain⟨hv15010a,hv15010b⟩:=hq_
            refine AP .no (Z ?_)
            refine AK (by (try refine⟨?_,?_⟩) <;> (try simp only [List.length_map,List.length_append,List.length_cons,List.length_nil] at*) <;> (try unfold maxLen) <;> omega) (Z ?_)
            refine AN (u39.map AB) (by rw [← hv15010b]; simp only [List.map_append,List.map_cons,List.map_nil,List.nil_append,List.append_nil,go_sem,slD]) (Z ?_)
            refine BB (.frzT 240160 [(100,[])] [] _ _ _ (by (first|rfl|(simp only [go_sem]; rfl))) (by decide) (by (first|rfl|(simp only [go_sem]; rfl))) (by (first|rfl|(simp only [go_sem]; rfl))) (.done _)) (Z ?_)
            all_goals try rfl
            refine AZ (AL _ _ _ _ u41) (by (first|rfl|(simp only [go_sem]; rfl))) (by first|rfl|(simp only [go_sem])) (Z ?_)
            exact AI (k1 ih9) h
         ·try simp only [go_sem]
          refine AU (Ae _ _ u38) ?_
          try simp only [go_sem]
          refine AW ?_ ?_
          ·try simp only [go_sem]
           refine AW (Z ?_) (Z ?_)
           ·have hq_:=AH u40
            obtain⟨hv15010a,hv15010b⟩:=hq_
            refine AP .no (Z ?_)
            refine AK (by (try refine⟨?_,?_⟩) <;> (try simp only [List.length_map,List.length_append,List.length_cons,List.length_nil] at*) <;> (try unfold maxLen) <;> omega) (Z ?_)
            refine AN (u39.map AB) (by rw [← hv15010b]; simp only [List.map_append,List.map_cons,List.map_nil,List.nil_append,List.append_nil,go_sem,slD]) (Z ?_)
            refine BB (.frzT 240160 [(100,[])] [] _ _ _ (by (first|rfl|(simp only [go_sem]; rfl))) (by decide) (by (first|rfl|(simp only [go_sem]; rfl))) (by (first|rfl|(simp only [go_sem]; rfl))) (.done _)) (Z ?_)
            all_goals try rfl
            refine AZ (AL _ _ _ _ u41) (by (first|rfl|(simp only [go_sem]; rfl))) (by first|rfl|(simp only [go_sem])) (Z ?_)
            exact AI (k1 ih9) h
           ·have hq_:=AH u40
            obtain⟨hv15010a,hv15010b⟩:=hq_
            refine AP .no (Z ?_)
            refine AK (by (try refine⟨?_,?_⟩) <;> (try simp only [List.length_map,List.length_append,List.length_cons,List.length_nil] at*) <;> (try unfold maxLen) <;> omega) (Z ?_)
            refine AN (u39.map AB) (by rw [← hv15010b]; simp only [List.map_append,List.map_cons,List.map_nil,List.nil_append,List.append_nil,go_sem,slD]) (Z ?_)
            refine BB (.frzT 240160 [(100,[])] [] _ _ _ (by (first|rfl|(simp only [go_sem]; rfl))) (by decide) (by (first|rfl|(simp only [go_sem]; rfl))) (by (first|rfl|(simp only [go_sem]; rfl))) (.done _)) (Z ?_)
            all_goals try rfl
            refine AZ (AL _ _ _ _ u41) (by (first|rfl|(simp only [go_sem]; rfl))) (by first|rfl|(simp only [go_sem])) (Z ?_)
            exact AI (k1 ih9) h
          ·try simp only [go_sem]
           have hq_:=AH u40
           obtain⟨hv15010a,hv15010b⟩:=hq_
           refine AP .no (Z ?_)
           refine AK (by (try refine⟨?_,?_⟩) <;> (try simp only [List.length_map,List.length_append,List.length_cons,List.length_nil] at*) <;> (try unfold maxLen) <;> omega) (Z ?_)
           refine AN (u39.map AB) (by rw [← hv15010b]; simp only [List.map_append,List.map_cons,List.map_nil,List.nil_append,List.append_nil,go_sem,slD]) (Z ?_)
           refine BB (.frzT 240160 [(100,[])] [] _ _ _ (by (first|rfl|(simp only [go_sem]; rfl))) (by decide) (by (first|rfl|(simp only [go_sem]; rfl))) (by (first|rfl|(simp only [go_sem]; rfl))) (.done _)) (Z ?_)
           all_goals try rfl
           refine AZ (AL _ _ _ _ u41) (by (first|rfl|(simp only [go_sem]; rfl))) (by first|rfl|(simp only [go_sem])) (Z ?_)
           exact AI (k1 ih9) h
    ·refine AS ?_
     refine AO h (fun h=>Z ?_) (fun h=>Z ?_)
     ·replace h:=AJ h; obtain⟨u42,u43,h⟩:=h
      refine caG ⟨[],(r3 1001 1000006000 []),[(1,1,0)],(r5 1501 288016 []),[],true⟩ (B8 _ _ _ u43) (Z ?_)
      exact AI trivial h
     ·refine AS ?_
      replace h:=AJ h; obtain⟨u44,u45,h⟩:=h
      refine Aq u45 rfl (Z ?_)
      refine BS [false,false,false,false,false,false,false,false,false,false,false,true,true] (.fz (Tr.sq [11,12] .fin)) (by kernel_rfl) (Z ?_)
      replace h:=AJ h; obtain⟨u46,u47,h⟩:=h
      refine AK (As (by intro x; exact rfl) _) (Z ?_)
      refine BN (Um u47) (Z ?_)
      replace h:=AJ h; obtain⟨u48,u49,h⟩:=h
      refine AU (Ae _ _ u49) (Z ?_)
      refine BB (.frzT 320160 [(129,[])] [] _ _ _ (by (first|rfl|(simp only [go_sem]; rfl))) (by decide) (by (first|rfl|(simp only [go_sem]; rfl))) (by (first|rfl|(simp only [go_sem]; rfl))) (.done _)) (Z ?_)
      all_goals try rfl
      replace h:=AJ h; obtain⟨u50,u51,h⟩:=h
      refine AZ (AL _ _ _ _ u51) (by (first|rfl|(simp only [go_sem]; rfl))) (by first|rfl|(simp only [go_sem])) (Z ?_)
      exact AI (k1 ih1) h
  ·intro a0 a4 u y q g c k e i l t s r h
   rw [Aa] at h
   refine Aj rfl rfl (Z ?_)
   replace h:=AJ h; obtain⟨u54,u55,h⟩:=h
   refine caG ⟨[],(r3 1001 1000009000 []),[(1,1,0)],(r3 1501 672080 []),[],true⟩ (Gf _ _ _ _ _ u55) (Z ?_)
   refine AS ?_
   refine AO h (fun h=>Z ?_) (fun h=>Z ?_)
   ·replace h:=AJ h; obtain⟨u56,u57,h⟩:=h
    refine caG ⟨[],(r3 1001 672080 []),[(1,1,0)],(r5 1501 688016 []),[],true⟩ (B8 _ _ _ u57) (Z ?_)
    exact AI trivial h
   ·refine AS ?_
    refine AO h (fun h=>Z ?_) (fun h=>Z ?_)
    ·replace h:=AJ h; obtain⟨u58,u59,h⟩:=h
     refine AU (Hs _ _ u59) (Z ?_)
     replace h:=AJ h; obtain⟨u60,u61,h⟩:=h
     have hq_:=Cj u61
     obtain⟨hv45006a,hv45006b⟩:=hq_
     refine AK hv45006a ?_
     rw [hv45006b]
     try simp only [go_sem]
     replace h:=AJ h; obtain⟨u62,u63,h⟩:=h
     refine caG ⟨[],(r3 1001 672080 []),[(1,1,0)],(r3 1501 720112 []),[],true⟩ (Gf _ _ _ _ _ u63) (Z ?_)
     refine AS ?_
     refine AO h (fun h=>Z ?_) (fun h=>Z ?_)
     ·replace h:=AJ h; obtain⟨u64,u65,h⟩:=h
      refine caG ⟨[],(r3 1001 720112 []),[(1,1,0)],(r5 1501 736016 []),[],true⟩ (B8 _ _ _ u65) (Z ?_)
      exact AI trivial h
     ·refine AS ?_
      refine BS [false,false,false,false,false,false,false,false,false,false,true,true,true] (Tr.sq [10,11,12] .fin) (by kernel_rfl) (Z ?_)
      replace h:=AJ h; obtain⟨u66,u67,h⟩:=h
      refine Aq u67 rfl (Z ?_)
      replace h:=AJ h; obtain⟨u68,u69,h⟩:=h
      refine AZ (WP _ _ u69) (by (first|rfl|(simp only [go_sem]; rfl))) (by first|rfl|(simp only [go_sem])) (Z ?_)
      replace h:=AJ h; obtain⟨u70,u71,h⟩:=h
      have hq_:=AH u71
      obtain⟨hv47010a,hv47010b⟩:=hq_
      refine AP .no (Z ?_)
      refine AK (by (try refine⟨?_,?_⟩) <;> (try simp only [List.length_map,List.length_append,List.length_cons,List.length_nil] at*) <;> (try unfold maxLen) <;> omega) (Z ?_)
      refine AN (u70.map Core.ds) (by rw [← hv47010b]; simp only [List.map_append,List.map_cons,List.map_nil,List.nil_append,List.append_nil,go_sem,Core.ds_eq]) (Z ?_)
      exact AI (k1 ih5) h
    ·refine Ie (EE rfl rfl (ih5 a4 y l t s e i u54.2.n.agents u54.2.steps u54.2.nodes u54.2.entered u54.2.origins u54.2.labels u54.2.code [] _ h):) (.one ⟨_,.cell 1000009502 3 2000000000 (some 4) .no _ (by simp only [go_sem]; rfl) (by rfl) (by simp only [go_sem]) (.done _),(r3 1000011000 672080 [(1000011003,1000009003),(1000011004,1000009004),(1000011005,2000000000)]),[(1,1),(1000011500,1000009501),(1000011501,1000009502)],?_⟩)
     simp only [go_sem]
     all_goals try rfl
  ·intro a4 y l t s e i o z u1 u2 u3 u4 u5 u6 r h
   rw [BV] at h
   exact AI (k1 ih6) h
  ·intro a4 y l t s e i u7 u8 u9 u10 u11 u12 u13 u14 u15 r h
   rw [Ag] at h
   refine Aj rfl rfl (Z ?_)
   refine Bw (Z ?_)
   refine AO h (fun h=>Z ?_) (fun h=>Z ?_)
   ·refine AS ?_
    replace h:=AJ h; obtain⟨u72,u73,h⟩:=h
    replace h:=AJ h; obtain⟨u74,u75,h⟩:=h
    replace h:=AJ h; obtain⟨u76,u77,h⟩:=h
    replace h:=AJ h; obtain⟨u78,u79,h⟩:=h
    refine BS [false,true,false,false,true,true,true,false,false,false,true,true,true,false,false,false,false,true,true,true,true,true] (.br 1 (.br 4 (Tr.sq [5] (.br 6 (Tr.sq [10,11,12,17,18,19,20,21] .fin) (.br 10 (Tr.sq [6,11,12,17,18,19,20,21] .fin) .stop))) (.br 10 (Tr.sq [4,5,6,11,12,17,18,19,20,21] .fin) .stop)) (.br 4 (Tr.sq [5] (.br 1 (.br 6 (Tr.sq [10,11,12,17,18,19,20,21] .fin) (.br 10 (Tr.sq [6,11,12,17,18,19,20,21] .fin) .stop)) (.br 6 (.br 1 (Tr.sq [10,11,12,17,18,19,20,21] .fin) (.br 10 (Tr.sq [11] (.br 1 (Tr.sq [12,17,18,19,20,21] .fin) (.br 12 (.br 1 (Tr.sq [17,18,19,20,21] .fin) (.br 17 (.br 1 (Tr.sq [18,19,20,21] .fin) (.br 18 (Tr.sq [1,19,20,21] .fin) .stop)) .stop)) .stop))) .stop)) (.br 10 (.br 1 (Tr.sq [6,11,12,17,18,19,20,21] .fin) (.br 6 (Tr.sq [11] (.br 1 (Tr.sq [12,17,18,19,20,21] .fin) (.br 12 (.br 1 (Tr.sq [17,18,19,20,21] .fin) (.br 17 (.br 1 (Tr.sq [18,19,20,21] .fin) (.br 18 (Tr.sq [1,19,20,21] .fin) .stop)) .stop)) .stop))) .stop)) .stop)))) (.br 10 (.br 1 (Tr.sq [4,5,6,11,12,17,18,19,20,21] .fin) (.br 4 (Tr.sq [5] (.br 1 (Tr.sq [6,11,12,17,18,19,20,21] .fin) (.br 6 (Tr.sq [11] (.br 1 (Tr.sq [12,17,18,19,20,21] .fin) (.br 12 (.br 1 (Tr.sq [17,18,19,20,21] .fin) (.br 17 (.br 1 (Tr.sq [18,19,20,21] .fin) (.br 18 (Tr.sq [1,19,20,21] .fin) .stop)) .stop)) .stop))) .stop))) .stop)) .stop))) (by kernel_rfl) (Z ?_)
    refine Aq u73 rfl ?_
    try simp only [go_sem]
    refine AW ?_ ?_
    ·try simp only [go_sem]
     refine AW ?_ ?_
     ·try simp only [go_sem]
      refine AW (Z ?_) (Z ?_)
      ·refine BN (A8 u73) (Z ?_)
       refine Aq u75 (Port.ds_len _) (Z ?_)
       refine caG ⟨[],(r3 1001 1000013000 []),[(1,1,0)],(r5 1501 816272 []),[],true⟩ (ih0 _ _ _ _ _ _ u77) (Z ?_)
       have hq_:=AH u79
       obtain⟨hv51019a,hv51019b⟩:=hq_
       refine AP .no (Z ?_)
       refine AK (by (try refine⟨?_,?_⟩) <;> (try simp only [List.length_map,List.length_append,List.length_cons,List.length_nil] at*) <;> (try unfold maxLen) <;> omega) (Z ?_)
       refine AN (u78.map Core.ds) (by rw [← hv51019b]; simp only [List.map_append,List.map_cons,List.map_nil,List.nil_append,List.append_nil,go_sem,Core.ds_eq]) (Z ?_)
       exact AI (k1 ih6) h
      ·refine BN (A8 u73) (Z ?_)
       refine Aq u75 (Port.ds_len _) (Z ?_)
       refine caG ⟨[],(r3 1001 1000013000 []),[(1,1,0)],(r5 1501 816272 []),[],true⟩ (ih0 _ _ _ _ _ _ u77) (Z ?_)
       have hq_:=AH u79
       obtain⟨hv51019a,hv51019b⟩:=hq_
       refine AP .no (Z ?_)
       refine AK (by (try refine⟨?_,?_⟩) <;> (try simp only [List.length_map,List.length_append,List.length_cons,List.length_nil] at*) <;> (try unfold maxLen) <;> omega) (Z ?_)
       refine AN (u78.map Core.ds) (by rw [← hv51019b]; simp only [List.map_append,List.map_cons,List.map_nil,List.nil_append,List.append_nil,go_sem,Core.ds_eq]) (Z ?_)
       exact AI (k1 ih6) h
     ·try simp only [go_sem]
      refine BN (A8 u73) (Z ?_)
      refine Aq u75 (Port.ds_len _) (Z ?_)
      refine caG ⟨[],(r3 1001 1000013000 []),[(1,1,0)],(r5 1501 816272 []),[],true⟩ (ih0 _ _ _ _ _ _ u77) (Z ?_)
      have hq_:=AH u79
      obtain⟨hv51019a,hv51019b⟩:=hq_
      refine AP .no (Z ?_)
      refine AK (by (try refine⟨?_,?_⟩) <;> (try simp only [List.length_map,List.length_append,List.length_cons,List.length_nil] at*) <;> (try unfold maxLen) <;> omega) (Z ?_)
      refine AN (u78.map Core.ds) (by rw [← hv51019b]; simp only [List.map_append,List.map_cons,List.map_nil,List.nil_append,List.append_nil,go_sem,Core.ds_eq]) (Z ?_)
      exact AI (k1 ih6) h
    ·try simp only [go_sem]
     refine AW ?_ ?_
     ·try simp only [go_sem]
      refine AW ?_ ?_
      ·try simp only [go_sem]
       refine AW (Z ?_) (Z ?_)
       ·refine BN (A8 u73) (Z ?_)
        refine Aq u75 (Port.ds_len _) (Z ?_)
        refine caG ⟨[],(r3 1001 1000013000 []),[(1,1,0)],(r5 1501 816272 []),[],true⟩ (ih0 _ _ _ _ _ _ u77) (Z ?_)
        have hq_:=AH u79
        obtain⟨hv51019a,hv51019b⟩:=hq_
        refine AP .no (Z ?_)
        refine AK (by (try refine⟨?_,?_⟩) <;> (try simp only [List.length_map,List.length_append,List.length_cons,List.length_nil] at*) <;> (try unfold maxLen) <;> omega) (Z ?_)
        refine AN (u78.map Core.ds) (by rw [← hv51019b]; simp only [List.map_append,List.map_cons,List.map_nil,List.nil_append,List.append_nil,go_sem,Core.ds_eq]) (Z ?_)
        exact AI (k1 ih6) h
       ·refine BN (A8 u73) (Z ?_)
        refine Aq u75 (Port.ds_len _) (Z ?_)
        refine caG ⟨[],(r3 1001 1000013000 []),[(1,1,0)],(r5 1501 816272 []),[],true⟩ (ih0 _ _ _ _ _ _ u77) (Z ?_)
        have hq_:=AH u79
        obtain⟨hv51019a,hv51019b⟩:=hq_
        refine AP .no (Z ?_)
        refine AK (by (try refine⟨?_,?_⟩) <;> (try simp only [List.length_map,List.length_append,List.length_cons,List.length_nil] at*) <;> (try unfold maxLen) <;> omega) (Z ?_)
        refine AN (u78.map Core.ds) (by rw [← hv51019b]; simp only [List.map_append,List.map_cons,List.map_nil,List.nil_append,List.append_nil,go_sem,Core.ds_eq]) (Z ?_)
        exact AI (k1 ih6) h
      ·try simp only [go_sem]
       refine AW ?_ ?_
       ·try simp only [go_sem]
        refine AW (Z ?_) (Z ?_)
        ·refine BN (A8 u73) (Z ?_)
         refine Aq u75 (Port.ds_len _) (Z ?_)
         refine caG ⟨[],(r3 1001 1000013000 []),[(1,1,0)],(r5 1501 816272 []),[],true⟩ (ih0 _ _ _ _ _ _ u77) (Z ?_)
         have hq_:=AH u79
         obtain⟨hv51019a,hv51019b⟩:=hq_
         refine AP .no (Z ?_)
         refine AK (by (try refine⟨?_,?_⟩) <;> (try simp only [List.length_map,List.length_append,List.length_cons,List.length_nil] at*) <;> (try unfold maxLen) <;> omega) (Z ?_)
         refine AN (u78.map Core.ds) (by rw [← hv51019b]; simp only [List.map_append,List.map_cons,List.map_nil,List.nil_append,List.append_nil,go_sem,Core.ds_eq]) (Z ?_)
         exact AI (k1 ih6) h
        ·refine BN (A8 u73) (Z ?_)
         refine Aq u75 (Port.ds_len _) ?_
         try simp only [go_sem]
         refine AW ?_ ?_
         ·try simp only [go_sem]
          refine caG ⟨[],(r3 1001 1000013000 []),[(1,1,0)],(r5 1501 816272 []),[],true⟩ (ih0 _ _ _ _ _ _ u77) (Z ?_)
          have hq_:=AH u79
          obtain⟨hv51019a,hv51019b⟩:=hq_
          refine AP .no (Z ?_)
          refine AK (by (try refine⟨?_,?_⟩) <;> (try simp only [List.length_map,List.length_append,List.length_cons,List.length_nil] at*) <;> (try unfold maxLen) <;> omega) (Z ?_)
          refine AN (u78.map Core.ds) (by rw [← hv51019b]; simp only [List.map_append,List.map_cons,List.map_nil,List.nil_append,List.append_nil,go_sem,Core.ds_eq]) (Z ?_)
          exact AI (k1 ih6) h
         ·try simp only [go_sem]
          refine AW (Z ?_) (Z ?_)
          ·refine caG ⟨[],(r3 1001 1000013000 []),[(1,1,0)],(r5 1501 816272 []),[],true⟩ (ih0 _ _ _ _ _ _ u77) (Z ?_)
           have hq_:=AH u79
           obtain⟨hv51019a,hv51019b⟩:=hq_
           refine AP .no (Z ?_)
           refine AK (by (try refine⟨?_,?_⟩) <;> (try simp only [List.length_map,List.length_append,List.length_cons,List.length_nil] at*) <;> (try unfold maxLen) <;> omega) (Z ?_)
           refine AN (u78.map Core.ds) (by rw [← hv51019b]; simp only [List.map_append,List.map_cons,List.map_nil,List.nil_append,List.append_nil,go_sem,Core.ds_eq]) (Z ?_)
           exact AI (k1 ih6) h
          ·refine caG ⟨[],(r3 1001 1000013000 []),[(1,1,0)],(r5 1501 816272 []),[],true⟩ (ih0 _ _ _ _ _ _ u77) ?_
           try simp only [go_sem]
           refine AW (Z ?_) (Z ?_)
           ·have hq_:=AH u79
            obtain⟨hv51019a,hv51019b⟩:=hq_
            refine AP .no (Z ?_)
            refine AK (by (try refine⟨?_,?_⟩) <;> (try simp only [List.length_map,List.length_append,List.length_cons,List.length_nil] at*) <;> (try unfold maxLen) <;> omega) (Z ?_)
            refine AN (u78.map Core.ds) (by rw [← hv51019b]; simp only [List.map_append,List.map_cons,List.map_nil,List.nil_append,List.append_nil,go_sem,Core.ds_eq]) (Z ?_)
            exact AI (k1 ih6) h
           ·have hq_:=AH u79
            obtain⟨hv51019a,hv51019b⟩:=hq_
            refine AP .no (Z ?_)
            refine AK (by (try refine⟨?_,?_⟩) <;> (try simp only [List.length_map,List.length_append,List.length_cons,List.length_nil] at*) <;> (try unfold maxLen) <;> omega) (Z ?_)
            refine AN (u78.map Core.ds) (by rw [← hv51019b]; simp only [List.map_append,List.map_cons,List.map_nil,List.nil_append,List.append_nil,go_sem,Core.ds_eq]) (Z ?_)
            exact AI (k1 ih6) h
       ·try simp only [go_sem]
        refine BN (A8 u73) ?_
        try simp only [go_sem]
        refine AW (Z ?_) (Z ?_)
        ·refine Aq u75 (Port.ds_len _) (Z ?_)
         refine caG ⟨[],(r3 1001 1000013000 []),[(1,1,0)],(r5 1501 816272 []),[],true⟩ (ih0 _ _ _ _ _ _ u77) (Z ?_)
         have hq_:=AH u79
         obtain⟨hv51019a,hv51019b⟩:=hq_
         refine AP .no (Z ?_)
         refine AK (by (try refine⟨?_,?_⟩) <;> (try simp only [List.length_map,List.length_append,List.length_cons,List.length_nil] at*) <;> (try unfold maxLen) <;> omega) (Z ?_)
         refine AN (u78.map Core.ds) (by rw [← hv51019b]; simp only [List.map_append,List.map_cons,List.map_nil,List.nil_append,List.append_nil,go_sem,Core.ds_eq]) (Z ?_)
         exact AI (k1 ih6) h
        ·refine Aq u75 (Port.ds_len _) ?_
         try simp only [go_sem]
         refine AW ?_ ?_
         ·try simp only [go_sem]
          refine caG ⟨[],(r3 1001 1000013000 []),[(1,1,0)],(r5 1501 816272 []),[],true⟩ (ih0 _ _ _ _ _ _ u77) (Z ?_)
          have hq_:=AH u79
          obtain⟨hv51019a,hv51019b⟩:=hq_
          refine AP .no (Z ?_)
          refine AK (by (try refine⟨?_,?_⟩) <;> (try simp only [List.length_map,List.length_append,List.length_cons,List.length_nil] at*) <;> (try unfold maxLen) <;> omega) (Z ?_)
          refine AN (u78.map Core.ds) (by rw [← hv51019b]; simp only [List.map_append,List.map_cons,List.map_nil,List.nil_append,List.append_nil,go_sem,Core.ds_eq]) (Z ?_)
          exact AI (k1 ih6) h
         ·try simp only [go_sem]
          refine AW (Z ?_) (Z ?_)
          ·refine caG ⟨[],(r3 1001 1000013000 []),[(1,1,0)],(r5 1501 816272 []),[],true⟩ (ih0 _ _ _ _ _ _ u77) (Z ?_)
           have hq_:=AH u79
           obtain⟨hv51019a,hv51019b⟩:=hq_
           refine AP .no (Z ?_)
           refine AK (by (try refine⟨?_,?_⟩) <;> (try simp only [List.length_map,List.length_append,List.length_cons,List.length_nil] at*) <;> (try unfold maxLen) <;> omega) (Z ?_)
           refine AN (u78.map Core.ds) (by rw [← hv51019b]; simp only [List.map_append,List.map_cons,List.map_nil,List.nil_append,List.append_nil,go_sem,Core.ds_eq]) (Z ?_)
           exact AI (k1 ih6) h
          ·refine caG ⟨[],(r3 1001 1000013000 []),[(1,1,0)],(r5 1501 816272 []),[],true⟩ (ih0 _ _ _ _ _ _ u77) ?_
           try simp only [go_sem]
           refine AW (Z ?_) (Z ?_)
           ·have hq_:=AH u79
            obtain⟨hv51019a,hv51019b⟩:=hq_
            refine AP .no (Z ?_)
            refine AK (by (try refine⟨?_,?_⟩) <;> (try simp only [List.length_map,List.length_append,List.length_cons,List.length_nil] at*) <;> (try unfold maxLen) <;> omega) (Z ?_)
            refine AN (u78.map Core.ds) (by rw [← hv51019b]; simp only [List.map_append,List.map_cons,List.map_nil,List.nil_append,List.append_nil,go_sem,Core.ds_eq]) (Z ?_)
            exact AI (k1 ih6) h
           ·have hq_:=AH u79
            obtain⟨hv51019a,hv51019b⟩:=hq_
            refine AP .no (Z ?_)
            refine AK (by (try refine⟨?_,?_⟩) <;> (try simp only [List.length_map,List.length_append,List.length_cons,List.length_nil] at*) <;> (try unfold maxLen) <;> omega) (Z ?_)
            refine AN (u78.map Core.ds) (by rw [← hv51019b]; simp only [List.map_append,List.map_cons,List.map_nil,List.nil_append,List.append_nil,go_sem,Core.ds_eq]) (Z ?_)
            exact AI (k1 ih6) h
     ·try simp only [go_sem]
      refine BN (A8 u73) ?_
      try simp only [go_sem]
      refine AW ?_ ?_
      ·try simp only [go_sem]
       refine Aq u75 (Port.ds_len _) (Z ?_)
       refine caG ⟨[],(r3 1001 1000013000 []),[(1,1,0)],(r5 1501 816272 []),[],true⟩ (ih0 _ _ _ _ _ _ u77) (Z ?_)
       have hq_:=AH u79
       obtain⟨hv51019a,hv51019b⟩:=hq_
       refine AP .no (Z ?_)
       refine AK (by (try refine⟨?_,?_⟩) <;> (try simp only [List.length_map,List.length_append,List.length_cons,List.length_nil] at*) <;> (try unfold maxLen) <;> omega) (Z ?_)
       refine AN (u78.map Core.ds) (by rw [← hv51019b]; simp only [List.map_append,List.map_cons,List.map_nil,List.nil_append,List.append_nil,go_sem,Core.ds_eq]) (Z ?_)
       exact AI (k1 ih6) h
      ·try simp only [go_sem]
       refine AW (Z ?_) (Z ?_)
       ·refine Aq u75 (Port.ds_len _) (Z ?_)
        refine caG ⟨[],(r3 1001 1000013000 []),[(1,1,0)],(r5 1501 816272 []),[],true⟩ (ih0 _ _ _ _ _ _ u77) (Z ?_)
        have hq_:=AH u79
        obtain⟨hv51019a,hv51019b⟩:=hq_
        refine AP .no (Z ?_)
        refine AK (by (try refine⟨?_,?_⟩) <;> (try simp only [List.length_map,List.length_append,List.length_cons,List.length_nil] at*) <;> (try unfold maxLen) <;> omega) (Z ?_)
        refine AN (u78.map Core.ds) (by rw [← hv51019b]; simp only [List.map_append,List.map_cons,List.map_nil,List.nil_append,List.append_nil,go_sem,Core.ds_eq]) (Z ?_)
        exact AI (k1 ih6) h
       ·refine Aq u75 (Port.ds_len _) ?_
        try simp only [go_sem]
        refine AW ?_ ?_
        ·try simp only [go_sem]
         refine caG ⟨[],(r3 1001 1000013000 []),[(1,1,0)],(r5 1501 816272 []),[],true⟩ (ih0 _ _ _ _ _ _ u77) (Z ?_)
         have hq_:=AH u79
         obtain⟨hv51019a,hv51019b⟩:=hq_
         refine AP .no (Z ?_)
         refine AK (by (try refine⟨?_,?_⟩) <;> (try simp only [List.length_map,List.length_append,List.length_cons,List.length_nil] at*) <;> (try unfold maxLen) <;> omega) (Z ?_)
         refine AN (u78.map Core.ds) (by rw [← hv51019b]; simp only [List.map_append,List.map_cons,List.map_nil,List.nil_append,List.append_nil,go_sem,Core.ds_eq]) (Z ?_)
         exact AI (k1 ih6) h
        ·try simp only [go_sem]
         refine AW (Z ?_) (Z ?_)
         ·refine caG ⟨[],(r3 1001 1000013000 []),[(1,1,0)],(r5 1501 816272 []),[],true⟩ (ih0 _ _ _ _ _ _ u77) (Z ?_)
          have hq_:=AH u79
          obtain⟨hv51019a,hv51019b⟩:=hq_
          refine AP .no (Z ?_)
          refine AK (by (try refine⟨?_,?_⟩) <;> (try simp only [List.length_map,List.length_append,List.length_cons,List.length_nil] at*) <;> (try unfold maxLen) <;> omega) (Z ?_)
          refine AN (u78.map Core.ds) (by rw [← hv51019b]; simp only [List.map_append,List.map_cons,List.map_nil,List.nil_append,List.append_nil,go_sem,Core.ds_eq]) (Z ?_)
          exact AI (k1 ih6) h
         ·refine caG ⟨[],(r3 1001 1000013000 []),[(1,1,0)],(r5 1501 816272 []),[],true⟩ (ih0 _ _ _ _ _ _ u77) ?_
          try simp only [go_sem]
          refine AW (Z ?_) (Z ?_)
          ·have hq_:=AH u79
           obtain⟨hv51019a,hv51019b⟩:=hq_
           refine AP .no (Z ?_)
           refine AK (by (try refine⟨?_,?_⟩) <;> (try simp only [List.length_map,List.length_append,List.length_cons,List.length_nil] at*) <;> (try unfold maxLen) <;> omega) (Z ?_)
           refine AN (u78.map Core.ds) (by rw [← hv51019b]; simp only [List.map_append,List.map_cons,List.map_nil,List.nil_append,List.append_nil,go_sem,Core.ds_eq]) (Z ?_)
           exact AI (k1 ih6) h
          ·have hq_:=AH u79
           obtain⟨hv51019a,hv51019b⟩:=hq_
           refine AP .no (Z ?_)
           refine AK (by (try refine⟨?_,?_⟩) <;> (try simp only [List.length_map,List.length_append,List.length_cons,List.length_nil] at*) <;> (try unfold maxLen) <;> omega) (Z ?_)
           refine AN (u78.map Core.ds) (by rw [← hv51019b]; simp only [List.map_append,List.map_cons,List.map_nil,List.nil_append,List.append_nil,go_sem,Core.ds_eq]) (Z ?_)
           exact AI (k1 ih6) h
   ·exact AI trivial h
  ·intro a0 a3 a4 u y q g c k e i u16 r h
   rw [AR] at h
   refine Aj rfl rfl (Z ?_)
   refine AO h (fun h=>Z ?_) (fun h=>Z ?_)
   ·refine Ie (EE rfl rfl (ih4 a0 a4 u y q g c k e i a3 e.value [] _ h):) (.one ⟨_,.cell 1000007502 2 2000000000 (some 1) .no _ (by simp only [go_sem]; rfl) (by rfl) (by simp only [go_sem]) (.done _),(r4 1000009000 1000007000 [(1000009004,2000000000)]),((1,1)::r3 1000009500 1000007500 []),?_⟩)
    simp only [go_sem]
    all_goals try rfl
   ·exact AI (k1 ih8) h
  ·intro a0 a3 a4 u y q g c k e i u17 r h
   rw [Az] at h
   refine Aj rfl rfl (Z ?_)
   refine AO h (fun h=>Z ?_) (fun h=>Z ?_)
   ·exact AI (k2 Ae ih4) h
   ·refine AO h (fun h=>Z ?_) (fun h=>Z ?_)
    ·refine BS [false,false,false,false,false,false,false,false,false,false,false,false,false,true,true] (Tr.sq [13,14] .fin) (by kernel_rfl) (Z ?_)
     replace h:=AJ h; obtain⟨u82,u83,h⟩:=h
     have hq_:=AH u83
     obtain⟨hv41002a,hv41002b⟩:=hq_
     refine AK (by rfl) (Z ?_)
     refine AP .yes (Z ?_)
     refine AK (OB (by intro x; exact⟨(L16Binder.ds_len _),L16Binder.dz_ng x⟩) _) (Z ?_)
     refine AN (a3.map L16Binder.dz) (Qc L16Binder.dz_fz _) (Z ?_)
     refine AK (by (try refine⟨?_,?_⟩) <;> (try simp only [List.length_map,List.length_append,List.length_cons,List.length_nil] at*) <;> (try unfold maxLen) <;> omega) (Z ?_)
     refine AN (u82.map L16Binder.dz) (by rw [← hv41002b]; simp only [List.nil_append]) (Z ?_)
     replace h:=AJ h; obtain⟨u84,u85,h⟩:=h
     refine AZ (JZ _ _ _ u85) (by (first|rfl|(simp only [go_sem]; rfl))) (by first|rfl|(simp only [go_sem])) (Z ?_)
     replace h:=AJ h; obtain⟨u86,u87,h⟩:=h
     have hq_:=AH u87
     obtain⟨hv41013a,hv41013b⟩:=hq_
     refine AP .yes (Z ?_)
     refine AK (by (try refine⟨?_,?_⟩) <;> (try simp only [List.length_map,List.length_append,List.length_cons,List.length_nil] at*) <;> (try unfold maxLen) <;> omega) (Z ?_)
     refine AN (u86.map L16Binder.dz) (by rw [← hv41013b]; simp only [List.map_append,List.map_cons,List.map_nil,List.nil_append,List.append_nil,go_sem,L16Binder.ds_eq,L16Binder.dz_eq]) (Z ?_)
     refine Ie (EE rfl rfl (ih4 a0 a4 u y q g c k e i u86 0 [] _ h):) (.one ⟨_,.cell 1000008502 2 2000000000 (some 1) .no _ (by simp only [go_sem]; rfl) (by rfl) (by simp only [go_sem]) (.frzT 656208 [(3,[]),(210,[])] [] _ _ _ (by (first|rfl|(simp only [go_sem]; rfl))) (by decide) (by (first|rfl|(simp only [go_sem]; rfl))) (by (first|rfl|(simp only [go_sem]; rfl))) (.done _)),(r4 1000009000 1000008000 [(1000009004,2000000000)]),((1,1)::r3 1000009500 1000008500 []),?_⟩)
     simp only [go_sem]
     all_goals try rfl
    ·refine Ie (EE rfl rfl (ih4 a0 a4 u y q g c k e i a3 0 [] _ h):) (.one ⟨_,.cell 1000008502 2 2000000000 (some 1) .no _ (by simp only [go_sem]; rfl) (by rfl) (by simp only [go_sem]) (.done _),(r4 1000009000 1000008000 [(1000009004,2000000000)]),((1,1)::r3 1000009500 1000008500 []),?_⟩)
     simp only [go_sem]
     all_goals try rfl
  ·intro a0 a3 a4 u q g c k b u18 r h
   rw [Cb] at h
   exact AI (k1 ih1) h
def LH (n:Nat):=(KC n).1
theorem Lx (n:Nat):(∀a0 u w r,Bs n a0 u w=some r→CF Tryz.prog Tryz.f30 [1,1,1,0,1,0] (.tup [.agg [.int .i64 r.1.kind,.int .i64 r.1.value,.own 1501,.own 1502],.box 1601 0]) [(1501,⟨List.map AB r.1.data,some 1,0,.no⟩),(1502,⟨List.map Core.ds r.1.kids,some 4,0,.no⟩),(1503,⟨List.map AB r.2.entered,some 1,0,.no⟩),(1504,⟨List.map AB r.2.origins,some 1,0,.no⟩),(1505,⟨List.map AT r.2.labels,some 1,0,.no⟩)] [(1601,[.rop [.ro (r.2.n.agents.map Agent.ds)] 0,.int .i64 r.2.steps,.int .i64 r.2.nodes,.own 1503,.own 1504,.own 1505,.int .i64 r.2.code])] ⟨[(0,.rop [.ro (a0.agents.map Agent.ds)] 0),(2,.box 1000001500 0),(4,.box 1000001501 0),(5,.own 1000001000),(6,.int .i64 w)],[(1000001000,some ⟨List.map (slD AB) u,some 1,0,.no⟩)],[(1000001500,some [.int .i64 0,.int .i64 0,.nils,.nils]),(1000001501,some [.rop [.ro (a0.agents.map Agent.ds)] 0,.int .i64 0,.int .i64 0,.nils,.nils,.nils,.int .i64 0])]⟩):=by
 induction n with
 |zero=>exact((fun _ _ _ _ h=>by rw [Bs] at h; cases h))
 | succ n ih=>
  have ih0:=ih
  ·intro a0 u w r h
   rw [Bs] at h
   refine Aj rfl rfl (Z ?_)
   refine Bw (Z ?_)
   refine AO h (fun h=>Z ?_) (fun h=>Z ?_)
   ·refine AS ?_
    replace h:=AJ h; obtain⟨y,q,h⟩:=h
    have hq_:=AH q
    obtain⟨hv7003a,hv7003b⟩:=hq_
    refine AP .no (Z ?_)
    refine AK (by (try refine⟨?_,?_⟩) <;> (try simp only [List.length_map,List.length_append,List.length_cons,List.length_nil] at*) <;> (try unfold maxLen) <;> omega) (Z ?_)
    refine AN (List.map (slD AB) y) (by rw [← hv7003b]; simp only [List.map_append,List.map_cons,List.map_nil,List.nil_append,List.append_nil,go_sem,slD]) (Z ?_)
    exact AI (k1 ih0) h
   ·refine bD (.frzT 1000001000 [(5,[])] [] _ _ _ (by (first|rfl|(simp only [go_sem]; rfl))) (by decide) (by (first|rfl|(simp only [go_sem]; rfl))) (by (first|rfl|(simp only [go_sem]; rfl))) (.done _)) (Z ?_)
    all_goals try rfl
    replace h:=AJ h; obtain⟨g,j,h⟩:=h
    refine Aq j (Agent.ds_len _) (Z ?_)
    replace h:=AJ h; obtain⟨k,b,h⟩:=h
    refine Aq b (Port.ds_len _) (Z ?_)
    replace h:=AJ h; obtain⟨d,c,h⟩:=h
    refine caG ⟨[(3000128176,.nils,some 1),(3000128177,.nils,some 1),(3000128178,.nils,some 1)],(r3 1001 3000128176 []),[(1,1000001501,0)],(r5 1501 128176 []),[],true⟩ (LH fuel _ _ _ _ _ _ c) (Z ?_)
    exact AI trivial h
end Go.Proofs.YtoncbhomocgmcaaGreatDoor.Ab
