/- The functions do what their models say. -/
import Derived.Test.YtjnifengdhcojaaGreatDoorModS
import Derived.Test.YtjnifengdhcojaaGreatDoorTi2
import Derived.Test.YtjnifengdhcojaaGreatDoorWlkC
namespace Go.Proofs.YtjnifengdhcojaaGreatDoor.Ab
set_option linter.defProp false
set_option linter.unusedVariables false
set_option linter.unusedSimpArgs false
set_option maxRecDepth 20000
set_option maxHeartbeats 4000000
open Go.RowKit _root_.Go.Proofs.Tryz
theorem IX (a0 r) (h:FG a0=some r):AC prog 116 [.ro (a0.map AD)] (.ow (some 1) (r.map AD)):=by
 unfold FG at h
 refine acF func116 mixed (h:=Z ?_)
 replace h:=AB h; obtain⟨u,w,h⟩:=h
 have q:=Ad w
 obtain⟨p,j⟩:=q
 refine Bp .no (Z ?_)
 refine Bu (Pk (by intro x; exact⟨rfl,by simp [go_sem,D.flat]⟩) _) (Z ?_)
 refine CN (Z ?_)
 refine Hf AD j (Z ?_)
 exact AF trivial h
theorem XO (a0 r) (h:Od a0=some r):AG prog 153 [.int .i64 a0] [] [] (.agg [.int .i64 r.kind,.int .i64 r.value,.nils,.nils]) [] [] :=by
 unfold Od at h
 refine agF func153 mixed (h:=Z ?_)
 exact AF trivial h
theorem WD (a0 r) (h:Ja a0=some r):AC prog 166 [.agg (Port.avs a0)] (.str r):=by
 unfold Ja at h
 refine acF func166 mixed (h:=Z ?_)
 refine AY [] .fin (by kernel_rfl) (Z ?_)
 replace h:=AB h; obtain⟨u,w,h⟩:=h
 refine AK (Ls _ _ w) (Z ?_)
 replace h:=AB h; obtain⟨y,q,h⟩:=h
 have v:=FP q
 obtain⟨F,I⟩:=v
 refine Bu F ?_
 rw [I]
 try simp only [go_sem]
 replace h:=AB h; obtain⟨g,j,h⟩:=h
 refine AK (Ls _ _ j) (Z ?_)
 replace h:=AB h; obtain⟨k,b,h⟩:=h
 have v:=FP b
 obtain⟨G,p⟩:=v
 refine Bu G ?_
 rw [p]
 try simp only [go_sem]
 replace h:=AB h; obtain⟨d,c,h⟩:=h
 have v:=FP c
 obtain⟨J,C⟩:=v
 refine Bu J ?_
 rw [C]
 try simp only [go_sem]
 exact AF trivial h
theorem Cq (a0 a1 r) (h:BD a0 a1=some r):AG prog 167 [.box 1 0,.int .i64 a1] [(1001,⟨List.map AD a0.entered,some 1,0,.no⟩),(1002,⟨List.map AD a0.origins,some 1,0,.no⟩),(1003,⟨List.map BI a0.labels,some 1,0,.no⟩)] [(1,[.rop [.ro (a0.n.agents.map Agent.ds)] 0,.int .i64 a0.steps,.int .i64 a0.nodes,.own 1001,.own 1002,.own 1003,.int .i64 a0.code])] (.agg [.int .i64 r.1.kind,.int .i64 r.1.value,.own 1501,.own 1502]) [(1501,⟨List.map AD r.1.data,some 1,0,.no⟩),(1502,⟨List.map Core.ds r.1.kids,some 4,0,.no⟩),(1503,⟨List.map AD r.2.entered,some 1,0,.no⟩),(1504,⟨List.map AD r.2.origins,some 1,0,.no⟩),(1505,⟨List.map BI r.2.labels,some 1,0,.no⟩)] [(1,[.rop [.ro (r.2.n.agents.map Agent.ds)] 0,.int .i64 r.2.steps,.int .i64 r.2.nodes,.own 1503,.own 1504,.own 1505,.int .i64 r.2.code])] :=by
 unfold BD at h
 refine agF func167 mixed (h:=Z ?_)
 refine AL ?_
 refine AJ h (fun h=>Z ?_) (fun h=>Z ?_)
 all_goals
  refine AL ?_
  cases h
  exact Bv (.dp 0 2000000000 (some 1) .no [2] (k:=.dp 0 2000000001 (some 4) .no [3] (k:=.done _))) ((1501,2000000000)::(1502,2000000001)::r3 1503 1001 []) [(1,1)]
theorem Sf (a0 a1 a2 r) (h:Kr a0 a1 a2=some r):AG prog 168 [.ro (List.map (slD AD) a0),.int .i64 a1,.ro (a2.map AD)] [] [] (.ro (List.map (slD AD) r)) [] [] :=by
 unfold Kr at h
 refine agF func168 mixed (h:=Z ?_)
 replace h:=AB h; obtain⟨u,w,h⟩:=h
 have C:=Ad w
 obtain⟨v,p⟩:=C
 refine Bp .yes (Z ?_)
 refine Bu (LQ (by intro x; exact⟨rfl,ov x⟩) _) (Z ?_)
 refine A4 (List.map (szD AD) a0) (TY ou _) (Z ?_)
 refine CN (Z ?_)
 refine A4 (List.map (szD AD) u) (by rw [← p]; simp only [List.map_append,List.map_cons,List.map_nil,List.nil_append,List.append_nil,go_sem,slD,szD]) (Z ?_)
 refine AL ?_
 replace h:=AB h; obtain⟨y,q,h⟩:=h
 refine AS q rfl (Z ?_)
 replace h:=AB h; obtain⟨g,j,h⟩:=h
 refine CM (Bq q) (Z ?_)
 refine A4 (List.map (szD AD) g) (by rw [← BE j]; simp only [List.map_set,go_sem,slD,szD]) (Z ?_)
 cases h
 exact Bv (.fT 32032 [(0,[])] [] (k:=.done _)) [] []
theorem Rq (n:Nat):(∀F u w r,CX n F u w=some r→B2 prog f169 [1,0,0,1,1,1,1,1,1,1,1,1,1,1,1,1,0,1,0,1,0] (.tup [.int .i64 r.1,.own 1501]) [(1501,⟨List.map AD r.2,some 1,0,.no⟩)] [] ⟨[(0,.rop (Agent.avs F) 0),(6,.own 1000011000),(7,.int .i64 w)],[(1000011000,some ⟨List.map AD u,some 1,0,.no⟩)],[]⟩):=by
 induction n with
 |zero=>exact((fun _ _ _ _ h=>by rw [CX] at h; cases h))
 | succ n ih=>
  have v:=ih
  ·intro F u w r h
   rw [CX] at h
   refine Ae rfl rfl (Z ?_)
   refine A5 (Z ?_)
   refine AJ h (fun h=>Z ?_) (fun h=>Z ?_)
   ·refine AL ?_
    replace h:=AB h; obtain⟨y,q,h⟩:=h
    have C:=Ad q
    obtain⟨p,j⟩:=C
    refine Bp .no (Z ?_)
    refine CN (Z ?_)
    refine Hf AD j (Z ?_)
    exact AF (k1 v) h
   ·exact AF trivial h
theorem Rr (a0:Agent) (u:Bool) (r:Int × (List Int)) (h:GS a0 u=some r):B2 prog f169 [1,0,0,1,1,1,1,1,1,1,1,1,1,1,1,1,1,1,1,1] (.tup [.int .i64 r.1,.own 1501]) [(1501,⟨List.map AD r.2,some 1,0,.no⟩)] [] ⟨[(0,.rop (Agent.avs a0) 0),(104,.bool u)],[],[]⟩:=by
 unfold GS at h
 refine Ae rfl rfl (Z ?_)
 refine AJ h (fun h=>Z ?_) (fun h=>Z ?_)
 ·refine AL ?_
  cases h
  exact Bv (.lt 0 2000000000 24000 1 1 .no [1] (k:=.done _)) [(1501,2000000000)] []
 ·refine AJ h (fun h=>Z ?_) (fun h=>Z ?_)
  ·cases h
   exact Bv (.dp 0 2000000000 (some 1) .no [1] (k:=.done _)) [(1501,2000000000)] []
  ·refine AL ?_
   cases h
   exact Bv (.dp 0 2000000000 (some 1) .no [1] (k:=.done _)) [(1501,2000000000)] []
theorem TA (a0:Agent) (a1:Int) (u:Bool) (r:Int × (List Int)) (h:HL a0 a1 u=some r):B2 prog f169 [1,0,0,1,1,1,1,1,1,1,1,1,1,1,1,1,1,1] (.tup [.int .i64 r.1,.own 1501]) [(1501,⟨List.map AD r.2,some 1,0,.no⟩)] [] ⟨[(0,.rop (Agent.avs a0) 0),(1,.int .i64 a1),(93,.bool u)],[],[]⟩:=by
 unfold HL at h
 refine Ae rfl rfl (Z ?_)
 refine AJ h (fun h=>Z ?_) (fun h=>Z ?_)
 ·refine AL ?_
  cases h
  exact Bv (.lt 0 2000000000 22000 1 1 .no [1] (k:=.done _)) [(1501,2000000000)] []
 ·exact AF (k1 Rr) h
theorem TB (a0:Agent) (a1:Int) (u:Bool) (r:Int × (List Int)) (h:HM a0 a1 u=some r):B2 prog f169 [1,0,0,1,1,1,1,1,1,1,1,1,1,1,1,1] (.tup [.int .i64 r.1,.own 1501]) [(1501,⟨List.map AD r.2,some 1,0,.no⟩)] [] ⟨[(0,.rop (Agent.avs a0) 0),(1,.int .i64 a1),(68,.bool u)],[],[]⟩:=by
 unfold HM at h
 refine Ae rfl rfl (Z ?_)
 refine AJ h (fun h=>Z ?_) (fun h=>Z ?_)
 ·refine AL ?_
  refine CL (Ds rfl rfl (Rq fuel a0 [] 1 _ h):) (.one ⟨_,.lt 6 2000000000 15000 0 1 .no [] (k:=.done _),[(1000011000,2000000000)],[],?_⟩)
  simp only [go_sem]
  all_goals try rfl
 ·exact AF (k1 TA) h
theorem TC (a0:Agent) (a1:Int) (u:Bool) (r:Int × (List Int)) (h:HN a0 a1 u=some r):B2 prog f169 [1,0,0,1,1,1,1,1,1,1,1,1,1,1] (.tup [.int .i64 r.1,.own 1501]) [(1501,⟨List.map AD r.2,some 1,0,.no⟩)] [] ⟨[(0,.rop (Agent.avs a0) 0),(1,.int .i64 a1),(57,.bool u)],[],[]⟩:=by
 unfold HN at h
 refine Ae rfl rfl (Z ?_)
 refine AJ h (fun h=>Z ?_) (fun h=>Z ?_)
 ·refine AL ?_
  cases h
  exact Bv (.lt 0 2000000000 13000 1 1 .no [1] (k:=.done _)) [(1501,2000000000)] []
 ·exact AF (k1 TB) h
theorem TD (a0:Agent) (a1:Int) (u:Bool) (r:Int × (List Int)) (h:HO a0 a1 u=some r):B2 prog f169 [1,0,0,1,1,1,1,1,1,1,1,1] (.tup [.int .i64 r.1,.own 1501]) [(1501,⟨List.map AD r.2,some 1,0,.no⟩)] [] ⟨[(0,.rop (Agent.avs a0) 0),(1,.int .i64 a1),(46,.bool u)],[],[]⟩:=by
 unfold HO at h
 refine Ae rfl rfl (Z ?_)
 refine AJ h (fun h=>Z ?_) (fun h=>Z ?_)
 ·refine AL ?_
  cases h
  exact Bv (.lt 0 2000000000 11000 2 1 .no [1] (k:=.done _)) [(1501,2000000000)] []
 ·exact AF (k1 TC) h
theorem TE (a0:Agent) (a1:Int) (u:Bool) (r:Int × (List Int)) (h:HQ a0 a1 u=some r):B2 prog f169 [1,0,0,1,1,1,1,1] (.tup [.int .i64 r.1,.own 1501]) [(1501,⟨List.map AD r.2,some 1,0,.no⟩)] [] ⟨[(0,.rop (Agent.avs a0) 0),(1,.int .i64 a1),(29,.bool u)],[],[]⟩:=by
 unfold HQ at h
 refine Ae rfl rfl (Z ?_)
 refine AJ h (fun h=>Z ?_) (fun h=>Z ?_)
 ·refine AL ?_
  cases h
  exact Bv (.lt 0 2000000000 7000 2 1 .no [1] (k:=.done _)) [(1501,2000000000)] []
 ·refine AJ h (fun h=>Z ?_) (fun h=>Z ?_)
  ·cases h
   exact Bv (.dp 0 2000000000 (some 1) .no [1] (k:=.done _)) [(1501,2000000000)] []
  ·exact AF (k1 TD) h
theorem TF (a0:Agent) (a1:Int) (u:Bool) (r:Int × (List Int)) (h:HR a0 a1 u=some r):B2 prog f169 [1,0,0,1,1,1] (.tup [.int .i64 r.1,.own 1501]) [(1501,⟨List.map AD r.2,some 1,0,.no⟩)] [] ⟨[(0,.rop (Agent.avs a0) 0),(1,.int .i64 a1),(19,.bool u)],[],[]⟩:=by
 unfold HR at h
 refine Ae rfl rfl (Z ?_)
 refine AJ h (fun h=>Z ?_) (fun h=>Z ?_)
 ·cases h
  exact Bv (.dp 0 2000000000 (some 1) .no [1] (k:=.done _)) [(1501,2000000000)] []
 ·exact AF (k1 TE) h
theorem TG (a0:Agent) (a1:Int) (u:Bool) (r:Int × (List Int)) (h:HT a0 a1 u=some r):B2 prog f169 [1,0,0,1] (.tup [.int .i64 r.1,.own 1501]) [(1501,⟨List.map AD r.2,some 1,0,.no⟩)] [] ⟨[(0,.rop (Agent.avs a0) 0),(1,.int .i64 a1),(8,.bool u)],[],[]⟩:=by
 unfold HT at h
 refine Ae rfl rfl (Z ?_)
 refine AJ h (fun h=>Z ?_) (fun h=>Z ?_)
 ·refine AL ?_
  cases h
  exact Bv (.lt 0 2000000000 3000 1 1 .no [1] (k:=.done _)) [(1501,2000000000)] []
 ·exact AF (k1 TF) h
theorem Yc (a0 a1 r) (h:Ks a0 a1=some r):AG prog 169 [.rop (Agent.avs a0) 0,.int .i64 a1] [] [] (.tup [.int .i64 r.1,.own 1501]) [(1501,⟨List.map AD r.2,some 1,0,.no⟩)] [] :=by
 unfold Ks at h
 refine agF func169 mixed (h:=Z ?_)
 exact AF (k1 TG) h
theorem OA (a0 a1 r) (h:H1 a0 a1=some r):AG prog 171 [.ro (List.map (slD AD) a0),.int .i64 a1] [] [] (.ro (List.map (slD AD) r)) [] [] :=by
 unfold H1 at h
 refine agF func171 mixed (h:=Z ?_)
 replace h:=AB h; obtain⟨u,w,h⟩:=h
 refine Bu (SK (by intro x; exact rfl) _) (Z ?_)
 refine CM (dl w) (Z ?_)
 exact AF trivial h
theorem TH (n:Nat):(∀j p u r,E5 n j p u=some r→AR prog f252 [1,1,0,1,0] (.bool r) ⟨[(0,.ro (j.map AD)),(1,.ro (p.map AD)),(5,.int .i64 u)],[],[]⟩):=by
 induction n with
 |zero=>exact((fun _ _ _ _ h=>by rw [E5] at h; cases h))
 | succ n ih=>
  have q:=ih
  ·intro j p u r h
   rw [E5] at h
   exact AF (k1 q) h
theorem Yd (a0 a1 r) (h:I5 a0 a1=some r):AC prog 252 [.ro (a0.map AD),.ro (a1.map AD)] (.bool r):=by
 unfold I5 at h
 refine acF func252 mixed (h:=Z ?_)
 exact AF (k1 TH) h
theorem MG (n:Nat):(∀j p u r,Bs n j p u=some r→AR prog f220 [1,1,0,1,0] (.bool r) ⟨[(0,.ro (List.map (slD AD) j)),(1,.ro (List.map (slD AD) p)),(5,.int .i64 u)],[],[]⟩):=by
 induction n with
 |zero=>exact((fun _ _ _ _ h=>by rw [Bs] at h; cases h))
 | succ n ih=>
  have q:=ih
  ·intro j p u r h
   rw [Bs] at h
   exact AF (k2 Yd q) h
theorem Ox (a0 a1 r) (h:FL a0 a1=some r):AC prog 220 [.ro (List.map (slD AD) a0),.ro (List.map (slD AD) a1)] (.bool r):=by
 unfold FL at h
 refine acF func220 mixed (h:=Z ?_)
 exact AF (k1 MG) h
theorem Ju (n:Nat):(∀p j u w r,Aq n p j u w=some r→AR prog f170 [1,1,0,1,0] (.int .i64 r) ⟨[(1,.int .i64 p),(3,.ro (j.map L16Binder.ds)),(9,.ro (List.map (slD AD) u)),(10,.int .i64 w)],[],[]⟩)∧
    (∀p j w u y r,BJ n p j w u y=some r→AR prog f170 [1,1,0,1,0,0,1,0,0,1] (.int .i64 r) ⟨[(1,.int .i64 p),(3,.ro (j.map L16Binder.ds)),(9,.ro (List.map (slD AD) u)),(10,.int .i64 w),(46,.bool y)],[],[]⟩):=by
 induction n with
 |zero=>exact⟨(fun _ _ _ _ _ h=>by rw [Aq] at h; cases h),(fun _ _ _ _ _ _ h=>by rw [BJ] at h; cases h)⟩
 | succ n ih=>
  obtain⟨v,q⟩:=ih
  refine⟨?_,?_⟩
  ·intro p j u w r h
   rw [Aq] at h
   exact AF (k2 Ox q) h
  ·intro p j w u y r h
   rw [BJ] at h
   exact AF (k1 v) h
def KM (n:Nat):=(Ju n).1
theorem MH (a0 a1 a2 a3 r) (h:Dh a0 a1 a2 a3=some r):AC prog 170 [.rop (L16Walk.avs a0) 0,.int .i64 a1,.ro (List.map (slD AD) a2),.ro (a3.map L16Binder.ds)] (.int .i64 r):=by
 unfold Dh at h
 refine acF func170 mixed (h:=Z ?_)
 replace h:=AB h; obtain⟨u,w,h⟩:=h
 refine AS w (Agent.ds_len _) (Z ?_)
 replace h:=AB h; obtain⟨y,q,h⟩:=h
 refine DR (OA _ _ _ q) (by (first|rfl|(simp only [go_sem]; rfl))) (by first|rfl|(simp only [go_sem])) (Z ?_)
 exact AF (k1 KM) h
theorem J9 (a0 a1 a2 a3 r) (h:Ef a0 a1 a2 a3=some r):AG prog 172 [.box 1 0,.int .i64 a1,.int .i64 a2,.str a3] [(1001,⟨List.map AD a0.entered,some 1,0,.no⟩),(1002,⟨List.map AD a0.origins,some 1,0,.no⟩),(1003,⟨List.map BI a0.labels,some 1,0,.no⟩)] [(1,[.rop [.ro (a0.n.agents.map Agent.ds)] 0,.int .i64 a0.steps,.int .i64 a0.nodes,.own 1001,.own 1002,.own 1003,.int .i64 a0.code])] (.bool r.1) [(1501,⟨List.map AD r.2.entered,some 1,0,.no⟩),(1502,⟨List.map AD r.2.origins,some 1,0,.no⟩),(1503,⟨List.map BI r.2.labels,some 1,0,.no⟩)] [(1,[.rop [.ro (r.2.n.agents.map Agent.ds)] 0,.int .i64 r.2.steps,.int .i64 r.2.nodes,.own 1501,.own 1502,.own 1503,.int .i64 r.2.code])] :=by
 unfold Ef at h
 refine agF func172 mixed (h:=Z ?_)
 replace h:=AB h; obtain⟨u,w,h⟩:=h
 have v:=Ad w
 obtain⟨F,j⟩:=v
 refine Bp .no (Z ?_)
 refine CN (Z ?_)
 refine Hf AD j (Z ?_)
 refine AL ?_
 replace h:=AB h; obtain⟨y,q,h⟩:=h
 have v:=Ad q
 obtain⟨C,p⟩:=v
 refine Bp .no (Z ?_)
 refine CN (Z ?_)
 refine Hf BI p (Z ?_)
 exact AF trivial h
theorem Oy (n:Nat):(∀p a1 a2 C v r,B7 n p a1 a2 C v=some r→AG prog 117 [.box 1 0,.agg [.int .i64 a1.agent,.int .i64 a1.slot],.ro (List.map (slD AD) a2),.ro (C.map L16Binder.ds),.int .i64 v] [(1001,⟨List.map AD p.entered,some 1,0,.no⟩),(1002,⟨List.map AD p.origins,some 1,0,.no⟩),(1003,⟨List.map BI p.labels,some 1,0,.no⟩)] [(1,[.rop [.ro (p.n.agents.map Agent.ds)] 0,.int .i64 p.steps,.int .i64 p.nodes,.own 1001,.own 1002,.own 1003,.int .i64 p.code])] (.agg [.int .i64 r.1.kind,.int .i64 r.1.value,.own 1501,.own 1502]) [(1501,⟨List.map AD r.1.data,some 1,0,.no⟩),(1502,⟨List.map Core.ds r.1.kids,some 4,0,.no⟩),(1503,⟨List.map AD r.2.entered,some 1,0,.no⟩),(1504,⟨List.map AD r.2.origins,some 1,0,.no⟩),(1505,⟨List.map BI r.2.labels,some 1,0,.no⟩)] [(1,[.rop [.ro (r.2.n.agents.map Agent.ds)] 0,.int .i64 r.2.steps,.int .i64 r.2.nodes,.own 1503,.own 1504,.own 1505,.int .i64 r.2.code])])∧
    (∀p C v u w y q g j r,A9 n p C v u w y q g j=some r→B2 prog f117 [1,1,0,0] (.agg [.int .i64 r.1.kind,.int .i64 r.1.value,.own 1501,.own 1502]) [(1501,⟨List.map AD r.1.data,some 1,0,.no⟩),(1502,⟨List.map Core.ds r.1.kids,some 4,0,.no⟩),(1503,⟨List.map AD r.2.entered,some 1,0,.no⟩),(1504,⟨List.map AD r.2.origins,some 1,0,.no⟩),(1505,⟨List.map BI r.2.labels,some 1,0,.no⟩)] [(1,[.rop [.ro (r.2.n.agents.map Agent.ds)] 0,.int .i64 r.2.steps,.int .i64 r.2.nodes,.own 1503,.own 1504,.own 1505,.int .i64 r.2.code])] ⟨[(0,.box 1 0),(2,.ro (List.map (slD AD) y)),(3,.ro (C.map L16Binder.ds)),(4,.int .i64 v),(6,.box 1000004500 0),(10,.box 1000004501 0),(11,.str j)],[(1000004000,some ⟨List.map AD w,some 1,0,.no⟩),(1000004001,some ⟨List.map AD p.origins,some 1,0,.no⟩),(1000004002,some ⟨List.map BI p.labels,some 1,0,.no⟩)],[(1,some [.rop [.ro (p.n.agents.map Agent.ds)] 0,.int .i64 u,.int .i64 p.nodes,.own 1000004000,.own 1000004001,.own 1000004002,.int .i64 p.code]),(1000004500,some [.int .i64 q,.int .i64 g]),(1000004501,some [.int .i64 0,.int .i64 0,.nils,.nils])]⟩)∧
    (∀p C v u w y q g k b d r,BX n p C v u w y q g k b d=some r→B2 prog f117 [1,1,0,0,0,0,1,1,1,1,1,0,1] (.agg [.int .i64 r.1.kind,.int .i64 r.1.value,.own 1501,.own 1502]) [(1501,⟨List.map AD r.1.data,some 1,0,.no⟩),(1502,⟨List.map Core.ds r.1.kids,some 4,0,.no⟩),(1503,⟨List.map AD r.2.entered,some 1,0,.no⟩),(1504,⟨List.map AD r.2.origins,some 1,0,.no⟩),(1505,⟨List.map BI r.2.labels,some 1,0,.no⟩)] [(1,[.rop [.ro (r.2.n.agents.map Agent.ds)] 0,.int .i64 r.2.steps,.int .i64 r.2.nodes,.own 1503,.own 1504,.own 1505,.int .i64 r.2.code])] ⟨[(0,.box 1 0),(2,.ro (List.map (slD AD) y)),(3,.ro (C.map L16Binder.ds)),(4,.int .i64 v),(6,.box 1000005500 0),(10,.box 1000005501 0),(11,.str k),(12,.rop (Agent.avs b) 0),(63,.bool d)],[(1000005000,some ⟨List.map AD w,some 1,0,.no⟩),(1000005001,some ⟨List.map AD p.origins,some 1,0,.no⟩),(1000005002,some ⟨List.map BI p.labels,some 1,0,.no⟩)],[(1,some [.rop [.ro (p.n.agents.map Agent.ds)] 0,.int .i64 (IntKind.i64.wrap (u+1)),.int .i64 p.nodes,.own 1000005000,.own 1000005001,.own 1000005002,.int .i64 p.code]),(1000005500,some [.int .i64 q,.int .i64 g]),(1000005501,some [.int .i64 0,.int .i64 0,.nils,.nils])]⟩)∧
    (∀p C v u y q g k b c r,Ay n p C v u y q g k b c=some r→B2 prog f117 [1,1,0,0,0,0,1,1,1,1,1,1] (.agg [.int .i64 r.1.kind,.int .i64 r.1.value,.own 1501,.own 1502]) [(1501,⟨List.map AD r.1.data,some 1,0,.no⟩),(1502,⟨List.map Core.ds r.1.kids,some 4,0,.no⟩),(1503,⟨List.map AD r.2.entered,some 1,0,.no⟩),(1504,⟨List.map AD r.2.origins,some 1,0,.no⟩),(1505,⟨List.map BI r.2.labels,some 1,0,.no⟩)] [(1,[.rop [.ro (r.2.n.agents.map Agent.ds)] 0,.int .i64 r.2.steps,.int .i64 r.2.nodes,.own 1503,.own 1504,.own 1505,.int .i64 r.2.code])] ⟨[(0,.box 1 0),(2,.ro (List.map (slD AD) y)),(3,.ro (C.map L16Binder.ds)),(4,.int .i64 v),(6,.box 1000006500 0),(10,.box 1000006501 0),(11,.str k),(12,.rop (Agent.avs b) 0)],[(1000006000,some ⟨List.map AD c,some 1,0,.no⟩),(1000006001,some ⟨List.map AD p.origins,some 1,0,.no⟩),(1000006002,some ⟨List.map BI p.labels,some 1,0,.no⟩)],[(1,some [.rop [.ro (p.n.agents.map Agent.ds)] 0,.int .i64 (IntKind.i64.wrap (u+1)),.int .i64 p.nodes,.own 1000006000,.own 1000006001,.own 1000006002,.int .i64 p.code]),(1000006500,some [.int .i64 q,.int .i64 g]),(1000006501,some [.int .i64 0,.int .i64 0,.nils,.nils])]⟩)∧
    (∀p v u y q g c k e i l t s r,Ai n p v u y q g c k e i l t s=some r→B2 prog f117 [1,1,1,1,1,1,1,1] (.agg [.int .i64 r.1.kind,.int .i64 r.1.value,.own 1501,.own 1502]) [(1501,⟨List.map AD r.1.data,some 1,0,.no⟩),(1502,⟨List.map Core.ds r.1.kids,some 4,0,.no⟩),(1503,⟨List.map AD r.2.entered,some 1,0,.no⟩),(1504,⟨List.map AD r.2.origins,some 1,0,.no⟩),(1505,⟨List.map BI r.2.labels,some 1,0,.no⟩)] [(1,[.rop [.ro (r.2.n.agents.map Agent.ds)] 0,.int .i64 r.2.steps,.int .i64 r.2.nodes,.own 1503,.own 1504,.own 1505,.int .i64 r.2.code])] ⟨[(0,.box 1 0),(2,.ro (List.map (slD AD) y)),(3,.ro (l.map L16Binder.ds)),(4,.int .i64 v),(6,.box 1000009500 0),(10,.box 1000009501 0),(11,.str k),(15,.rop (Agent.avs e) 0),(17,.own 1000009003),(18,.box 1000009502 0)],[(1000009000,some ⟨List.map AD c,some 1,0,.no⟩),(1000009001,some ⟨List.map AD p.origins,some 1,0,.no⟩),(1000009002,some ⟨List.map BI p.labels,some 1,0,.no⟩),(1000009003,some ⟨List.map AD i.2,some 1,0,.no⟩),(1000009004,some ⟨List.map AD s,some 1,0,.no⟩)],[(1,some [.rop [.ro (p.n.agents.map Agent.ds)] 0,.int .i64 (IntKind.i64.wrap (u+1)),.int .i64 p.nodes,.own 1000009000,.own 1000009001,.own 1000009002,.int .i64 p.code]),(1000009500,some [.int .i64 q,.int .i64 g]),(1000009501,some [.int .i64 0,.int .i64 0,.nils,.nils]),(1000009502,some [.int .i64 i.1,.int .i64 t,.own 1000009004,.nils])]⟩)∧
    (∀v y l t s e i o (z:Int) u1 u2 u3 u4 u5 u6 r,Bt n v y l t s e i o z u1 u2 u3 u4 u5 u6=some r→B2 prog f117 [1,1,1,1,1,1,1,1,1,1] (.agg [.int .i64 r.1.kind,.int .i64 r.1.value,.own 1501,.own 1502]) [(1501,⟨List.map AD r.1.data,some 1,0,.no⟩),(1502,⟨List.map Core.ds r.1.kids,some 4,0,.no⟩),(1503,⟨List.map AD r.2.entered,some 1,0,.no⟩),(1504,⟨List.map AD r.2.origins,some 1,0,.no⟩),(1505,⟨List.map BI r.2.labels,some 1,0,.no⟩)] [(1,[.rop [.ro (r.2.n.agents.map Agent.ds)] 0,.int .i64 r.2.steps,.int .i64 r.2.nodes,.own 1503,.own 1504,.own 1505,.int .i64 r.2.code])] ⟨[(0,.box 1 0),(2,.ro (List.map (slD AD) y)),(3,.ro (l.map L16Binder.ds)),(4,.int .i64 v),(10,.box 1000011500 0),(15,.rop (Agent.avs e) 0),(17,.own 1000011003),(18,.box 1000011501 0)],[(1000011000,some ⟨List.map AD u2,some 1,0,.no⟩),(1000011001,some ⟨List.map AD u3,some 1,0,.no⟩),(1000011002,some ⟨List.map BI u4,some 1,0,.no⟩),(1000011003,some ⟨List.map AD i.2,some 1,0,.no⟩),(1000011004,some ⟨List.map AD s,some 1,0,.no⟩),(1000011005,some ⟨List.map Core.ds u6,some 4,0,.no⟩)],[(1,some [.rop [.ro (o.map Agent.ds)] 0,.int .i64 z,.int .i64 u1,.own 1000011000,.own 1000011001,.own 1000011002,.int .i64 u5]),(1000011500,some [.int .i64 0,.int .i64 0,.nils,.nils]),(1000011501,some [.int .i64 i.1,.int .i64 t,.own 1000011004,.own 1000011005])]⟩)∧
    (∀v y l t s e i u7 u8 u9 u10 u11 u12 u13 u14 u15 r,Ao n v y l t s e i u7 u8 u9 u10 u11 u12 u13 u14 u15=some r→B2 prog f117 [1,1,1,1,1,1,1,1,1,1,0,1,0] (.agg [.int .i64 r.1.kind,.int .i64 r.1.value,.own 1501,.own 1502]) [(1501,⟨List.map AD r.1.data,some 1,0,.no⟩),(1502,⟨List.map Core.ds r.1.kids,some 4,0,.no⟩),(1503,⟨List.map AD r.2.entered,some 1,0,.no⟩),(1504,⟨List.map AD r.2.origins,some 1,0,.no⟩),(1505,⟨List.map BI r.2.labels,some 1,0,.no⟩)] [(1,[.rop [.ro (r.2.n.agents.map Agent.ds)] 0,.int .i64 r.2.steps,.int .i64 r.2.nodes,.own 1503,.own 1504,.own 1505,.int .i64 r.2.code])] ⟨[(0,.box 1 0),(2,.ro (List.map (slD AD) y)),(3,.ro (l.map L16Binder.ds)),(4,.int .i64 v),(10,.box 1000013500 0),(15,.rop (Agent.avs e) 0),(17,.own 1000013003),(18,.box 1000013501 0),(19,.int .i64 u15)],[(1000013000,some ⟨List.map AD u10,some 1,0,.no⟩),(1000013001,some ⟨List.map AD u11,some 1,0,.no⟩),(1000013002,some ⟨List.map BI u12,some 1,0,.no⟩),(1000013003,some ⟨List.map AD i.2,some 1,0,.no⟩),(1000013004,some ⟨List.map AD s,some 1,0,.no⟩),(1000013005,some ⟨List.map Core.ds u14,some 4,0,.no⟩)],[(1,some [.rop [.ro (u7.map Agent.ds)] 0,.int .i64 u8,.int .i64 u9,.own 1000013000,.own 1000013001,.own 1000013002,.int .i64 u13]),(1000013500,some [.int .i64 0,.int .i64 0,.nils,.nils]),(1000013501,some [.int .i64 i.1,.int .i64 t,.own 1000013004,.own 1000013005])]⟩)∧
    (∀p C v u y q g c k e i u16 r,AO n p C v u y q g c k e i u16=some r→B2 prog f117 [1,1,1,1,1,1,1,0,1,0,1,1,1] (.agg [.int .i64 r.1.kind,.int .i64 r.1.value,.own 1501,.own 1502]) [(1501,⟨List.map AD r.1.data,some 1,0,.no⟩),(1502,⟨List.map Core.ds r.1.kids,some 4,0,.no⟩),(1503,⟨List.map AD r.2.entered,some 1,0,.no⟩),(1504,⟨List.map AD r.2.origins,some 1,0,.no⟩),(1505,⟨List.map BI r.2.labels,some 1,0,.no⟩)] [(1,[.rop [.ro (r.2.n.agents.map Agent.ds)] 0,.int .i64 r.2.steps,.int .i64 r.2.nodes,.own 1503,.own 1504,.own 1505,.int .i64 r.2.code])] ⟨[(0,.box 1 0),(2,.ro (List.map (slD AD) y)),(3,.ro (C.map L16Binder.ds)),(4,.int .i64 v),(6,.box 1000007500 0),(10,.box 1000007501 0),(11,.str k),(15,.rop (Agent.avs e) 0),(17,.own 1000007003),(18,.box 1000007502 0),(161,.int .i64 i.1),(176,.bool u16)],[(1000007000,some ⟨List.map AD c,some 1,0,.no⟩),(1000007001,some ⟨List.map AD p.origins,some 1,0,.no⟩),(1000007002,some ⟨List.map BI p.labels,some 1,0,.no⟩),(1000007003,some ⟨List.map AD i.2,some 1,0,.no⟩)],[(1,some [.rop [.ro (p.n.agents.map Agent.ds)] 0,.int .i64 (IntKind.i64.wrap (u+1)),.int .i64 p.nodes,.own 1000007000,.own 1000007001,.own 1000007002,.int .i64 p.code]),(1000007500,some [.int .i64 q,.int .i64 g]),(1000007501,some [.int .i64 0,.int .i64 0,.nils,.nils]),(1000007502,some [.int .i64 i.1,.int .i64 0,.nils,.nils])]⟩)∧
    (∀p C v u y q g c k e i u17 r,BA n p C v u y q g c k e i u17=some r→B2 prog f117 [1,1,1,1,1,1,1,0,1,0,1,1,1,1,1] (.agg [.int .i64 r.1.kind,.int .i64 r.1.value,.own 1501,.own 1502]) [(1501,⟨List.map AD r.1.data,some 1,0,.no⟩),(1502,⟨List.map Core.ds r.1.kids,some 4,0,.no⟩),(1503,⟨List.map AD r.2.entered,some 1,0,.no⟩),(1504,⟨List.map AD r.2.origins,some 1,0,.no⟩),(1505,⟨List.map BI r.2.labels,some 1,0,.no⟩)] [(1,[.rop [.ro (r.2.n.agents.map Agent.ds)] 0,.int .i64 r.2.steps,.int .i64 r.2.nodes,.own 1503,.own 1504,.own 1505,.int .i64 r.2.code])] ⟨[(0,.box 1 0),(2,.ro (List.map (slD AD) y)),(3,.ro (C.map L16Binder.ds)),(4,.int .i64 v),(6,.box 1000008500 0),(10,.box 1000008501 0),(11,.str k),(15,.rop (Agent.avs e) 0),(17,.own 1000008003),(18,.box 1000008502 0),(161,.int .i64 i.1),(186,.bool u17)],[(1000008000,some ⟨List.map AD c,some 1,0,.no⟩),(1000008001,some ⟨List.map AD p.origins,some 1,0,.no⟩),(1000008002,some ⟨List.map BI p.labels,some 1,0,.no⟩),(1000008003,some ⟨List.map AD i.2,some 1,0,.no⟩)],[(1,some [.rop [.ro (p.n.agents.map Agent.ds)] 0,.int .i64 (IntKind.i64.wrap (u+1)),.int .i64 p.nodes,.own 1000008000,.own 1000008001,.own 1000008002,.int .i64 p.code]),(1000008500,some [.int .i64 q,.int .i64 g]),(1000008501,some [.int .i64 0,.int .i64 0,.nils,.nils]),(1000008502,some [.int .i64 i.1,.int .i64 0,.nils,.nils])]⟩)∧
    (∀p C v u q g c k b u18 r,Di n p C v u q g c k b u18=some r→B2 prog f117 [1,1,0,0,0,0,1,1,1,1,1,1,1,1,0,1,0,1] (.agg [.int .i64 r.1.kind,.int .i64 r.1.value,.own 1501,.own 1502]) [(1501,⟨List.map AD r.1.data,some 1,0,.no⟩),(1502,⟨List.map Core.ds r.1.kids,some 4,0,.no⟩),(1503,⟨List.map AD r.2.entered,some 1,0,.no⟩),(1504,⟨List.map AD r.2.origins,some 1,0,.no⟩),(1505,⟨List.map BI r.2.labels,some 1,0,.no⟩)] [(1,[.rop [.ro (r.2.n.agents.map Agent.ds)] 0,.int .i64 r.2.steps,.int .i64 r.2.nodes,.own 1503,.own 1504,.own 1505,.int .i64 r.2.code])] ⟨[(0,.box 1 0),(2,.ro (List.map (slD AD) u18)),(3,.ro (C.map L16Binder.ds)),(4,.int .i64 v),(6,.box 1000010500 0),(10,.box 1000010501 0),(11,.str k),(12,.rop (Agent.avs b) 0)],[(1000010000,some ⟨List.map AD c,some 1,0,.no⟩),(1000010001,some ⟨List.map AD p.origins,some 1,0,.no⟩),(1000010002,some ⟨List.map BI p.labels,some 1,0,.no⟩)],[(1,some [.rop [.ro (p.n.agents.map Agent.ds)] 0,.int .i64 (IntKind.i64.wrap (u+1)),.int .i64 p.nodes,.own 1000010000,.own 1000010001,.own 1000010002,.int .i64 p.code]),(1000010500,some [.int .i64 q,.int .i64 g]),(1000010501,some [.int .i64 0,.int .i64 0,.nils,.nils])]⟩):=by
 induction n with
 |zero=>exact⟨(fun _ _ _ _ _ _ h=>by rw [B7] at h; cases h),(fun _ _ _ _ _ _ _ _ _ _ h=>by rw [A9] at h; cases h),(fun _ _ _ _ _ _ _ _ _ _ _ _ h=>by rw [BX] at h; cases h),(fun _ _ _ _ _ _ _ _ _ _ _ h=>by rw [Ay] at h; cases h),(fun _ _ _ _ _ _ _ _ _ _ _ _ _ _ h=>by rw [Ai] at h; cases h),(fun _ _ _ _ _ _ _ _ _ _ _ _ _ _ _ _ h=>by rw [Bt] at h; cases h),(fun _ _ _ _ _ _ _ _ _ _ _ _ _ _ _ _ _ h=>by rw [Ao] at h; cases h),(fun _ _ _ _ _ _ _ _ _ _ _ _ _ h=>by rw [AO] at h; cases h),(fun _ _ _ _ _ _ _ _ _ _ _ _ _ h=>by rw [BA] at h; cases h),(fun _ _ _ _ _ _ _ _ _ _ _ h=>by rw [Di] at h; cases h)⟩
 | succ n ih=>
  obtain⟨ih0,ih1,ih2,ih3,ih4,ih5,ih6,ih7,ih8,ih9⟩:=ih
  refine⟨?_,?_,?_,?_,?_,?_,?_,?_,?_,?_⟩
  ·intro p a1 a2 C v r h
   rw [B7] at h
   refine agF func117 mixed (h:=Z ?_)
   refine AL ?_
   exact bt (ih1 p C v p.steps p.entered a2 a1.agent a1.slot (ByteArray.mk #[]) _ h)
  ·intro p C v u w y q g j r h
   rw [A9] at h
   refine Ae rfl rfl (Z ?_)
   refine A5 (Z ?_)
   refine AJ h (fun h=>Z ?_) (fun h=>Z ?_)
   ·cases h
    exact Bv (.dp 0 2000000000 (some 1) .no [2] (k:=.dp 0 2000000001 (some 4) .no [3] (k:=.done _))) ((1501,2000000000)::(1502,2000000001)::r3 1503 1000004000 []) [(1,1)]
   ·refine AL ?_
    replace h:=AB h; obtain⟨u19,u20,h⟩:=h
    refine AK (WD _ _ u20) (Z ?_)
    replace h:=AB h; obtain⟨k,u21,h⟩:=h
    have F:=FP u21
    obtain⟨hv5003a,hv5003b⟩:=F
    refine Bu hv5003a ?_
    rw [hv5003b]
    try simp only [go_sem]
    refine AL ?_
    refine AJ h (fun h=>Z ?_) (fun h=>Z ?_)
    ·replace h:=AB h; obtain⟨u22,u23,h⟩:=h
     refine caG ⟨[],(r3 1001 1000004000 []),[(1,1,0)],(r5 1501 128016 []),[],true⟩ (Cq _ _ _ u23) (Z ?_)
     exact AF trivial h
    ·exact AF (k1 ih2) h
  ·intro p C v u w y q g k b d r h
   rw [BX] at h
   refine Ae rfl rfl (Z ?_)
   refine AJ h (fun h=>Z ?_) (fun h=>Z ?_)
   ·refine AY [false,false,false,false,false,false,false,false,true,true,true,true] (Tr.sq [8,9,10,11] .fin) (by kernel_rfl) (Z ?_)
    replace h:=AB h; obtain⟨u25,u26,h⟩:=h
    have F:=Ad u26
    obtain⟨hv11008a,U⟩:=F
    refine Bp .no (Z ?_)
    refine CN (Z ?_)
    refine Hf AD U (Z ?_)
    exact AF (k1 ih3) h
   ·exact AF (k1 ih3) h
  ·intro p C v u y q g k b c r h
   rw [Ay] at h
   refine Ae rfl rfl (Z ?_)
   refine AJ h (fun h=>Z ?_) (fun h=>Z ?_)
   ·refine AL ?_
    refine AY [] .fin (by kernel_rfl) (Z ?_)
    replace h:=AB h; obtain⟨e,u27,h⟩:=h
    refine AS u27 (Agent.ds_len _) (Z ?_)
    refine AL ?_
    replace h:=AB h; obtain⟨i,u28,h⟩:=h
    refine caG ⟨[],[],[],[(1501,368048)],[],true⟩ (Yc _ _ _ u28) (Z ?_)
    refine AL ?_
    refine AJ h (fun h=>Z ?_) (fun h=>Z ?_)
    ·replace h:=AB h; obtain⟨u29,u30,h⟩:=h
     refine caG ⟨[],(r3 1001 1000006000 []),[(1,1,0)],(r5 1501 400016 []),[],true⟩ (Cq _ _ _ u30) (Z ?_)
     exact AF trivial h
    ·refine AL ?_
     refine AL ?_
     refine AJ h (fun h=>Z ?_) (fun h=>Z ?_)
     ·replace h:=AB h; obtain⟨u31,u32,h⟩:=h
      refine AK (MH _ _ _ _ _ u32) (Z ?_)
      refine AL ?_
      refine AJ h (fun h=>Z ?_) (fun h=>Z ?_)
      ·replace h:=AB h; obtain⟨u33,u34,h⟩:=h
       refine caG ⟨[],(r3 1001 1000006000 []),[(1,1,0)],(r5 1501 496016 []),[],true⟩ (Cq _ _ _ u34) (Z ?_)
       exact AF trivial h
      ·refine KD (Ds rfl rfl (ih4 p v u y q g c k e i C u31 [] _ h):) (.one ⟨_,.ce 26002 2 2000000000 (some 1) .no (k:=.done _),(r3 1000009000 1000006000 [(1000009003,368048),(1000009004,2000000000)]),[(1,1),(1000009500,1000006500),(1000009501,1000006501),(1000009502,26002)],?_⟩)
       simp only [go_sem]
       all_goals try rfl
     ·exact AF (k1 ih7) h
   ·refine AL ?_
    replace h:=AB h; obtain⟨u35,u36,h⟩:=h
    refine AS u36 rfl (Z ?_)
    refine AJ h (fun h=>Z ?_) (fun h=>Z ?_)
    ·replace h:=AB h; obtain⟨u37,u38,h⟩:=h
     replace h:=AB h; obtain⟨u39,u40,h⟩:=h
     replace h:=AB h; obtain⟨u18,u41,h⟩:=h
     refine AY [false,false,true,true,true,false,true,false,true,true,true,true,true] (.br 2 (Tr.sq [3] (.br 4 (.br 6 (Tr.sq [8,9,10] (.fz (Tr.sq [11,12] .fin))) (.br 8 (.br 6 (Tr.sq [9,10] (.fz (Tr.sq [11,12] .fin))) (.br 9 (Tr.sq [6,10] (.fz (Tr.sq [11,12] .fin))) .stop)) .stop)) (.br 6 (.br 4 (Tr.sq [8,9,10] (.fz (Tr.sq [11,12] .fin))) (.br 8 (.br 4 (Tr.sq [9,10] (.fz (Tr.sq [11,12] .fin))) (.br 9 (.br 4 (Tr.sq [10] (.fz (Tr.sq [11,12] .fin))) (.br 10 (Tr.sq [4] (.fz (Tr.sq [11,12] .fin))) .stop)) .stop)) .stop)) (.br 8 (.br 4 (.br 6 (Tr.sq [9,10] (.fz (Tr.sq [11,12] .fin))) (.br 9 (Tr.sq [6,10] (.fz (Tr.sq [11,12] .fin))) .stop)) (.br 6 (.br 4 (Tr.sq [9,10] (.fz (Tr.sq [11,12] .fin))) (.br 9 (.br 4 (Tr.sq [10] (.fz (Tr.sq [11,12] .fin))) (.br 10 (Tr.sq [4] (.fz (Tr.sq [11,12] .fin))) .stop)) .stop)) (.br 9 (.br 4 (Tr.sq [6,10] (.fz (Tr.sq [11,12] .fin))) (.br 6 (.br 4 (Tr.sq [10] (.fz (Tr.sq [11,12] .fin))) (.br 10 (Tr.sq [4] (.fz (Tr.sq [11,12] .fin))) .stop)) .stop)) .stop))) .stop)))) (.br 6 (.br 2 (Tr.sq [3] (.br 4 (Tr.sq [8,9,10] (.fz (Tr.sq [11,12] .fin))) (.br 8 (.br 4 (Tr.sq [9,10] (.fz (Tr.sq [11,12] .fin))) (.br 9 (.br 4 (Tr.sq [10] (.fz (Tr.sq [11,12] .fin))) (.br 10 (Tr.sq [4] (.fz (Tr.sq [11,12] .fin))) .stop)) .stop)) .stop))) (.br 8 (.br 2 (Tr.sq [3] (.br 4 (Tr.sq [9,10] (.fz (Tr.sq [11,12] .fin))) (.br 9 (.br 4 (Tr.sq [10] (.fz (Tr.sq [11,12] .fin))) (.br 10 (Tr.sq [4] (.fz (Tr.sq [11,12] .fin))) .stop)) .stop))) (.br 9 (.br 2 (Tr.sq [3] (.br 4 (Tr.sq [10] (.fz (Tr.sq [11,12] .fin))) (.br 10 (Tr.sq [4] (.fz (Tr.sq [11,12] .fin))) .stop))) (.br 10 (Tr.sq [2,3,4] (.fz (Tr.sq [11,12] .fin))) .stop)) .stop)) .stop)) (.br 8 (.br 2 (Tr.sq [3] (.br 4 (.br 6 (Tr.sq [9,10] (.fz (Tr.sq [11,12] .fin))) (.br 9 (Tr.sq [6,10] (.fz (Tr.sq [11,12] .fin))) .stop)) (.br 6 (.br 4 (Tr.sq [9,10] (.fz (Tr.sq [11,12] .fin))) (.br 9 (.br 4 (Tr.sq [10] (.fz (Tr.sq [11,12] .fin))) (.br 10 (Tr.sq [4] (.fz (Tr.sq [11,12] .fin))) .stop)) .stop)) (.br 9 (.br 4 (Tr.sq [6,10] (.fz (Tr.sq [11,12] .fin))) (.br 6 (.br 4 (Tr.sq [10] (.fz (Tr.sq [11,12] .fin))) (.br 10 (Tr.sq [4] (.fz (Tr.sq [11,12] .fin))) .stop)) .stop)) .stop)))) (.br 6 (.br 2 (Tr.sq [3] (.br 4 (Tr.sq [9,10] (.fz (Tr.sq [11,12] .fin))) (.br 9 (.br 4 (Tr.sq [10] (.fz (Tr.sq [11,12] .fin))) (.br 10 (Tr.sq [4] (.fz (Tr.sq [11,12] .fin))) .stop)) .stop))) (.br 9 (.br 2 (Tr.sq [3] (.br 4 (Tr.sq [10] (.fz (Tr.sq [11,12] .fin))) (.br 10 (Tr.sq [4] (.fz (Tr.sq [11,12] .fin))) .stop))) (.br 10 (Tr.sq [2,3,4] (.fz (Tr.sq [11,12] .fin))) .stop)) .stop)) (.br 9 (.br 2 (Tr.sq [3] (.br 4 (Tr.sq [6,10] (.fz (Tr.sq [11,12] .fin))) (.br 6 (.br 4 (Tr.sq [10] (.fz (Tr.sq [11,12] .fin))) (.br 10 (Tr.sq [4] (.fz (Tr.sq [11,12] .fin))) .stop)) .stop))) (.br 6 (.br 2 (Tr.sq [3] (.br 4 (Tr.sq [10] (.fz (Tr.sq [11,12] .fin))) (.br 10 (Tr.sq [4] (.fz (Tr.sq [11,12] .fin))) .stop))) (.br 10 (Tr.sq [2,3,4] (.fz (Tr.sq [11,12] .fin))) .stop)) .stop)) .stop))) .stop))) (by kernel_rfl) ?_
     try simp only [go_sem]
     repeat' first|((with_reducible show iQ _ _ _ _); refine iR (Z ?_) (Z ?_))|((with_reducible show Md _ _ _ _ _ _ _ _ _ _ _); refine AK (IX _ _ u38) (Z ?_))
     all_goals
      have F:=Ad u40
      obtain⟨hv15010a,hv15010b⟩:=F
      refine Bp .no (Z ?_)
      refine CN (Z ?_)
      refine Hf AD hv15010b (Z ?_)
      refine iS (.fT 240160 [(100,[])] [] (k:=.done _)) (Z ?_)
      all_goals try rfl
      refine DR (Sf _ _ _ _ u41) (by (first|rfl|(simp only [go_sem]; rfl))) (by first|rfl|(simp only [go_sem])) (Z ?_)
      exact AF (k1 ih9) h
    ·refine AL ?_
     refine AJ h (fun h=>Z ?_) (fun h=>Z ?_)
     ·replace h:=AB h; obtain⟨u42,u43,h⟩:=h
      refine caG ⟨[],(r3 1001 1000006000 []),[(1,1,0)],(r5 1501 288016 []),[],true⟩ (Cq _ _ _ u43) (Z ?_)
      exact AF trivial h
     ·refine AL ?_
      replace h:=AB h; obtain⟨u44,u45,h⟩:=h
      refine AS u45 rfl (Z ?_)
      refine AY [false,false,false,false,false,false,false,false,false,false,false,true,true] (.fz (Tr.sq [11,12] .fin)) (by kernel_rfl) (Z ?_)
      replace h:=AB h; obtain⟨u46,u47,h⟩:=h
      refine Bu (SK (by intro x; exact rfl) _) (Z ?_)
      refine CM (dl u47) (Z ?_)
      replace h:=AB h; obtain⟨u48,u49,h⟩:=h
      refine AK (IX _ _ u49) (Z ?_)
      refine iS (.fT 320160 [(129,[])] [] (k:=.done _)) (Z ?_)
      all_goals try rfl
      replace h:=AB h; obtain⟨u50,u51,h⟩:=h
      refine DR (Sf _ _ _ _ u51) (by (first|rfl|(simp only [go_sem]; rfl))) (by first|rfl|(simp only [go_sem])) (Z ?_)
      exact AF (k1 ih1) h
  ·intro p v u y q g c k e i l t s r h
   rw [Ai] at h
   refine Ae rfl rfl (Z ?_)
   replace h:=AB h; obtain⟨G,u55,h⟩:=h
   refine caG ⟨[],(r3 1001 1000009000 []),[(1,1,0)],(r3 1501 672080 []),[],true⟩ (J9 _ _ _ _ _ u55) (Z ?_)
   refine AL ?_
   refine AJ h (fun h=>Z ?_) (fun h=>Z ?_)
   ·replace h:=AB h; obtain⟨u56,u57,h⟩:=h
    refine caG ⟨[],(r3 1001 672080 []),[(1,1,0)],(r5 1501 688016 []),[],true⟩ (Cq _ _ _ u57) (Z ?_)
    exact AF trivial h
   ·refine AL ?_
    refine AJ h (fun h=>Z ?_) (fun h=>Z ?_)
    ·replace h:=AB h; obtain⟨u58,u59,h⟩:=h
     refine AK (Ls _ _ u59) (Z ?_)
     replace h:=AB h; obtain⟨u60,u61,h⟩:=h
     have F:=FP u61
     obtain⟨W,hv45006b⟩:=F
     refine Bu W ?_
     rw [hv45006b]
     try simp only [go_sem]
     replace h:=AB h; obtain⟨u62,u63,h⟩:=h
     refine caG ⟨[],(r3 1001 672080 []),[(1,1,0)],(r3 1501 720112 []),[],true⟩ (J9 _ _ _ _ _ u63) (Z ?_)
     refine AL ?_
     refine AJ h (fun h=>Z ?_) (fun h=>Z ?_)
     ·replace h:=AB h; obtain⟨u64,u65,h⟩:=h
      refine caG ⟨[],(r3 1001 720112 []),[(1,1,0)],(r5 1501 736016 []),[],true⟩ (Cq _ _ _ u65) (Z ?_)
      exact AF trivial h
     ·refine AL ?_
      refine AY [false,false,false,false,false,false,false,false,false,false,true,true,true] (Tr.sq [10,11,12] .fin) (by kernel_rfl) (Z ?_)
      replace h:=AB h; obtain⟨u66,u67,h⟩:=h
      refine AS u67 rfl (Z ?_)
      replace h:=AB h; obtain⟨u68,u69,h⟩:=h
      refine DR (XO _ _ u69) (by (first|rfl|(simp only [go_sem]; rfl))) (by first|rfl|(simp only [go_sem])) (Z ?_)
      replace h:=AB h; obtain⟨u70,u71,h⟩:=h
      have F:=Ad u71
      obtain⟨hv47010a,I⟩:=F
      refine Bp .no (Z ?_)
      refine CN (Z ?_)
      refine A4 (u70.map Core.ds) (by rw [← I]; simp only [List.map_append,List.map_cons,List.map_nil,List.nil_append,List.append_nil,go_sem,Core.ds_eq]) (Z ?_)
      exact AF (k1 ih5) h
    ·refine KD (Ds rfl rfl (ih5 v y l t s e i G.2.n.agents G.2.steps G.2.nodes G.2.entered G.2.origins G.2.labels G.2.code [] _ h):) (.one ⟨_,.ce 1000009502 3 2000000000 (some 4) .no (k:=.done _),(r3 1000011000 672080 [(1000011003,1000009003),(1000011004,1000009004),(1000011005,2000000000)]),[(1,1),(1000011500,1000009501),(1000011501,1000009502)],?_⟩)
     simp only [go_sem]
     all_goals try rfl
  ·intro v y l t s e i o z u1 u2 u3 u4 u5 u6 r h
   rw [Bt] at h
   exact AF (k1 ih6) h
  ·intro v y l t s e i u7 u8 u9 u10 u11 u12 u13 u14 u15 r h
   rw [Ao] at h
   refine Ae rfl rfl (Z ?_)
   refine A5 (Z ?_)
   refine AJ h (fun h=>Z ?_) (fun h=>Z ?_)
   ·refine AL ?_
    replace h:=AB h; obtain⟨u72,u73,h⟩:=h
    replace h:=AB h; obtain⟨u74,u75,h⟩:=h
    replace h:=AB h; obtain⟨u76,u77,h⟩:=h
    replace h:=AB h; obtain⟨u78,u79,h⟩:=h
    refine AY [false,true,false,false,true,true,true,false,false,false,true,true,true,false,false,false,false,true,true,true,true,true] (.br 1 (.br 4 (Tr.sq [5] (.br 6 (Tr.sq [10,11,12,17,18,19,20,21] .fin) (.br 10 (Tr.sq [6,11,12,17,18,19,20,21] .fin) .stop))) (.br 10 (Tr.sq [4,5,6,11,12,17,18,19,20,21] .fin) .stop)) (.br 4 (Tr.sq [5] (.br 1 (.br 6 (Tr.sq [10,11,12,17,18,19,20,21] .fin) (.br 10 (Tr.sq [6,11,12,17,18,19,20,21] .fin) .stop)) (.br 6 (.br 1 (Tr.sq [10,11,12,17,18,19,20,21] .fin) (.br 10 (Tr.sq [11] (.br 1 (Tr.sq [12,17,18,19,20,21] .fin) (.br 12 (.br 1 (Tr.sq [17,18,19,20,21] .fin) (.br 17 (.br 1 (Tr.sq [18,19,20,21] .fin) (.br 18 (Tr.sq [1,19,20,21] .fin) .stop)) .stop)) .stop))) .stop)) (.br 10 (.br 1 (Tr.sq [6,11,12,17,18,19,20,21] .fin) (.br 6 (Tr.sq [11] (.br 1 (Tr.sq [12,17,18,19,20,21] .fin) (.br 12 (.br 1 (Tr.sq [17,18,19,20,21] .fin) (.br 17 (.br 1 (Tr.sq [18,19,20,21] .fin) (.br 18 (Tr.sq [1,19,20,21] .fin) .stop)) .stop)) .stop))) .stop)) .stop)))) (.br 10 (.br 1 (Tr.sq [4,5,6,11,12,17,18,19,20,21] .fin) (.br 4 (Tr.sq [5] (.br 1 (Tr.sq [6,11,12,17,18,19,20,21] .fin) (.br 6 (Tr.sq [11] (.br 1 (Tr.sq [12,17,18,19,20,21] .fin) (.br 12 (.br 1 (Tr.sq [17,18,19,20,21] .fin) (.br 17 (.br 1 (Tr.sq [18,19,20,21] .fin) (.br 18 (Tr.sq [1,19,20,21] .fin) .stop)) .stop)) .stop))) .stop))) .stop)) .stop))) (by kernel_rfl) (Z ?_)
    refine AS u73 rfl ?_
    try simp only [go_sem]
    repeat' first|((with_reducible show iQ _ _ _ _); refine iR (Z ?_) (Z ?_))|((with_reducible show bZ _ _ _); refine CM (Bq u73) (Z ?_))|((with_reducible show jB _ _ _ _ _); refine AS u75 (Port.ds_len _) (Z ?_))|((with_reducible show Md _ _ _ _ _ _ _ _ _ _ _); refine caG ⟨[],(r3 1001 1000013000 []),[(1,1,0)],(r5 1501 816272 []),[],true⟩ (ih0 _ _ _ _ _ _ u77) (Z ?_))
    all_goals
     have F:=Ad u79
     obtain⟨hv51019a,J⟩:=F
     refine Bp .no (Z ?_)
     refine CN (Z ?_)
     refine A4 (u78.map Core.ds) (by rw [← J]; simp only [List.map_append,List.map_cons,List.map_nil,List.nil_append,List.append_nil,go_sem,Core.ds_eq]) (Z ?_)
     exact AF (k1 ih6) h
   ·exact AF trivial h
  ·intro p C v u y q g c k e i u16 r h
   rw [AO] at h
   refine Ae rfl rfl (Z ?_)
   refine AJ h (fun h=>Z ?_) (fun h=>Z ?_)
   ·refine KD (Ds rfl rfl (ih4 p v u y q g c k e i C e.value [] _ h):) (.one ⟨_,.ce 1000007502 2 2000000000 (some 1) .no (k:=.done _),(r4 1000009000 1000007000 [(1000009004,2000000000)]),((1,1)::r3 1000009500 1000007500 []),?_⟩)
    simp only [go_sem]
    all_goals try rfl
   ·exact AF (k1 ih8) h
  ·intro p C v u y q g c k e i u17 r h
   rw [BA] at h
   refine Ae rfl rfl (Z ?_)
   refine AJ h (fun h=>Z ?_) (fun h=>Z ?_)
   ·exact AF (k2 IX ih4) h
   ·refine AJ h (fun h=>Z ?_) (fun h=>Z ?_)
    ·refine AY [false,false,false,false,false,false,false,false,false,false,false,false,false,true,true] (Tr.sq [13,14] .fin) (by kernel_rfl) (Z ?_)
     replace h:=AB h; obtain⟨u82,u83,h⟩:=h
     have F:=Ad u83
     obtain⟨hv41002a,O⟩:=F
     refine Bu (by rfl) (Z ?_)
     refine Bp .yes (Z ?_)
     refine Bu (LQ (by intro x; exact⟨(L16Binder.ds_len _),L16Binder.dz_ng x⟩) _) (Z ?_)
     refine A4 (C.map L16Binder.dz) (TY L16Binder.dz_fz _) (Z ?_)
     refine CN (Z ?_)
     refine A4 (u82.map L16Binder.dz) (by rw [← O]; simp only [List.nil_append]) (Z ?_)
     replace h:=AB h; obtain⟨u84,u85,h⟩:=h
     refine DR (OA _ _ _ u85) (by (first|rfl|(simp only [go_sem]; rfl))) (by first|rfl|(simp only [go_sem])) (Z ?_)
     replace h:=AB h; obtain⟨u86,u87,h⟩:=h
     have F:=Ad u87
     obtain⟨hv41013a,Y⟩:=F
     refine Bp .yes (Z ?_)
     refine CN (Z ?_)
     refine A4 (u86.map L16Binder.dz) (by rw [← Y]; simp only [List.map_append,List.map_cons,List.map_nil,List.nil_append,List.append_nil,go_sem,L16Binder.ds_eq,L16Binder.dz_eq]) (Z ?_)
     refine KD (Ds rfl rfl (ih4 p v u y q g c k e i u86 0 [] _ h):) (.one ⟨_,.ce 1000008502 2 2000000000 (some 1) .no (k:=.fT 656208 [(3,[]),(210,[])] [] (k:=.done _)),(r4 1000009000 1000008000 [(1000009004,2000000000)]),((1,1)::r3 1000009500 1000008500 []),?_⟩)
     simp only [go_sem]
     all_goals try rfl
    ·refine KD (Ds rfl rfl (ih4 p v u y q g c k e i C 0 [] _ h):) (.one ⟨_,.ce 1000008502 2 2000000000 (some 1) .no (k:=.done _),(r4 1000009000 1000008000 [(1000009004,2000000000)]),((1,1)::r3 1000009500 1000008500 []),?_⟩)
     simp only [go_sem]
     all_goals try rfl
  ·intro p C v u q g c k b u18 r h
   rw [Di] at h
   exact AF (k1 ih1) h
def Qf (n:Nat):=(Oy n).1
theorem TJ (n:Nat):(∀C u w r,C5 n C u w=some r→B2 prog f61 [1,1,1,0,1,0] (.tup [.agg [.int .i64 r.1.kind,.int .i64 r.1.value,.own 1501,.own 1502],.box 1601 0]) [(1501,⟨List.map AD r.1.data,some 1,0,.no⟩),(1502,⟨List.map Core.ds r.1.kids,some 4,0,.no⟩),(1503,⟨List.map AD r.2.entered,some 1,0,.no⟩),(1504,⟨List.map AD r.2.origins,some 1,0,.no⟩),(1505,⟨List.map BI r.2.labels,some 1,0,.no⟩)] [(1601,[.rop [.ro (r.2.n.agents.map Agent.ds)] 0,.int .i64 r.2.steps,.int .i64 r.2.nodes,.own 1503,.own 1504,.own 1505,.int .i64 r.2.code])] ⟨[(0,.rop [.ro (C.agents.map Agent.ds)] 0),(2,.box 1000001500 0),(4,.box 1000001501 0),(5,.own 1000001000),(6,.int .i64 w)],[(1000001000,some ⟨List.map (slD AD) u,some 1,0,.no⟩)],[(1000001500,some [.int .i64 0,.int .i64 0,.nils,.nils]),(1000001501,some [.rop [.ro (C.agents.map Agent.ds)] 0,.int .i64 0,.int .i64 0,.nils,.nils,.nils,.int .i64 0])]⟩):=by
 induction n with
 |zero=>exact((fun _ _ _ _ h=>by rw [C5] at h; cases h))
 | succ n ih=>
  have F:=ih
  ·intro C u w r h
   rw [C5] at h
   refine Ae rfl rfl (Z ?_)
   refine A5 (Z ?_)
   refine AJ h (fun h=>Z ?_) (fun h=>Z ?_)
   ·refine AL ?_
    replace h:=AB h; obtain⟨y,q,h⟩:=h
    have G:=Ad q
    obtain⟨v,p⟩:=G
    refine Bp .no (Z ?_)
    refine CN (Z ?_)
    refine A4 (List.map (slD AD) y) (by rw [← p]; simp only [List.map_append,List.map_cons,List.map_nil,List.nil_append,List.append_nil,go_sem,slD]) (Z ?_)
    exact AF (k1 F) h
   ·refine bf (.fT 1000001000 [(5,[])] [] (k:=.done _)) (Z ?_)
    all_goals try rfl
    replace h:=AB h; obtain⟨g,j,h⟩:=h
    refine AS j (Agent.ds_len _) (Z ?_)
    replace h:=AB h; obtain⟨k,b,h⟩:=h
    refine AS b (Port.ds_len _) (Z ?_)
    replace h:=AB h; obtain⟨d,c,h⟩:=h
    refine caG ⟨[(3000128176,.nils,some 1),(3000128177,.nils,some 1),(3000128178,.nils,some 1)],(r3 1001 3000128176 []),[(1,1000001501,0)],(r5 1501 128176 []),[],true⟩ (Qf fuel _ _ _ _ _ _ c) (Z ?_)
    exact AF trivial h
theorem YY (a0 r) (h:Ko a0=some r):AG prog 61 [.rop [.ro (a0.agents.map Agent.ds)] 0] [] [] (.tup [.agg [.int .i64 r.1.kind,.int .i64 r.1.value,.own 1501,.own 1502],.box 1601 0]) [(1501,⟨List.map AD r.1.data,some 1,0,.no⟩),(1502,⟨List.map Core.ds r.1.kids,some 4,0,.no⟩),(1503,⟨List.map AD r.2.entered,some 1,0,.no⟩),(1504,⟨List.map AD r.2.origins,some 1,0,.no⟩),(1505,⟨List.map BI r.2.labels,some 1,0,.no⟩)] [(1601,[.rop [.ro (r.2.n.agents.map Agent.ds)] 0,.int .i64 r.2.steps,.int .i64 r.2.nodes,.own 1503,.own 1504,.own 1505,.int .i64 r.2.code])] :=by
 unfold Ko at h
 refine agF func61 mixed (h:=Z ?_)
 refine AL ?_
 refine AL ?_
 refine CL (Ds rfl rfl (TJ fuel a0 [] 0 _ h):) (.one ⟨_,.lt 5 2000000000 3000 0 1 .no [] (k:=.done _),[(1000001000,2000000000)],[(1000001500,1000),(1000001501,2002)],?_⟩)
 simp only [go_sem]
 all_goals try rfl
end Go.Proofs.YtjnifengdhcojaaGreatDoor.Ab
