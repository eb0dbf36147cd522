/-
 The functions do what their models say. Printed by wip/ab/gen.py.
-/
import Derived.Test.YtoncbhomocgmcaaGreatDoorWlkSa
namespace Go.Proofs.YtoncbhomocgmcaaGreatDoor.Ab
set_option linter.unusedVariables false
set_option linter.unusedSimpArgs false
set_option maxRecDepth 20000
set_option maxHeartbeats 4000000
open Go.RowKit
theorem Mk (n:Nat):(∀a0 u w r,Bs n a0 u w=some r→CF Tryz.prog Tryz.f30 [1,1,1,0,1,0] (.tup [.agg [.int .i64 r.1.kind,.int .i64 r.1.value,.own 1501,.own 1502],.box 1601 0]) [(1501,⟨List.map AB r.1.data,some 1,0,.no⟩),(1502,⟨List.map Core.ds r.1.kids,some 4,0,.no⟩),(1503,⟨List.map AB r.2.entered,some 1,0,.no⟩),(1504,⟨List.map AB r.2.origins,some 1,0,.no⟩),(1505,⟨List.map AT r.2.labels,some 1,0,.no⟩)] [(1601,[.rop [.ro (r.2.n.agents.map Agent.ds)] 0,.int .i64 r.2.steps,.int .i64 r.2.nodes,.own 1503,.own 1504,.own 1505,.int .i64 r.2.code])] ⟨[(0,.rop [.ro (a0.agents.map Agent.ds)] 0),(2,.box 1000001500 0),(4,.box 1000001501 0),(5,.own 1000001000),(6,.int .i64 w)],[(1000001000,some ⟨List.map (slD AB) u,some 1,0,.no⟩)],[(1000001500,some [.int .i64 0,.int .i64 0,.nils,.nils]),(1000001501,some [.rop [.ro (a0.agents.map Agent.ds)] 0,.int .i64 0,.int .i64 0,.nils,.nils,.nils,.int .i64 0])]⟩):=(Lx n)
theorem Qy (a0 r) (h:G7 a0=some r):AG Tryz.prog 30 [.rop [.ro (a0.agents.map Agent.ds)] 0] [] [] (.tup [.agg [.int .i64 r.1.kind,.int .i64 r.1.value,.own 1501,.own 1502],.box 1601 0]) [(1501,⟨List.map AB r.1.data,some 1,0,.no⟩),(1502,⟨List.map Core.ds r.1.kids,some 4,0,.no⟩),(1503,⟨List.map AB r.2.entered,some 1,0,.no⟩),(1504,⟨List.map AB r.2.origins,some 1,0,.no⟩),(1505,⟨List.map AT r.2.labels,some 1,0,.no⟩)] [(1601,[.rop [.ro (r.2.n.agents.map Agent.ds)] 0,.int .i64 r.2.steps,.int .i64 r.2.nodes,.own 1503,.own 1504,.own 1505,.int .i64 r.2.code])] :=by
 unfold G7 at h
 refine agF Tryz.func30 mixed (h:=Z ?_)
 refine AS ?_
 refine AS ?_
 refine EX (EE rfl rfl (Mk fuel a0 [] 0 _ h):) (.one ⟨_,.lit 5 2000000000 3000 0 1 .no [] _ _ (by (first|rfl|(simp only [go_sem]; rfl))) (by simp only [go_sem]; rfl) (by (first|rfl|(simp only [go_sem]; rfl))) (by (first|rfl|(simp only [go_sem]; rfl))) (by decide) (by decide) (by simp only [go_sem]) (.done _),[(1000001000,2000000000)],[(1000001500,1000),(1000001501,2002)],?_⟩)
 simp only [go_sem]
 all_goals try rfl
theorem Ly (n:Nat):(∀a0 u r,CN n a0 u=some r→BE Tryz.prog Tryz.f31 [1,0,1,0] (.bool r) ⟨[(0,.ro (a0.map AT)),(3,.int .i64 u)],[],[]⟩):=by
 induction n with
 |zero=>exact((fun _ _ _ h=>by rw [CN] at h; cases h))
 | succ n ih=>
  have ih0:=ih
  ·intro a0 u r h
   rw [CN] at h
   exact AI (k1 ih0) h
theorem Oz (a0 r) (h:GC a0=some r):AC Tryz.prog 31 [.ro (a0.map AT)] (.bool r):=by
 unfold GC at h
 refine acF Tryz.func31 mixed (h:=Z ?_)
 exact AI (k1 Ly) h
theorem So (a0 r) (h:K1 a0=some r):AC Tryz.prog 15 [.rop (Net.avs a0) 0] (.tup [.agg (Labelled.rv r.1),.int .i64 r.2]):=by
 unfold K1 at h
 refine acF Tryz.func15 mixed (h:=Z ?_)
 refine AS ?_
 replace h:=AJ h; obtain⟨u,w,h⟩:=h
 refine caG ⟨[],[],[],((1501,32016)::(1502,32017)::r3 1503 32019 []),[(1601,32018)],true⟩ (Qy _ _ w) (Z ?_)
 refine AS ?_
 refine AO h (fun h=>Z ?_) (fun h=>Z ?_)
 ·refine BS [false,false,true,true,true,true,true] (.br 2 (Tr.sq [3] (.br 4 (Tr.sq [5,6] .fin) (.br 5 (Tr.sq [4,6] .fin) .stop))) (.br 5 (Tr.sq [2,3,4,6] .fin) .stop)) (by kernel_rfl) ?_
  try simp only [go_sem]
  refine AW ?_ ?_
  ·try simp only [go_sem]
   refine AW (Z ?_) (Z ?_)
   ·exact AI trivial h
   ·exact AI trivial h
  ·try simp only [go_sem]
   exact AI trivial h
 ·refine AS ?_
  replace h:=AJ h; obtain⟨y,q,h⟩:=h
  refine AU (Oz _ _ q) (Z ?_)
  refine AS ?_
  refine AO h (fun h=>Z ?_) (fun h=>Z ?_)
  ·exact AI trivial h
  ·refine AS ?_
   replace h:=AJ h; obtain⟨g,j,h⟩:=h
   refine BS [true,true,false,true,true,true,true,true,true,true] (.br 0 (.br 1 (Tr.sq [3,4,5,6,7,8,9] .fin) (.br 3 (Tr.sq [4] (.br 1 (Tr.sq [5,6,7,8,9] .fin) (.br 5 (Tr.sq [1,6,7,8,9] .fin) .stop))) .stop)) (.br 1 (.br 0 (Tr.sq [3,4,5,6,7,8,9] .fin) (.br 3 (Tr.sq [4] (.br 0 (Tr.sq [5,6,7,8,9] .fin) (.br 5 (.br 0 (Tr.sq [6,7,8,9] .fin) (.br 6 (Tr.sq [0,7,8,9] .fin) .stop)) .stop))) .stop)) (.br 3 (Tr.sq [4] (.br 0 (.br 1 (Tr.sq [5,6,7,8,9] .fin) (.br 5 (Tr.sq [1,6,7,8,9] .fin) .stop)) (.br 1 (.br 0 (Tr.sq [5,6,7,8,9] .fin) (.br 5 (.br 0 (Tr.sq [6,7,8,9] .fin) (.br 6 (Tr.sq [0,7,8,9] .fin) .stop)) .stop)) (.br 5 (.br 0 (Tr.sq [1,6,7,8,9] .fin) (.br 1 (.br 0 (Tr.sq [6,7,8,9] .fin) (.br 6 (Tr.sq [0,7,8,9] .fin) .stop)) .stop)) .stop)))) .stop))) (by kernel_rfl) ?_
   try simp only [go_sem]
   refine AW ?_ ?_
   ·try simp only [go_sem]
    refine AW ?_ ?_
    ·try simp only [go_sem]
     have hq_:=AH j
     obtain⟨hv7006a,hv7006b⟩:=hq_
     refine AP .no (Z ?_)
     refine AK (As (by intro x; rfl) _) (Z ?_)
     refine AK (by (try refine⟨?_,?_⟩) <;> (try simp only [List.length_map,List.length_append,List.length_cons,List.length_nil] at*) <;> (try unfold maxLen) <;> omega) (Z ?_)
     refine AN (g.map AT) (by rw [← hv7006b]; simp only [List.map_append,List.map_cons,List.map_nil,List.nil_append,List.append_nil,go_sem,slD]) (Z ?_)
     exact AI trivial h
    ·try simp only [go_sem]
     refine AW (Z ?_) (Z ?_)
     ·have hq_:=AH j
      obtain⟨hv7006a,hv7006b⟩:=hq_
      refine AP .no (Z ?_)
      refine AK (As (by intro x; rfl) _) (Z ?_)
      refine AK (by (try refine⟨?_,?_⟩) <;> (try simp only [List.length_map,List.length_append,List.length_cons,List.length_nil] at*) <;> (try unfold maxLen) <;> omega) (Z ?_)
      refine AN (g.map AT) (by rw [← hv7006b]; simp only [List.map_append,List.map_cons,List.map_nil,List.nil_append,List.append_nil,go_sem,slD]) (Z ?_)
      exact AI trivial h
     ·have hq_:=AH j
      obtain⟨hv7006a,hv7006b⟩:=hq_
      refine AP .no (Z ?_)
      refine AK (As (by intro x; rfl) _) (Z ?_)
      refine AK (by (try refine⟨?_,?_⟩) <;> (try simp only [List.length_map,List.length_append,List.length_cons,List.length_nil] at*) <;> (try unfold maxLen) <;> omega) (Z ?_)
      refine AN (g.map AT) (by rw [← hv7006b]; simp only [List.map_append,List.map_cons,List.map_nil,List.nil_append,List.append_nil,go_sem,slD]) (Z ?_)
      exact AI trivial h
   ·try simp only [go_sem]
    refine AW ?_ ?_
    ·try simp only [go_sem]
     refine AW ?_ ?_
     ·try simp only [go_sem]
      have hq_:=AH j
      obtain⟨hv7006a,hv7006b⟩:=hq_
      refine AP .no (Z ?_)
      refine AK (As (by intro x; rfl) _) (Z ?_)
      refine AK (by (try refine⟨?_,?_⟩) <;> (try simp only [List.length_map,List.length_append,List.length_cons,List.length_nil] at*) <;> (try unfold maxLen) <;> omega) (Z ?_)
      refine AN (g.map AT) (by rw [← hv7006b]; simp only [List.map_append,List.map_cons,List.map_nil,List.nil_append,List.append_nil,go_sem,slD]) (Z ?_)
      exact AI trivial h
     ·try simp only [go_sem]
      refine AW ?_ ?_
      ·try simp only [go_sem]
       have hq_:=AH j
       obtain⟨hv7006a,hv7006b⟩:=hq_
       refine AP .no (Z ?_)
       refine AK (As (by intro x; rfl) _) (Z ?_)
       refine AK (by (try refine⟨?_,?_⟩) <;> (try simp only [List.length_map,List.length_append,List.length_cons,List.length_nil] at*) <;> (try unfold maxLen) <;> omega) (Z ?_)
       refine AN (g.map AT) (by rw [← hv7006b]; simp only [List.map_append,List.map_cons,List.map_nil,List.nil_append,List.append_nil,go_sem,slD]) (Z ?_)
       exact AI trivial h
      ·try simp only [go_sem]
       refine AW (Z ?_) (Z ?_)
       ·have hq_:=AH j
        obtain⟨hv7006a,hv7006b⟩:=hq_
        refine AP .no (Z ?_)
        refine AK (As (by intro x; rfl) _) (Z ?_)
        refine AK (by (try refine⟨?_,?_⟩) <;> (try simp only [List.length_map,List.length_append,List.length_cons,List.length_nil] at*) <;> (try unfold maxLen) <;> omega) (Z ?_)
        refine AN (g.map AT) (by rw [← hv7006b]; simp only [List.map_append,List.map_cons,List.map_nil,List.nil_append,List.append_nil,go_sem,slD]) (Z ?_)
        exact AI trivial h
       ·have hq_:=AH j
        obtain⟨hv7006a,hv7006b⟩:=hq_
        refine AP .no (Z ?_)
        refine AK (As (by intro x; rfl) _) (Z ?_)
        refine AK (by (try refine⟨?_,?_⟩) <;> (try simp only [List.length_map,List.length_append,List.length_cons,List.length_nil] at*) <;> (try unfold maxLen) <;> omega) (Z ?_)
        refine AN (g.map AT) (by rw [← hv7006b]; simp only [List.map_append,List.map_cons,List.map_nil,List.nil_append,List.append_nil,go_sem,slD]) (Z ?_)
        exact AI trivial h
    ·try simp only [go_sem]
     refine AW ?_ ?_
     ·try simp only [go_sem]
      refine AW (Z ?_) (Z ?_)
      ·have hq_:=AH j
       obtain⟨hv7006a,hv7006b⟩:=hq_
       refine AP .no (Z ?_)
       refine AK (As (by intro x; rfl) _) (Z ?_)
       refine AK (by (try refine⟨?_,?_⟩) <;> (try simp only [List.length_map,List.length_append,List.length_cons,List.length_nil] at*) <;> (try unfold maxLen) <;> omega) (Z ?_)
       refine AN (g.map AT) (by rw [← hv7006b]; simp only [List.map_append,List.map_cons,List.map_nil,List.nil_append,List.append_nil,go_sem,slD]) (Z ?_)
       exact AI trivial h
      ·have hq_:=AH j
       obtain⟨hv7006a,hv7006b⟩:=hq_
       refine AP .no (Z ?_)
       refine AK (As (by intro x; rfl) _) (Z ?_)
       refine AK (by (try refine⟨?_,?_⟩) <;> (try simp only [List.length_map,List.length_append,List.length_cons,List.length_nil] at*) <;> (try unfold maxLen) <;> omega) (Z ?_)
       refine AN (g.map AT) (by rw [← hv7006b]; simp only [List.map_append,List.map_cons,List.map_nil,List.nil_append,List.append_nil,go_sem,slD]) (Z ?_)
       exact AI trivial h
     ·try simp only [go_sem]
      refine AW ?_ ?_
      ·try simp only [go_sem]
       refine AW ?_ ?_
       ·try simp only [go_sem]
        have hq_:=AH j
        obtain⟨hv7006a,hv7006b⟩:=hq_
        refine AP .no (Z ?_)
        refine AK (As (by intro x; rfl) _) (Z ?_)
        refine AK (by (try refine⟨?_,?_⟩) <;> (try simp only [List.length_map,List.length_append,List.length_cons,List.length_nil] at*) <;> (try unfold maxLen) <;> omega) (Z ?_)
        refine AN (g.map AT) (by rw [← hv7006b]; simp only [List.map_append,List.map_cons,List.map_nil,List.nil_append,List.append_nil,go_sem,slD]) (Z ?_)
        exact AI trivial h
       ·try simp only [go_sem]
        refine AW (Z ?_) (Z ?_)
        ·have hq_:=AH j
         obtain⟨hv7006a,hv7006b⟩:=hq_
         refine AP .no (Z ?_)
         refine AK (As (by intro x; rfl) _) (Z ?_)
         refine AK (by (try refine⟨?_,?_⟩) <;> (try simp only [List.length_map,List.length_append,List.length_cons,List.length_nil] at*) <;> (try unfold maxLen) <;> omega) (Z ?_)
         refine AN (g.map AT) (by rw [← hv7006b]; simp only [List.map_append,List.map_cons,List.map_nil,List.nil_append,List.append_nil,go_sem,slD]) (Z ?_)
         exact AI trivial h
        ·have hq_:=AH j
         obtain⟨hv7006a,hv7006b⟩:=hq_
         refine AP .no (Z ?_)
         refine AK (As (by intro x; rfl) _) (Z ?_)
         refine AK (by (try refine⟨?_,?_⟩) <;> (try simp only [List.length_map,List.length_append,List.length_cons,List.length_nil] at*) <;> (try unfold maxLen) <;> omega) (Z ?_)
         refine AN (g.map AT) (by rw [← hv7006b]; simp only [List.map_append,List.map_cons,List.map_nil,List.nil_append,List.append_nil,go_sem,slD]) (Z ?_)
         exact AI trivial h
      ·try simp only [go_sem]
       refine AW ?_ ?_
       ·try simp only [go_sem]
        have hq_:=AH j
        obtain⟨hv7006a,hv7006b⟩:=hq_
        refine AP .no (Z ?_)
        refine AK (As (by intro x; rfl) _) (Z ?_)
        refine AK (by (try refine⟨?_,?_⟩) <;> (try simp only [List.length_map,List.length_append,List.length_cons,List.length_nil] at*) <;> (try unfold maxLen) <;> omega) (Z ?_)
        refine AN (g.map AT) (by rw [← hv7006b]; simp only [List.map_append,List.map_cons,List.map_nil,List.nil_append,List.append_nil,go_sem,slD]) (Z ?_)
        exact AI trivial h
       ·try simp only [go_sem]
        refine AW (Z ?_) (Z ?_)
        ·have hq_:=AH j
         obtain⟨hv7006a,hv7006b⟩:=hq_
         refine AP .no (Z ?_)
         refine AK (As (by intro x; rfl) _) (Z ?_)
         refine AK (by (try refine⟨?_,?_⟩) <;> (try simp only [List.length_map,List.length_append,List.length_cons,List.length_nil] at*) <;> (try unfold maxLen) <;> omega) (Z ?_)
         refine AN (g.map AT) (by rw [← hv7006b]; simp only [List.map_append,List.map_cons,List.map_nil,List.nil_append,List.append_nil,go_sem,slD]) (Z ?_)
         exact AI trivial h
        ·have hq_:=AH j
         obtain⟨hv7006a,hv7006b⟩:=hq_
         refine AP .no (Z ?_)
         refine AK (As (by intro x; rfl) _) (Z ?_)
         refine AK (by (try refine⟨?_,?_⟩) <;> (try simp only [List.length_map,List.length_append,List.length_cons,List.length_nil] at*) <;> (try unfold maxLen) <;> omega) (Z ?_)
         refine AN (g.map AT) (by rw [← hv7006b]; simp only [List.map_append,List.map_cons,List.map_nil,List.nil_append,List.append_nil,go_sem,slD]) (Z ?_)
         exact AI trivial h
end Go.Proofs.YtoncbhomocgmcaaGreatDoor.Ab
