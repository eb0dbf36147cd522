/-
 The functions do what their models say. Printed by wip/ab/gen.py.
-/
import Derived.Test.YtckcfdggbbabfaaGreatModD
import Derived.Test.YtckcfdggbbabfaaGreatTi2
import Derived.Test.YtckcfdggbbabfaaGreatWlkC
namespace Go.Proofs.YtckcfdggbbabfaaGreat.Ab
set_option linter.unusedVariables false
set_option linter.unusedSimpArgs false
set_option maxRecDepth 20000
set_option maxHeartbeats 4000000
open Go.RowKit
theorem AL (a0 a1 a2 a3 a4 a5 r) (h:Aj a0 a1 a2 a3 a4 a5=some r):AG Tryz.prog 143 [.box 1 0,.int .i64 a1,.int .i64 a2,.int .i64 a3,.ro (List.map Au a4),.int .i64 a5] [(1001,⟨List.map Agent.dm a0.net.agents,some 5,0,true⟩)] [(2,[.mpc (.int .i64) (List.map prB a0.removed)]),(1,[.own 1001,.ro (List.map Net.ds a0.book),.mpr 2])] (.int .i64 r.1) [(1501,⟨List.map Agent.dm r.2.net.agents,some 5,0,true⟩)] [(1,[.own 1501,.ro (List.map Net.ds a0.book),.mpr 2]),(2,[.mpc (.int .i64) (List.map prB r.2.removed)])] :=by
 unfold Aj at h
 refine Co mixed Tryz.func143 rfl rfl rfl (by kernel_rfl) (by kernel_rfl) (Z ?_)
 refine Ae [false,false,false,false,false,false,false,false,false,false,false,false,false,false,false,true,true,true,true,true] (Tr.sq [15,16,17,18,19] .fin) (by kernel_rfl) (Z ?_)
 replace h:=AF h; obtain⟨u,w,h⟩:=h
 refine Yu (HL _ _ w) (by (first|rfl|(simp only [go_sem]; rfl))) (by first|rfl|(simp only [go_sem])) (Z ?_)
 replace h:=AF h; obtain⟨y,q,h⟩:=h
 have hq_:=Hx q
 obtain⟨hv2012a,hv2012b,hv2012c⟩:=hq_
 refine BW (by refine⟨?_,?_,?_⟩ <;> omega) (Z ?_)
 refine BA (List.map Port.ds y) (by rw [← hv2012c]; simp only [List.map_replicate,go_sem,Port.ds_eq]) (Z ?_)
 replace h:=AF h; obtain⟨g,j,h⟩:=h
 have hq_:=BX j
 obtain⟨hv2015a,hv2015b⟩:=hq_
 refine EP true (Z ?_)
 refine BW (by refine⟨?_,?_⟩ <;> (try simp only [List.length_map,List.length_append,List.length_cons,List.length_nil] at*) <;> (try unfold maxLen) <;> omega) (Z ?_)
 refine BA (List.map Agent.dm g) (by rw [← hv2015b]; simp only [List.map_append,List.map_cons,List.map_nil,List.nil_append,List.append_nil,go_sem,Agent.ds_eq,Agent.dm_eq]) (Z ?_)
 refine AB (Z ?_)
 cases h
 refine Bb (.done _) [(1501,32240)] [(2,2),(1,1)] ?_
 simp only [go_sem]
theorem IE (n:Nat):(∀a0 a2 u w y q r,A5 n a0 a2 u w y q=some r→Dx Tryz.prog Tryz.f141 [1,1,1,1,1,1,1,1,0] (.tup []) [(1501,⟨List.map Agent.dm r.net.agents,some 5,0,true⟩)] [(1,[.own 1501,.ro (List.map Net.ds a0.book),.mpr 2]),(2,[.mpc (.int .i64) (List.map prB r.removed)])] ⟨[(0,.box 1 0),(2,.int .i64 a2),(100,.own 1000002001),(101,.int .i64 ((List.length u:Nat):Int)),(102,.int .i64 q)],[(1000002000,some ⟨List.map Agent.dm y,some 5,0,true⟩),(1000002001,some ⟨List.map Au u,some 1,0,false⟩)],[(2,some [.mpc (.int .i64) (List.map prB w)]),(1,some [.own 1000002000,.ro (List.map Net.ds a0.book),.mpr 2])]⟩):=by
 induction n with
 |zero=>exact((fun _ _ _ _ _ _ _ h=>by rw [A5] at h; cases h))
 | succ n ih=>
  have ih0:=ih
  ·intro a0 a2 u w y q r h
   rw [A5] at h
   refine BB rfl rfl (Z ?_)
   refine Ag (Z ?_)
   refine AD h (fun h=>Z ?_) (fun h=>Z ?_)
   ·refine AB (Z ?_)
    replace h:=AF h; obtain⟨g,j,h⟩:=h
    refine AR j rfl (Z ?_)
    refine Ac (AU j) (Z ?_)
    replace h:=AF h; obtain⟨k,b,h⟩:=h
    refine AP ⟨[],[(1001,1000002000)],[(1,1,0),(2,2,0)],[(1501,272112)],[],true⟩ (by kernel_rfl) (Aq _ _ _ _ b) (by kernel_rfl) (Z ?_)
    refine AB (Z ?_)
    refine Am (AN rfl rfl (ih0 a0 a2 u k.removed k.net.agents (IntKind.i64.wrap (q+1)) _ h):) (.one ⟨_,.done _,[(1000002000,272112),(1000002001,1000002001)],[(2,2),(1,1)],?_⟩)
    try simp only [go_sem]
   ·cases h
    refine Bb (.done _) [(1501,1000002000)] [(2,2),(1,1)] ?_
    simp only [go_sem]
theorem IF (n:Nat):(∀a0 a1 a2 u w y q g j k r,An n a0 a1 a2 u w y q g j k=some r→Dx Tryz.prog Tryz.f141 [1,1,1,1,0,1,0] (.tup []) [(1501,⟨List.map Agent.dm r.net.agents,some 5,0,true⟩)] [(1,[.own 1501,.ro (List.map Net.ds a0.book),.mpr 2]),(2,[.mpc (.int .i64) (List.map prB r.removed)])] ⟨[(0,.box 1 0),(1,.int .i64 a1),(2,.int .i64 a2),(6,.box 1000001500 0),(7,.int .i64 w.1),(8,.int .i64 y.1),(9,.own 1000001001),(10,.int .i64 k)],[(1000001000,some ⟨List.map Agent.dm g,some 5,0,true⟩),(1000001001,some ⟨List.map Au j,some 1,0,false⟩)],[(2,some [.mpc (.int .i64) (List.map prB q)]),(1,some [.own 1000001000,.ro (List.map Net.ds a0.book),.mpr 2]),(1000001500,some [.int .i64 u.kind,.int .i64 u.level,.int .i64 u.value,.ro (List.map Au u.data),.ro (List.replicate (List.length u.ports) [])])]⟩):=by
 induction n with
 |zero=>exact((fun _ _ _ _ _ _ _ _ _ _ _ h=>by rw [An] at h; cases h))
 | succ n ih=>
  have ih0:=ih
  ·intro a0 a1 a2 u w y q g j k r h
   rw [An] at h
   refine BB rfl rfl (Z ?_)
   refine Ag (Z ?_)
   refine AD h (fun h=>Z ?_) (fun h=>Z ?_)
   ·refine AB (Z ?_)
    replace h:=AF h; obtain⟨b,d,h⟩:=h
    refine AR d (Agent.dm_len _) (Z ?_)
    refine Ac (AU d) (Z ?_)
    replace h:=AF h; obtain⟨c,e,h⟩:=h
    refine AP ⟨[],[(1001,1000001000)],[(1,1,0),(2,2,0)],[(1501,128160)],[],true⟩ (by kernel_rfl) (AL _ _ _ _ _ _ _ e) (by kernel_rfl) (Z ?_)
    refine AB (Z ?_)
    replace h:=AF h; obtain⟨i,l,h⟩:=h
    refine AP ⟨[],[(1001,128160)],[(1,1,0)],[(1501,144128)],[],true⟩ (by kernel_rfl) (Ec _ _ _ _ l) (by kernel_rfl) (Z ?_)
    refine AB (Z ?_)
    replace h:=AF h; obtain⟨t,s,h⟩:=h
    refine AP ⟨[],[(1001,144128)],[(1,1,0)],[(1501,160128)],[],true⟩ (by kernel_rfl) (Ec _ _ _ _ s) (by kernel_rfl) (Z ?_)
    refine AB (Z ?_)
    replace h:=AF h; obtain⟨o,z,h⟩:=h
    have hq_:=BX z
    obtain⟨hv11003a,hv11003b⟩:=hq_
    refine EP false (Z ?_)
    refine BW (by refine⟨?_,?_⟩ <;> (try simp only [List.length_map,List.length_append,List.length_cons,List.length_nil] at*) <;> (try unfold maxLen) <;> omega) (Z ?_)
    refine BA (List.map Au o) (by rw [← hv11003b]; simp only [List.map_append,List.map_cons,List.map_nil,List.nil_append,List.append_nil,go_sem,slD]) (Z ?_)
    refine AB (Z ?_)
    refine Am (AN rfl rfl (ih0 a0 a1 a2 u w y c.2.removed t.agents o (IntKind.i64.wrap (k+1)) _ h):) (.one ⟨_,.done _,[(1000001000,160128),(1000001001,176048)],[(2,2),(1,1),(1000001500,1000001500)],?_⟩)
    try simp only [go_sem]
   ·refine AB (Z ?_)
    replace h:=AF h; obtain⟨u1,u2,h⟩:=h
    refine AP ⟨[],[(1001,1000001000)],[(1,1,0),(2,2,0)],[(1501,192080)],[],true⟩ (by kernel_rfl) (Aq _ _ _ _ u2) (by kernel_rfl) (Z ?_)
    refine AB (Z ?_)
    replace h:=AF h; obtain⟨u3,u4,h⟩:=h
    refine AP ⟨[],[(1001,192080)],[(1,1,0),(2,2,0)],[(1501,208080)],[],true⟩ (by kernel_rfl) (Aq _ _ _ _ u4) (by kernel_rfl) (Z ?_)
    refine AB (Z ?_)
    refine AZ (AN rfl rfl (IE fuel a0 a2 j u3.removed u3.net.agents 0 _ h):) (.one ⟨_,.done _,[(1000002000,208080),(1000002001,1000001001)],[(2,2),(1,1)],?_⟩)
    try simp only [go_sem]
theorem JR (a0 a1 a2 r) (h:Cf a0 a1 a2=some r):AG Tryz.prog 141 [.box 1 0,.int .i64 a1,.int .i64 a2] [(1001,⟨List.map Agent.dm a0.net.agents,some 5,0,true⟩)] [(2,[.mpc (.int .i64) (List.map prB a0.removed)]),(1,[.own 1001,.ro (List.map Net.ds a0.book),.mpr 2])] (.tup []) [(1501,⟨List.map Agent.dm r.net.agents,some 5,0,true⟩)] [(1,[.own 1501,.ro (List.map Net.ds a0.book),.mpr 2]),(2,[.mpc (.int .i64) (List.map prB r.removed)])] :=by
 unfold Cf at h
 refine Co mixed Tryz.func141 rfl rfl rfl (by kernel_rfl) (by kernel_rfl) (Z ?_)
 replace h:=AF h; obtain⟨u,w,h⟩:=h
 refine AR w (Agent.dm_len _) (Z ?_)
 refine Ac (AU w) (Z ?_)
 refine Ul (.chdr 1008 4 1001 0 (List.length u.ports) [(5,Int.toNat a2,4)] _ (List.map Port.ds u.ports) (by (first|rfl|(simp only [go_sem]; rfl))) (by rfl) (Rx (tk:=⟨List.map Agent.dm a0.net.agents,some 5,0,true⟩) (by (first|rfl|(simp only [go_sem]; rfl))) rfl (D0 (sz:=5) (j:=4) (r:=List.map Port.ds u.ports) (AU (f:=Agent.dm) w) (Agent.dm_len _) (by rw [Agent.dm_eq]; rfl))) (List.length_map _) (.done _)) (Z ?_)
 all_goals try rfl
 replace h:=AF h; obtain⟨y,q,h⟩:=h
 refine AP ⟨[],[(1001,1001)],[(1,1,0),(2,2,0)],[(1501,32192)],[],true⟩ (by kernel_rfl) (AL _ _ _ _ _ _ _ q) (by kernel_rfl) (Z ?_)
 refine AB (Z ?_)
 replace h:=AF h; obtain⟨g,k,h⟩:=h
 refine AP ⟨[],[(1001,32192)],[(1,1,0),(2,2,0)],[(1501,48192)],[],true⟩ (by kernel_rfl) (AL _ _ _ _ _ _ _ k) (by kernel_rfl) (Z ?_)
 refine AB (Z ?_)
 refine AZ (AN rfl rfl (IF fuel a0 a1 a2 u y g g.2.removed g.2.net.agents [] 1 _ h):) (.one ⟨_,.slot 9 2000000000 (some 1) false (by simp only [go_sem]) (by simp only [go_sem]) (.done _),[(1000001000,48192),(1000001001,2000000000)],[(2,2),(1,1),(1000001500,1008)],?_⟩)
 simp only [go_sem]
 all_goals try rfl
theorem MJ (a0 r) (h:Ic a0=some r):AC Tryz.prog 183 [.bool a0] (.int .i64 r):=by
 unfold Ic at h
 refine AY mixed Tryz.func183 rfl rfl rfl (by kernel_rfl) (by kernel_rfl) (Z ?_)
 refine AD h (fun h=>Z ?_) (fun h=>Z ?_)
 ·cases h
  simp only [go_sem]
 ·refine AB (Z ?_)
  cases h
  simp only [go_sem]
theorem Fo (a0 r) (h:ES a0=some r):AC Tryz.prog 227 [.int .i64 a0] (.int .i64 r):=by
 unfold ES at h
 refine AY mixed Tryz.func227 rfl rfl rfl (by kernel_rfl) (by kernel_rfl) (Z ?_)
 cases h
 simp only [go_sem]
theorem SK (a0 a1 a2 r) (h:GY a0 a1 a2=some r):AC Tryz.prog 199 [.int .i64 a0,.int .i64 a1,.int .i64 a2] (.int .i64 r):=by
 unfold GY at h
 refine AY mixed Tryz.func199 rfl rfl rfl (by kernel_rfl) (by kernel_rfl) (Z ?_)
 replace h:=AF h; obtain⟨u,w,h⟩:=h
 refine AK (Fo _ _ w) (Z ?_)
 replace h:=AF h; obtain⟨y,q,h⟩:=h
 refine AK (Fo _ _ q) (Z ?_)
 refine AB (Z ?_)
 refine AD h (fun h=>Z ?_) (fun h=>Z ?_)
 ·replace h:=AF h; obtain⟨g,j,h⟩:=h
  refine AK (Fo _ _ j) (Z ?_)
  refine AB (Z ?_)
  cases h
  simp only [go_sem]
 ·refine AD h (fun h=>Z ?_) (fun h=>Z ?_)
  ·replace h:=AF h; obtain⟨k,b,h⟩:=h
   refine AK (Fo _ _ b) (Z ?_)
   refine AB (Z ?_)
   cases h
   simp only [go_sem]
  ·refine AD h (fun h=>Z ?_) (fun h=>Z ?_)
   ·replace h:=AF h; obtain⟨d,c,h⟩:=h
    refine AK (Fo _ _ c) (Z ?_)
    refine AB (Z ?_)
    cases h
    simp only [go_sem]
   ·refine AD h (fun h=>Z ?_) (fun h=>Z ?_)
    ·refine AD h (fun h=>Z ?_) (fun h=>Z ?_)
     ·cases h
      simp only [go_sem]
     ·refine AB (Z ?_)
      replace h:=AF h; obtain⟨e,i,h⟩:=h
      refine BW (Vx i) (Z ?_)
      replace h:=AF h; obtain⟨l,t,h⟩:=h
      refine AK (Fo _ _ t) (Z ?_)
      refine AB (Z ?_)
      cases h
      simp only [go_sem]
    ·refine AD h (fun h=>Z ?_) (fun h=>Z ?_)
     ·replace h:=AF h; obtain⟨s,o,h⟩:=h
      refine AK (MJ _ _ o) (Z ?_)
      refine AB (Z ?_)
      cases h
      simp only [go_sem]
     ·refine AD h (fun h=>Z ?_) (fun h=>Z ?_)
      ·replace h:=AF h; obtain⟨z,u1,h⟩:=h
       refine AK (MJ _ _ u1) (Z ?_)
       refine AB (Z ?_)
       cases h
       simp only [go_sem]
      ·refine AB (Z ?_)
       cases h
       simp only [go_sem]
theorem J9 (a0 a1 a2 r) (h:CZ a0 a1 a2=some r):AG Tryz.prog 144 [.box 1 0,.int .i64 a1,.int .i64 a2] [(1001,⟨List.map Agent.dm a0.net.agents,some 5,0,true⟩)] [(2,[.mpc (.int .i64) (List.map prB a0.removed)]),(1,[.own 1001,.ro (List.map Net.ds a0.book),.mpr 2])] (.tup []) [(1501,⟨List.map Agent.dm r.net.agents,some 5,0,true⟩)] [(1,[.own 1501,.ro (List.map Net.ds a0.book),.mpr 2]),(2,[.mpc (.int .i64) (List.map prB r.removed)])] :=by
 unfold CZ at h
 refine Co mixed Tryz.func144 rfl rfl rfl (by kernel_rfl) (by kernel_rfl) (Z ?_)
 refine Ae [false,false,false,false,false,false,false,false,false,false,false,false,false,false,false,false,false,false,false,true] (Tr.sq [19] .fin) (by kernel_rfl) (Z ?_)
 replace h:=AF h; obtain⟨u,w,h⟩:=h
 refine AR w (Agent.dm_len _) (Z ?_)
 refine Ac (AU w) (Z ?_)
 replace h:=AF h; obtain⟨y,q,h⟩:=h
 refine AR q (Agent.dm_len _) (Z ?_)
 refine Ac (AU q) (Z ?_)
 refine AB (Z ?_)
 refine AD h (fun h=>Z ?_) (fun h=>Z ?_)
 ·replace h:=AF h; obtain⟨g,j,h⟩:=h
  refine Ur [3006] ⟨[],[(1001,1001)],[(1,1,0),(2,2,0)],[(1501,48112)],[],true⟩ (by kernel_rfl) (AL _ _ _ _ _ _ _ j) (by kernel_rfl) (Z ?_)
  refine AB (Z ?_)
  replace h:=AF h; obtain⟨k,b,h⟩:=h
  refine AP ⟨[],[(1001,48112)],[(1,1,0),(2,2,0)],[(1501,64080)],[],true⟩ (by kernel_rfl) (Aq _ _ _ _ b) (by kernel_rfl) (Z ?_)
  refine AB (Z ?_)
  replace h:=AF h; obtain⟨d,c,h⟩:=h
  refine AP ⟨[],[(1001,64080)],[(1,1,0),(2,2,0)],[(1501,80080)],[],true⟩ (by kernel_rfl) (Aq _ _ _ _ c) (by kernel_rfl) (Z ?_)
  refine AB (Z ?_)
  cases h
  refine Bb (.done _) [(1501,80080)] [(2,2),(1,1)] ?_
  simp only [go_sem]
 ·refine AB (Z ?_)
  refine Ae [false,false,false,false,false,false,false,false,false,false,false,false,true,true,true] (Tr.sq [12,13,14] .fin) (by kernel_rfl) (Z ?_)
  replace h:=AF h; obtain⟨e,i,h⟩:=h
  refine AR i rfl (Z ?_)
  replace h:=AF h; obtain⟨l,t,h⟩:=h
  refine AK (SK _ _ _ _ t) (Z ?_)
  replace h:=AF h; obtain⟨s,o,h⟩:=h
  refine AP ⟨[],[(1001,1001)],[(1,1,0),(2,2,0)],[(1501,96192)],[],true⟩ (by kernel_rfl) (AL _ _ _ _ _ _ _ o) (by kernel_rfl) (Z ?_)
  replace h:=AF h; obtain⟨z,u1,h⟩:=h
  refine AP ⟨[],[(1001,96192)],[(1,1,0),(2,2,0)],[(1501,96224)],[],true⟩ (by kernel_rfl) (Aq _ _ _ _ u1) (by kernel_rfl) (Z ?_)
  cases h
  refine Bb (.done _) [(1501,96224)] [(2,2),(1,1)] ?_
  simp only [go_sem]
theorem JS (n:Nat):(∀a0 a1 a2 u w y q g j r,BE n a0 a1 a2 u w y q g j=some r→Dx Tryz.prog Tryz.f145 [1,1,1,1,1,0,1,0] (.tup []) [(1501,⟨List.map Agent.dm r.net.agents,some 5,0,true⟩)] [(1,[.own 1501,.ro (List.map Net.ds a0.book),.mpr 2]),(2,[.mpc (.int .i64) (List.map prB r.removed)])] ⟨[(0,.box 1 0),(1,.int .i64 a1),(2,.int .i64 a2),(8,.box 1000004500 0),(84,.own 1000004001),(85,.int .i64 ((List.length y:Nat):Int)),(86,.int .i64 j)],[(1000004000,some ⟨List.map Agent.dm g,some 5,0,true⟩),(1000004001,some ⟨List.map Au y,some 1,0,false⟩)],[(2,some [.mpc (.int .i64) (List.map prB q)]),(1,some [.own 1000004000,.ro (List.map Net.ds a0.book),.mpr 2]),(1000004500,some [.int .i64 u,.int .i64 w])]⟩):=by
 induction n with
 |zero=>exact((fun _ _ _ _ _ _ _ _ _ _ h=>by rw [BE] at h; cases h))
 | succ n ih=>
  have ih0:=ih
  ·intro a0 a1 a2 u w y q g j r h
   rw [BE] at h
   refine BB rfl rfl (Z ?_)
   refine Ag (Z ?_)
   refine AD h (fun h=>Z ?_) (fun h=>Z ?_)
   ·refine AB (Z ?_)
    replace h:=AF h; obtain⟨k,b,h⟩:=h
    refine AR b rfl (Z ?_)
    refine Ac (AU b) (Z ?_)
    replace h:=AF h; obtain⟨d,c,h⟩:=h
    refine AP ⟨[],[(1001,1000004000)],[(1,1,0),(2,2,0)],[(1501,256112)],[],true⟩ (by kernel_rfl) (Aq _ _ _ _ c) (by kernel_rfl) (Z ?_)
    refine AB (Z ?_)
    refine Am (AN rfl rfl (ih0 a0 a1 a2 u w y d.removed d.net.agents (IntKind.i64.wrap (j+1)) _ h):) (.one ⟨_,.done _,[(1000004000,256112),(1000004001,1000004001)],[(2,2),(1,1),(1000004500,1000004500)],?_⟩)
    try simp only [go_sem]
   ·refine AB (Z ?_)
    replace h:=AF h; obtain⟨e,i,h⟩:=h
    refine AP ⟨[],[(1001,1000004000)],[(1,1,0),(2,2,0)],[(1501,288064)],[],true⟩ (by kernel_rfl) (Aq _ _ _ _ i) (by kernel_rfl) (Z ?_)
    cases h
    refine Bb (.done _) [(1501,288064)] [(2,2),(1,1)] ?_
    simp only [go_sem]
theorem JT (n:Nat):(∀a0 a1 a2 u w y q g j k b r,BN n a0 a1 a2 u w y q g j k b=some r→Dx Tryz.prog Tryz.f145 [1,1,1,1,0,1,0] (.tup []) [(1501,⟨List.map Agent.dm r.net.agents,some 5,0,true⟩)] [(1,[.own 1501,.ro (List.map Net.ds a0.book),.mpr 2]),(2,[.mpc (.int .i64) (List.map prB r.removed)])] ⟨[(0,.box 1 0),(1,.int .i64 a1),(2,.int .i64 a2),(7,.box 1000002500 0),(8,.box 1000002501 0),(9,.own 1000002001),(63,.int .i64 (IntKind.i64.wrap ((((List.length u.ports):Nat):Int) - 1))),(64,.int .i64 b)],[(1000002000,some ⟨List.map Agent.dm q,some 5,0,true⟩),(1000002001,some ⟨List.map Au k,some 1,0,false⟩)],[(2,some [.mpc (.int .i64) (List.map prB y)]),(1,some [.own 1000002000,.ro (List.map Net.ds a0.book),.mpr 2]),(1000002500,some [.int .i64 w.kind,.int .i64 w.level,.int .i64 w.value,.ro (List.map Au w.data),.ro (List.replicate (List.length w.ports) [])]),(1000002501,some [.int .i64 g,.int .i64 j])]⟩):=by
 induction n with
 |zero=>exact((fun _ _ _ _ _ _ _ _ _ _ _ _ h=>by rw [BN] at h; cases h))
 | succ n ih=>
  have ih0:=ih
  ·intro a0 a1 a2 u w y q g j k b r h
   rw [BN] at h
   refine BB rfl rfl (Z ?_)
   refine Ag (Z ?_)
   refine AD h (fun h=>Z ?_) (fun h=>Z ?_)
   ·refine AB (Z ?_)
    replace h:=AF h; obtain⟨d,c,h⟩:=h
    refine AP ⟨[],[(1001,1000002000)],[(1,1,0),(2,2,0)],[(1501,128048)],[],true⟩ (by kernel_rfl) (AL _ _ _ _ _ _ _ c) (by kernel_rfl) (Z ?_)
    refine AB (Z ?_)
    refine Ae [false,false,false,false,false,false,true] (Tr.sq [6] .fin) (by kernel_rfl) (Z ?_)
    replace h:=AF h; obtain⟨e,i,h⟩:=h
    refine AP ⟨[],[(1001,128048)],[(1,1,0)],[(1501,144096)],[],true⟩ (by kernel_rfl) (Ec _ _ _ _ i) (by kernel_rfl) (Z ?_)
    refine AB (Z ?_)
    replace h:=AF h; obtain⟨l,t,h⟩:=h
    have hq_:=BX t
    obtain⟨hv11003a,hv11003b⟩:=hq_
    refine EP false (Z ?_)
    refine BW (by refine⟨?_,?_⟩ <;> (try simp only [List.length_map,List.length_append,List.length_cons,List.length_nil] at*) <;> (try unfold maxLen) <;> omega) (Z ?_)
    refine BA (List.map Au l) (by rw [← hv11003b]; simp only [List.map_append,List.map_cons,List.map_nil,List.nil_append,List.append_nil,go_sem,slD]) (Z ?_)
    refine AB (Z ?_)
    refine Am (AN rfl rfl (ih0 a0 a1 a2 u w d.2.removed e.agents d.1 2 l (IntKind.i64.wrap (b+1)) _ h):) (.one ⟨_,.done _,[(1000002000,144096),(1000002001,176048)],[(2,2),(1,1),(1000002500,1000002500),(1000002501,1000002501)],?_⟩)
    try simp only [go_sem]
   ·refine AB (Z ?_)
    refine AZ (AN rfl rfl (JS fuel a0 a1 a2 g j k y q 0 _ h):) (.one ⟨_,.done _,[(1000004000,1000002000),(1000004001,1000002001)],[(2,2),(1,1),(1000004500,1000002501)],?_⟩)
    try simp only [go_sem]
theorem AI (a0:Rewriter) (a1:Int) (a2:Int) (u:Agent) (w:Agent) (y:Int × Rewriter) (r:Rewriter) (h:De a0 a1 a2 u w y=some r):Dx Tryz.prog Tryz.f145 [1,1,1] (.tup []) [(1501,⟨List.map Agent.dm r.net.agents,some 5,0,true⟩)] [(1,[.own 1501,.ro (List.map Net.ds a0.book),.mpr 2]),(2,[.mpc (.int .i64) (List.map prB r.removed)])] ⟨[(0,.box 1 0),(1,.int .i64 a1),(2,.int .i64 a2),(6,.box 1000000500 0),(7,.box 1000000501 0),(8,.box 1000000502 0)],[(1000000000,some ⟨List.map Agent.dm y.2.net.agents,some 5,0,true⟩)],[(2,some [.mpc (.int .i64) (List.map prB y.2.removed)]),(1,some [.own 1000000000,.ro (List.map Net.ds a0.book),.mpr 2]),(1000000500,some [.int .i64 u.kind,.int .i64 u.level,.int .i64 u.value,.ro (List.map Au u.data),.ro (List.replicate (List.length u.ports) [])]),(1000000501,some [.int .i64 w.kind,.int .i64 w.level,.int .i64 w.value,.ro (List.map Au w.data),.ro (List.replicate (List.length w.ports) [])]),(1000000502,some [.int .i64 y.1,.int .i64 0])]⟩:=by
 unfold De at h
 refine BB rfl rfl (Z ?_)
 refine AZ (AN rfl rfl (JT fuel a0 a1 a2 u w y.2.removed y.2.net.agents y.1 0 [] 0 _ h):) (.one ⟨_,.slot 9 2000000000 (some 1) false (by simp only [go_sem]) (by simp only [go_sem]) (.done _),[(1000002000,1000000000),(1000002001,2000000000)],[(2,2),(1,1),(1000002500,1000000501),(1000002501,1000000502)],?_⟩)
 simp only [go_sem]
 all_goals try rfl
theorem K3 (a0 a1 a2 r) (h:Bt a0 a1 a2=some r):AG Tryz.prog 145 [.box 1 0,.int .i64 a1,.int .i64 a2] [(1001,⟨List.map Agent.dm a0.net.agents,some 5,0,true⟩)] [(2,[.mpc (.int .i64) (List.map prB a0.removed)]),(1,[.own 1001,.ro (List.map Net.ds a0.book),.mpr 2])] (.tup []) [(1501,⟨List.map Agent.dm r.net.agents,some 5,0,true⟩)] [(1,[.own 1501,.ro (List.map Net.ds a0.book),.mpr 2]),(2,[.mpc (.int .i64) (List.map prB r.removed)])] :=by
 unfold Bt at h
 refine Co mixed Tryz.func145 rfl rfl rfl (by kernel_rfl) (by kernel_rfl) (Z ?_)
 refine YS [] [(16,18),(17,19)] .fin (by kernel_rfl) (Z ?_)
 replace h:=AF h; obtain⟨u,w,h⟩:=h
 refine AR w (Agent.dm_len _) (Z ?_)
 refine Ac (AU w) (Z ?_)
 replace h:=AF h; obtain⟨y,q,h⟩:=h
 refine AR q (Agent.dm_len _) (Z ?_)
 refine Ac (AU q) (Z ?_)
 refine Vq _ (by rfl) (by (first|(simp only [go_sem]; done)|(simp only [go_sem]; decide)|decide)) (by rfl) (Z ?_)
 refine Vq _ (by rfl) (by (first|(simp only [go_sem]; done)|(simp only [go_sem]; decide)|decide)) (by rfl) (Z ?_)
 refine be (by refine⟨by rfl,by rfl,trivial⟩) (Z ?_)
 refine Ul (.chdr 1016 4 1001 0 (List.length u.ports) [(5,Int.toNat a1,4)] _ (List.map Port.ds u.ports) (by (first|rfl|(simp only [go_sem]; rfl))) (by rfl) (Rx (tk:=⟨List.map Agent.dm a0.net.agents,some 5,0,true⟩) (by (first|rfl|(simp only [go_sem]; rfl))) rfl (D0 (sz:=5) (j:=4) (r:=List.map Port.ds u.ports) (AU (f:=Agent.dm) w) (Agent.dm_len _) (by rw [Agent.dm_eq]; rfl))) (List.length_map _) (.chdr 1017 4 1001 0 (List.length y.ports) [(5,Int.toNat a2,4)] _ (List.map Port.ds y.ports) (by (first|rfl|(simp only [go_sem]; rfl))) (by rfl) (Rx (tk:=⟨List.map Agent.dm a0.net.agents,some 5,0,true⟩) (by (first|rfl|(simp only [go_sem]; rfl))) rfl (D0 (sz:=5) (j:=4) (r:=List.map Port.ds y.ports) (AU (f:=Agent.dm) q) (Agent.dm_len _) (by rw [Agent.dm_eq]; rfl))) (List.length_map _) (.done _))) (Z ?_)
 all_goals try rfl
 refine AD h (fun h=>Z ?_) (fun h=>Z ?_)
 ·refine Ae [false,false,false,false,false,false,false,false,false,false,false,false,false,false,true,true,true] (Tr.sq [14,15,16] .fin) (by kernel_rfl) (Z ?_)
  replace h:=AF h; obtain⟨g,k,h⟩:=h
  refine AK (MJ _ _ k) (Z ?_)
  replace h:=AF h; obtain⟨b,d,h⟩:=h
  refine AR d rfl (Z ?_)
  replace h:=AF h; obtain⟨c,e,h⟩:=h
  refine AP ⟨[],[(1001,1001)],[(1,1,0),(2,2,0)],[(1501,48224)],[],true⟩ (by kernel_rfl) (AL _ _ _ _ _ _ _ e) (by kernel_rfl) (Z ?_)
  replace h:=AF h; obtain⟨i,l,h⟩:=h
  refine AP ⟨[],[(1001,48224)],[(1,1,0),(2,2,0)],[(1501,48256)],[],true⟩ (by kernel_rfl) (Aq _ _ _ _ l) (by kernel_rfl) (Z ?_)
  refine AB (Z ?_)
  cases h
  refine Bb (.done _) [(1501,48256)] [(2,2),(1,1)] ?_
  simp only [go_sem]
 ·refine AB (Z ?_)
  replace h:=AF h; obtain⟨t,s,h⟩:=h
  replace h:=AF h; obtain⟨o,z,h⟩:=h
  refine Ae [false,false,true,false,true,false,true,true,true,true,true,true,true] (.br 2 (.br 4 (.br 6 (Tr.sq [7] (.br 8 (.br 9 (Tr.sq [10,11,12] .fin) (.br 11 (Tr.sq [9,10,12] .fin) .stop)) (.br 11 (Tr.sq [8,9,10,12] .fin) .stop))) (.br 11 (Tr.sq [6,7,8,9,10,12] .fin) .stop)) (.br 6 (.br 4 (Tr.sq [7] (.br 8 (.br 9 (Tr.sq [10,11,12] .fin) (.br 11 (Tr.sq [9,10,12] .fin) .stop)) (.br 11 (Tr.sq [8,9,10,12] .fin) .stop))) (.br 11 (Tr.sq [4,7,8,9,10,12] .fin) .stop)) (.br 11 (.br 4 (Tr.sq [6,7,8,9,10,12] .fin) (.br 6 (Tr.sq [4,7,8,9,10,12] .fin) .stop)) .stop))) (.br 4 (.br 2 (.br 6 (Tr.sq [7] (.br 8 (.br 9 (Tr.sq [10,11,12] .fin) (.br 11 (Tr.sq [9,10,12] .fin) .stop)) (.br 11 (Tr.sq [8,9,10,12] .fin) .stop))) (.br 11 (Tr.sq [6,7,8,9,10,12] .fin) .stop)) (.br 6 (Tr.sq [7] (.br 2 (.br 8 (.br 9 (Tr.sq [10,11,12] .fin) (.br 11 (Tr.sq [9,10,12] .fin) .stop)) (.br 11 (Tr.sq [8,9,10,12] .fin) .stop)) (.br 8 (.br 2 (.br 9 (Tr.sq [10,11,12] .fin) (.br 11 (Tr.sq [9,10,12] .fin) .stop)) (.br 11 (Tr.sq [2,9,10,12] .fin) .stop)) (.br 11 (.br 2 (Tr.sq [8,9,10,12] .fin) (.br 8 (Tr.sq [2,9,10,12] .fin) .stop)) .stop)))) (.br 11 (.br 2 (Tr.sq [6,7,8,9,10,12] .fin) (.br 6 (Tr.sq [7] (.br 2 (Tr.sq [8,9,10,12] .fin) (.br 8 (Tr.sq [2,9,10,12] .fin) .stop))) .stop)) .stop))) (.br 6 (.br 2 (.br 4 (Tr.sq [7] (.br 8 (.br 9 (Tr.sq [10,11,12] .fin) (.br 11 (Tr.sq [9,10,12] .fin) .stop)) (.br 11 (Tr.sq [8,9,10,12] .fin) .stop))) (.br 11 (Tr.sq [4,7,8,9,10,12] .fin) .stop)) (.br 4 (Tr.sq [7] (.br 2 (.br 8 (.br 9 (Tr.sq [10,11,12] .fin) (.br 11 (Tr.sq [9,10,12] .fin) .stop)) (.br 11 (Tr.sq [8,9,10,12] .fin) .stop)) (.br 8 (.br 2 (.br 9 (Tr.sq [10,11,12] .fin) (.br 11 (Tr.sq [9,10,12] .fin) .stop)) (.br 11 (Tr.sq [2,9,10,12] .fin) .stop)) (.br 11 (.br 2 (Tr.sq [8,9,10,12] .fin) (.br 8 (Tr.sq [2,9,10,12] .fin) .stop)) .stop)))) (.br 11 (.br 2 (Tr.sq [4,7,8,9,10,12] .fin) (.br 4 (Tr.sq [7] (.br 2 (Tr.sq [8,9,10,12] .fin) (.br 8 (Tr.sq [2,9,10,12] .fin) .stop))) .stop)) .stop))) (.br 11 (.br 2 (.br 4 (Tr.sq [6,7,8,9,10,12] .fin) (.br 6 (Tr.sq [4,7,8,9,10,12] .fin) .stop)) (.br 4 (.br 2 (Tr.sq [6,7,8,9,10,12] .fin) (.br 6 (Tr.sq [7] (.br 2 (Tr.sq [8,9,10,12] .fin) (.br 8 (Tr.sq [2,9,10,12] .fin) .stop))) .stop)) (.br 6 (.br 2 (Tr.sq [4,7,8,9,10,12] .fin) (.br 4 (Tr.sq [7] (.br 2 (Tr.sq [8,9,10,12] .fin) (.br 8 (Tr.sq [2,9,10,12] .fin) .stop))) .stop)) .stop))) .stop)))) (by kernel_rfl) ?_
  try simp only [go_sem]
  try simp only [go_sem]
  refine Ba ?_ ?_
  ·try simp only [go_sem]
   try simp only [go_sem]
   refine Ba ?_ ?_
   ·try simp only [go_sem]
    try simp only [go_sem]
    refine Ba (Z ?_) (Z ?_)
    ·refine AR s rfl ?_
     try simp only [go_sem]
     try simp only [go_sem]
     refine Ba ?_ ?_
     ·try simp only [go_sem]
      try simp only [go_sem]
      refine Ba (Z ?_) (Z ?_)
      ·refine AP ⟨[],[(1001,1001)],[(1,1,0),(2,2,0)],[(1501,64144)],[],true⟩ (by kernel_rfl) (AL _ _ _ _ _ _ _ z) (by kernel_rfl) (Z ?_)
       refine AJ (AN rfl rfl (AI a0 a1 a2 u y o _ h):) (.one ⟨_,.done _,[(1000000000,64144)],[(2,2),(1,1),(1000000500,1016),(1000000501,1017),(1000000502,4011)],?_⟩)
       try simp only [go_sem]
      ·refine AP ⟨[],[(1001,1001)],[(1,1,0),(2,2,0)],[(1501,64144)],[],true⟩ (by kernel_rfl) (AL _ _ _ _ _ _ _ z) (by kernel_rfl) (Z ?_)
       refine AJ (AN rfl rfl (AI a0 a1 a2 u y o _ h):) (.one ⟨_,.done _,[(1000000000,64144)],[(2,2),(1,1),(1000000500,1016),(1000000501,1017),(1000000502,4011)],?_⟩)
       try simp only [go_sem]
     ·try simp only [go_sem]
      refine AP ⟨[],[(1001,1001)],[(1,1,0),(2,2,0)],[(1501,64144)],[],true⟩ (by kernel_rfl) (AL _ _ _ _ _ _ _ z) (by kernel_rfl) (Z ?_)
      refine AJ (AN rfl rfl (AI a0 a1 a2 u y o _ h):) (.one ⟨_,.done _,[(1000000000,64144)],[(2,2),(1,1),(1000000500,1016),(1000000501,1017),(1000000502,4011)],?_⟩)
      try simp only [go_sem]
    ·refine AR s rfl (Z ?_)
     refine AP ⟨[],[(1001,1001)],[(1,1,0),(2,2,0)],[(1501,64144)],[],true⟩ (by kernel_rfl) (AL _ _ _ _ _ _ _ z) (by kernel_rfl) (Z ?_)
     refine AJ (AN rfl rfl (AI a0 a1 a2 u y o _ h):) (.one ⟨_,.done _,[(1000000000,64144)],[(2,2),(1,1),(1000000500,1016),(1000000501,1017),(1000000502,4011)],?_⟩)
     try simp only [go_sem]
   ·try simp only [go_sem]
    refine Ba ?_ ?_
    ·try simp only [go_sem]
     try simp only [go_sem]
     refine Ba (Z ?_) (Z ?_)
     ·refine AR s rfl ?_
      try simp only [go_sem]
      try simp only [go_sem]
      refine Ba ?_ ?_
      ·try simp only [go_sem]
       try simp only [go_sem]
       refine Ba (Z ?_) (Z ?_)
       ·refine AP ⟨[],[(1001,1001)],[(1,1,0),(2,2,0)],[(1501,64144)],[],true⟩ (by kernel_rfl) (AL _ _ _ _ _ _ _ z) (by kernel_rfl) (Z ?_)
        refine AJ (AN rfl rfl (AI a0 a1 a2 u y o _ h):) (.one ⟨_,.done _,[(1000000000,64144)],[(2,2),(1,1),(1000000500,1016),(1000000501,1017),(1000000502,4011)],?_⟩)
        try simp only [go_sem]
       ·refine AP ⟨[],[(1001,1001)],[(1,1,0),(2,2,0)],[(1501,64144)],[],true⟩ (by kernel_rfl) (AL _ _ _ _ _ _ _ z) (by kernel_rfl) (Z ?_)
        refine AJ (AN rfl rfl (AI a0 a1 a2 u y o _ h):) (.one ⟨_,.done _,[(1000000000,64144)],[(2,2),(1,1),(1000000500,1016),(1000000501,1017),(1000000502,4011)],?_⟩)
        try simp only [go_sem]
      ·try simp only [go_sem]
       refine AP ⟨[],[(1001,1001)],[(1,1,0),(2,2,0)],[(1501,64144)],[],true⟩ (by kernel_rfl) (AL _ _ _ _ _ _ _ z) (by kernel_rfl) (Z ?_)
       refine AJ (AN rfl rfl (AI a0 a1 a2 u y o _ h):) (.one ⟨_,.done _,[(1000000000,64144)],[(2,2),(1,1),(1000000500,1016),(1000000501,1017),(1000000502,4011)],?_⟩)
       try simp only [go_sem]
     ·refine AR s rfl (Z ?_)
      refine AP ⟨[],[(1001,1001)],[(1,1,0),(2,2,0)],[(1501,64144)],[],true⟩ (by kernel_rfl) (AL _ _ _ _ _ _ _ z) (by kernel_rfl) (Z ?_)
      refine AJ (AN rfl rfl (AI a0 a1 a2 u y o _ h):) (.one ⟨_,.done _,[(1000000000,64144)],[(2,2),(1,1),(1000000500,1016),(1000000501,1017),(1000000502,4011)],?_⟩)
      try simp only [go_sem]
    ·try simp only [go_sem]
     try simp only [go_sem]
     refine Ba (Z ?_) (Z ?_)
     ·refine AR s rfl (Z ?_)
      refine AP ⟨[],[(1001,1001)],[(1,1,0),(2,2,0)],[(1501,64144)],[],true⟩ (by kernel_rfl) (AL _ _ _ _ _ _ _ z) (by kernel_rfl) (Z ?_)
      refine AJ (AN rfl rfl (AI a0 a1 a2 u y o _ h):) (.one ⟨_,.done _,[(1000000000,64144)],[(2,2),(1,1),(1000000500,1016),(1000000501,1017),(1000000502,4011)],?_⟩)
      try simp only [go_sem]
     ·refine AR s rfl (Z ?_)
      refine AP ⟨[],[(1001,1001)],[(1,1,0),(2,2,0)],[(1501,64144)],[],true⟩ (by kernel_rfl) (AL _ _ _ _ _ _ _ z) (by kernel_rfl) (Z ?_)
      refine AJ (AN rfl rfl (AI a0 a1 a2 u y o _ h):) (.one ⟨_,.done _,[(1000000000,64144)],[(2,2),(1,1),(1000000500,1016),(1000000501,1017),(1000000502,4011)],?_⟩)
      try simp only [go_sem]
  ·try simp only [go_sem]
   refine Ba ?_ ?_
   ·try simp only [go_sem]
    try simp only [go_sem]
    refine Ba ?_ ?_
    ·try simp only [go_sem]
     try simp only [go_sem]
     refine Ba (Z ?_) (Z ?_)
     ·refine AR s rfl ?_
      try simp only [go_sem]
      try simp only [go_sem]
      refine Ba ?_ ?_
      ·try simp only [go_sem]
       try simp only [go_sem]
       refine Ba (Z ?_) (Z ?_)
       ·refine AP ⟨[],[(1001,1001)],[(1,1,0),(2,2,0)],[(1501,64144)],[],true⟩ (by kernel_rfl) (AL _ _ _ _ _ _ _ z) (by kernel_rfl) (Z ?_)
        refine AJ (AN rfl rfl (AI a0 a1 a2 u y o _ h):) (.one ⟨_,.done _,[(1000000000,64144)],[(2,2),(1,1),(1000000500,1016),(1000000501,1017),(1000000502,4011)],?_⟩)
        try simp only [go_sem]
       ·refine AP ⟨[],[(1001,1001)],[(1,1,0),(2,2,0)],[(1501,64144)],[],true⟩ (by kernel_rfl) (AL _ _ _ _ _ _ _ z) (by kernel_rfl) (Z ?_)
        refine AJ (AN rfl rfl (AI a0 a1 a2 u y o _ h):) (.one ⟨_,.done _,[(1000000000,64144)],[(2,2),(1,1),(1000000500,1016),(1000000501,1017),(1000000502,4011)],?_⟩)
        try simp only [go_sem]
      ·try simp only [go_sem]
       refine AP ⟨[],[(1001,1001)],[(1,1,0),(2,2,0)],[(1501,64144)],[],true⟩ (by kernel_rfl) (AL _ _ _ _ _ _ _ z) (by kernel_rfl) (Z ?_)
       refine AJ (AN rfl rfl (AI a0 a1 a2 u y o _ h):) (.one ⟨_,.done _,[(1000000000,64144)],[(2,2),(1,1),(1000000500,1016),(1000000501,1017),(1000000502,4011)],?_⟩)
       try simp only [go_sem]
     ·refine AR s rfl (Z ?_)
      refine AP ⟨[],[(1001,1001)],[(1,1,0),(2,2,0)],[(1501,64144)],[],true⟩ (by kernel_rfl) (AL _ _ _ _ _ _ _ z) (by kernel_rfl) (Z ?_)
      refine AJ (AN rfl rfl (AI a0 a1 a2 u y o _ h):) (.one ⟨_,.done _,[(1000000000,64144)],[(2,2),(1,1),(1000000500,1016),(1000000501,1017),(1000000502,4011)],?_⟩)
      try simp only [go_sem]
    ·try simp only [go_sem]
     refine Ba ?_ ?_
     ·try simp only [go_sem]
      refine AR s rfl ?_
      try simp only [go_sem]
      try simp only [go_sem]
      refine Ba ?_ ?_
      ·try simp only [go_sem]
       try simp only [go_sem]
       refine Ba ?_ ?_
       ·try simp only [go_sem]
        try simp only [go_sem]
        refine Ba (Z ?_) (Z ?_)
        ·refine AP ⟨[],[(1001,1001)],[(1,1,0),(2,2,0)],[(1501,64144)],[],true⟩ (by kernel_rfl) (AL _ _ _ _ _ _ _ z) (by kernel_rfl) (Z ?_)
         refine AJ (AN rfl rfl (AI a0 a1 a2 u y o _ h):) (.one ⟨_,.done _,[(1000000000,64144)],[(2,2),(1,1),(1000000500,1016),(1000000501,1017),(1000000502,4011)],?_⟩)
         try simp only [go_sem]
        ·refine AP ⟨[],[(1001,1001)],[(1,1,0),(2,2,0)],[(1501,64144)],[],true⟩ (by kernel_rfl) (AL _ _ _ _ _ _ _ z) (by kernel_rfl) (Z ?_)
         refine AJ (AN rfl rfl (AI a0 a1 a2 u y o _ h):) (.one ⟨_,.done _,[(1000000000,64144)],[(2,2),(1,1),(1000000500,1016),(1000000501,1017),(1000000502,4011)],?_⟩)
         try simp only [go_sem]
       ·try simp only [go_sem]
        refine AP ⟨[],[(1001,1001)],[(1,1,0),(2,2,0)],[(1501,64144)],[],true⟩ (by kernel_rfl) (AL _ _ _ _ _ _ _ z) (by kernel_rfl) (Z ?_)
        refine AJ (AN rfl rfl (AI a0 a1 a2 u y o _ h):) (.one ⟨_,.done _,[(1000000000,64144)],[(2,2),(1,1),(1000000500,1016),(1000000501,1017),(1000000502,4011)],?_⟩)
        try simp only [go_sem]
      ·try simp only [go_sem]
       refine Ba ?_ ?_
       ·try simp only [go_sem]
        try simp only [go_sem]
        refine Ba ?_ ?_
        ·try simp only [go_sem]
         try simp only [go_sem]
         refine Ba (Z ?_) (Z ?_)
         ·refine AP ⟨[],[(1001,1001)],[(1,1,0),(2,2,0)],[(1501,64144)],[],true⟩ (by kernel_rfl) (AL _ _ _ _ _ _ _ z) (by kernel_rfl) (Z ?_)
          refine AJ (AN rfl rfl (AI a0 a1 a2 u y o _ h):) (.one ⟨_,.done _,[(1000000000,64144)],[(2,2),(1,1),(1000000500,1016),(1000000501,1017),(1000000502,4011)],?_⟩)
          try simp only [go_sem]
         ·refine AP ⟨[],[(1001,1001)],[(1,1,0),(2,2,0)],[(1501,64144)],[],true⟩ (by kernel_rfl) (AL _ _ _ _ _ _ _ z) (by kernel_rfl) (Z ?_)
          refine AJ (AN rfl rfl (AI a0 a1 a2 u y o _ h):) (.one ⟨_,.done _,[(1000000000,64144)],[(2,2),(1,1),(1000000500,1016),(1000000501,1017),(1000000502,4011)],?_⟩)
          try simp only [go_sem]
        ·try simp only [go_sem]
         refine AP ⟨[],[(1001,1001)],[(1,1,0),(2,2,0)],[(1501,64144)],[],true⟩ (by kernel_rfl) (AL _ _ _ _ _ _ _ z) (by kernel_rfl) (Z ?_)
         refine AJ (AN rfl rfl (AI a0 a1 a2 u y o _ h):) (.one ⟨_,.done _,[(1000000000,64144)],[(2,2),(1,1),(1000000500,1016),(1000000501,1017),(1000000502,4011)],?_⟩)
         try simp only [go_sem]
       ·try simp only [go_sem]
        try simp only [go_sem]
        refine Ba (Z ?_) (Z ?_)
        ·refine AP ⟨[],[(1001,1001)],[(1,1,0),(2,2,0)],[(1501,64144)],[],true⟩ (by kernel_rfl) (AL _ _ _ _ _ _ _ z) (by kernel_rfl) (Z ?_)
         refine AJ (AN rfl rfl (AI a0 a1 a2 u y o _ h):) (.one ⟨_,.done _,[(1000000000,64144)],[(2,2),(1,1),(1000000500,1016),(1000000501,1017),(1000000502,4011)],?_⟩)
         try simp only [go_sem]
        ·refine AP ⟨[],[(1001,1001)],[(1,1,0),(2,2,0)],[(1501,64144)],[],true⟩ (by kernel_rfl) (AL _ _ _ _ _ _ _ z) (by kernel_rfl) (Z ?_)
         refine AJ (AN rfl rfl (AI a0 a1 a2 u y o _ h):) (.one ⟨_,.done _,[(1000000000,64144)],[(2,2),(1,1),(1000000500,1016),(1000000501,1017),(1000000502,4011)],?_⟩)
         try simp only [go_sem]
     ·try simp only [go_sem]
      try simp only [go_sem]
      refine Ba (Z ?_) (Z ?_)
      ·refine AR s rfl (Z ?_)
       refine AP ⟨[],[(1001,1001)],[(1,1,0),(2,2,0)],[(1501,64144)],[],true⟩ (by kernel_rfl) (AL _ _ _ _ _ _ _ z) (by kernel_rfl) (Z ?_)
       refine AJ (AN rfl rfl (AI a0 a1 a2 u y o _ h):) (.one ⟨_,.done _,[(1000000000,64144)],[(2,2),(1,1),(1000000500,1016),(1000000501,1017),(1000000502,4011)],?_⟩)
       try simp only [go_sem]
      ·refine AR s rfl ?_
       try simp only [go_sem]
       try simp only [go_sem]
       refine Ba (Z ?_) (Z ?_)
       ·refine AP ⟨[],[(1001,1001)],[(1,1,0),(2,2,0)],[(1501,64144)],[],true⟩ (by kernel_rfl) (AL _ _ _ _ _ _ _ z) (by kernel_rfl) (Z ?_)
        refine AJ (AN rfl rfl (AI a0 a1 a2 u y o _ h):) (.one ⟨_,.done _,[(1000000000,64144)],[(2,2),(1,1),(1000000500,1016),(1000000501,1017),(1000000502,4011)],?_⟩)
        try simp only [go_sem]
       ·refine AP ⟨[],[(1001,1001)],[(1,1,0),(2,2,0)],[(1501,64144)],[],true⟩ (by kernel_rfl) (AL _ _ _ _ _ _ _ z) (by kernel_rfl) (Z ?_)
        refine AJ (AN rfl rfl (AI a0 a1 a2 u y o _ h):) (.one ⟨_,.done _,[(1000000000,64144)],[(2,2),(1,1),(1000000500,1016),(1000000501,1017),(1000000502,4011)],?_⟩)
        try simp only [go_sem]
   ·try simp only [go_sem]
    refine Ba ?_ ?_
    ·try simp only [go_sem]
     try simp only [go_sem]
     refine Ba ?_ ?_
     ·try simp only [go_sem]
      try simp only [go_sem]
      refine Ba (Z ?_) (Z ?_)
      ·refine AR s rfl ?_
       try simp only [go_sem]
       try simp only [go_sem]
       refine Ba ?_ ?_
       ·try simp only [go_sem]
        try simp only [go_sem]
        refine Ba (Z ?_) (Z ?_)
        ·refine AP ⟨[],[(1001,1001)],[(1,1,0),(2,2,0)],[(1501,64144)],[],true⟩ (by kernel_rfl) (AL _ _ _ _ _ _ _ z) (by kernel_rfl) (Z ?_)
         refine AJ (AN rfl rfl (AI a0 a1 a2 u y o _ h):) (.one ⟨_,.done _,[(1000000000,64144)],[(2,2),(1,1),(1000000500,1016),(1000000501,1017),(1000000502,4011)],?_⟩)
         try simp only [go_sem]
        ·refine AP ⟨[],[(1001,1001)],[(1,1,0),(2,2,0)],[(1501,64144)],[],true⟩ (by kernel_rfl) (AL _ _ _ _ _ _ _ z) (by kernel_rfl) (Z ?_)
         refine AJ (AN rfl rfl (AI a0 a1 a2 u y o _ h):) (.one ⟨_,.done _,[(1000000000,64144)],[(2,2),(1,1),(1000000500,1016),(1000000501,1017),(1000000502,4011)],?_⟩)
         try simp only [go_sem]
       ·try simp only [go_sem]
        refine AP ⟨[],[(1001,1001)],[(1,1,0),(2,2,0)],[(1501,64144)],[],true⟩ (by kernel_rfl) (AL _ _ _ _ _ _ _ z) (by kernel_rfl) (Z ?_)
        refine AJ (AN rfl rfl (AI a0 a1 a2 u y o _ h):) (.one ⟨_,.done _,[(1000000000,64144)],[(2,2),(1,1),(1000000500,1016),(1000000501,1017),(1000000502,4011)],?_⟩)
        try simp only [go_sem]
      ·refine AR s rfl (Z ?_)
       refine AP ⟨[],[(1001,1001)],[(1,1,0),(2,2,0)],[(1501,64144)],[],true⟩ (by kernel_rfl) (AL _ _ _ _ _ _ _ z) (by kernel_rfl) (Z ?_)
       refine AJ (AN rfl rfl (AI a0 a1 a2 u y o _ h):) (.one ⟨_,.done _,[(1000000000,64144)],[(2,2),(1,1),(1000000500,1016),(1000000501,1017),(1000000502,4011)],?_⟩)
       try simp only [go_sem]
     ·try simp only [go_sem]
      refine Ba ?_ ?_
      ·try simp only [go_sem]
       refine AR s rfl ?_
       try simp only [go_sem]
       try simp only [go_sem]
       refine Ba ?_ ?_
       ·try simp only [go_sem]
        try simp only [go_sem]
        refine Ba ?_ ?_
        ·try simp only [go_sem]
         try simp only [go_sem]
         refine Ba (Z ?_) (Z ?_)
         ·refine AP ⟨[],[(1001,1001)],[(1,1,0),(2,2,0)],[(1501,64144)],[],true⟩ (by kernel_rfl) (AL _ _ _ _ _ _ _ z) (by kernel_rfl) (Z ?_)
          refine AJ (AN rfl rfl (AI a0 a1 a2 u y o _ h):) (.one ⟨_,.done _,[(1000000000,64144)],[(2,2),(1,1),(1000000500,1016),(1000000501,1017),(1000000502,4011)],?_⟩)
          try simp only [go_sem]
         ·refine AP ⟨[],[(1001,1001)],[(1,1,0),(2,2,0)],[(1501,64144)],[],true⟩ (by kernel_rfl) (AL _ _ _ _ _ _ _ z) (by kernel_rfl) (Z ?_)
          refine AJ (AN rfl rfl (AI a0 a1 a2 u y o _ h):) (.one ⟨_,.done _,[(1000000000,64144)],[(2,2),(1,1),(1000000500,1016),(1000000501,1017),(1000000502,4011)],?_⟩)
          try simp only [go_sem]
        ·try simp only [go_sem]
         refine AP ⟨[],[(1001,1001)],[(1,1,0),(2,2,0)],[(1501,64144)],[],true⟩ (by kernel_rfl) (AL _ _ _ _ _ _ _ z) (by kernel_rfl) (Z ?_)
         refine AJ (AN rfl rfl (AI a0 a1 a2 u y o _ h):) (.one ⟨_,.done _,[(1000000000,64144)],[(2,2),(1,1),(1000000500,1016),(1000000501,1017),(1000000502,4011)],?_⟩)
         try simp only [go_sem]
       ·try simp only [go_sem]
        refine Ba ?_ ?_
        ·try simp only [go_sem]
         try simp only [go_sem]
         refine Ba ?_ ?_
         ·try simp only [go_sem]
          try simp only [go_sem]
          refine Ba (Z ?_) (Z ?_)
          ·refine AP ⟨[],[(1001,1001)],[(1,1,0),(2,2,0)],[(1501,64144)],[],true⟩ (by kernel_rfl) (AL _ _ _ _ _ _ _ z) (by kernel_rfl) (Z ?_)
           refine AJ (AN rfl rfl (AI a0 a1 a2 u y o _ h):) (.one ⟨_,.done _,[(1000000000,64144)],[(2,2),(1,1),(1000000500,1016),(1000000501,1017),(1000000502,4011)],?_⟩)
           try simp only [go_sem]
          ·refine AP ⟨[],[(1001,1001)],[(1,1,0),(2,2,0)],[(1501,64144)],[],true⟩ (by kernel_rfl) (AL _ _ _ _ _ _ _ z) (by kernel_rfl) (Z ?_)
           refine AJ (AN rfl rfl (AI a0 a1 a2 u y o _ h):) (.one ⟨_,.done _,[(1000000000,64144)],[(2,2),(1,1),(1000000500,1016),(1000000501,1017),(1000000502,4011)],?_⟩)
           try simp only [go_sem]
         ·try simp only [go_sem]
          refine AP ⟨[],[(1001,1001)],[(1,1,0),(2,2,0)],[(1501,64144)],[],true⟩ (by kernel_rfl) (AL _ _ _ _ _ _ _ z) (by kernel_rfl) (Z ?_)
          refine AJ (AN rfl rfl (AI a0 a1 a2 u y o _ h):) (.one ⟨_,.done _,[(1000000000,64144)],[(2,2),(1,1),(1000000500,1016),(1000000501,1017),(1000000502,4011)],?_⟩)
          try simp only [go_sem]
        ·try simp only [go_sem]
         try simp only [go_sem]
         refine Ba (Z ?_) (Z ?_)
         ·refine AP ⟨[],[(1001,1001)],[(1,1,0),(2,2,0)],[(1501,64144)],[],true⟩ (by kernel_rfl) (AL _ _ _ _ _ _ _ z) (by kernel_rfl) (Z ?_)
          refine AJ (AN rfl rfl (AI a0 a1 a2 u y o _ h):) (.one ⟨_,.done _,[(1000000000,64144)],[(2,2),(1,1),(1000000500,1016),(1000000501,1017),(1000000502,4011)],?_⟩)
          try simp only [go_sem]
         ·refine AP ⟨[],[(1001,1001)],[(1,1,0),(2,2,0)],[(1501,64144)],[],true⟩ (by kernel_rfl) (AL _ _ _ _ _ _ _ z) (by kernel_rfl) (Z ?_)
          refine AJ (AN rfl rfl (AI a0 a1 a2 u y o _ h):) (.one ⟨_,.done _,[(1000000000,64144)],[(2,2),(1,1),(1000000500,1016),(1000000501,1017),(1000000502,4011)],?_⟩)
          try simp only [go_sem]
      ·try simp only [go_sem]
       try simp only [go_sem]
       refine Ba (Z ?_) (Z ?_)
       ·refine AR s rfl (Z ?_)
        refine AP ⟨[],[(1001,1001)],[(1,1,0),(2,2,0)],[(1501,64144)],[],true⟩ (by kernel_rfl) (AL _ _ _ _ _ _ _ z) (by kernel_rfl) (Z ?_)
        refine AJ (AN rfl rfl (AI a0 a1 a2 u y o _ h):) (.one ⟨_,.done _,[(1000000000,64144)],[(2,2),(1,1),(1000000500,1016),(1000000501,1017),(1000000502,4011)],?_⟩)
        try simp only [go_sem]
       ·refine AR s rfl ?_
        try simp only [go_sem]
        try simp only [go_sem]
        refine Ba (Z ?_) (Z ?_)
        ·refine AP ⟨[],[(1001,1001)],[(1,1,0),(2,2,0)],[(1501,64144)],[],true⟩ (by kernel_rfl) (AL _ _ _ _ _ _ _ z) (by kernel_rfl) (Z ?_)
         refine AJ (AN rfl rfl (AI a0 a1 a2 u y o _ h):) (.one ⟨_,.done _,[(1000000000,64144)],[(2,2),(1,1),(1000000500,1016),(1000000501,1017),(1000000502,4011)],?_⟩)
         try simp only [go_sem]
        ·refine AP ⟨[],[(1001,1001)],[(1,1,0),(2,2,0)],[(1501,64144)],[],true⟩ (by kernel_rfl) (AL _ _ _ _ _ _ _ z) (by kernel_rfl) (Z ?_)
         refine AJ (AN rfl rfl (AI a0 a1 a2 u y o _ h):) (.one ⟨_,.done _,[(1000000000,64144)],[(2,2),(1,1),(1000000500,1016),(1000000501,1017),(1000000502,4011)],?_⟩)
         try simp only [go_sem]
    ·try simp only [go_sem]
     try simp only [go_sem]
     refine Ba ?_ ?_
     ·try simp only [go_sem]
      try simp only [go_sem]
      refine Ba (Z ?_) (Z ?_)
      ·refine AR s rfl (Z ?_)
       refine AP ⟨[],[(1001,1001)],[(1,1,0),(2,2,0)],[(1501,64144)],[],true⟩ (by kernel_rfl) (AL _ _ _ _ _ _ _ z) (by kernel_rfl) (Z ?_)
       refine AJ (AN rfl rfl (AI a0 a1 a2 u y o _ h):) (.one ⟨_,.done _,[(1000000000,64144)],[(2,2),(1,1),(1000000500,1016),(1000000501,1017),(1000000502,4011)],?_⟩)
       try simp only [go_sem]
      ·refine AR s rfl (Z ?_)
       refine AP ⟨[],[(1001,1001)],[(1,1,0),(2,2,0)],[(1501,64144)],[],true⟩ (by kernel_rfl) (AL _ _ _ _ _ _ _ z) (by kernel_rfl) (Z ?_)
       refine AJ (AN rfl rfl (AI a0 a1 a2 u y o _ h):) (.one ⟨_,.done _,[(1000000000,64144)],[(2,2),(1,1),(1000000500,1016),(1000000501,1017),(1000000502,4011)],?_⟩)
       try simp only [go_sem]
     ·try simp only [go_sem]
      refine Ba ?_ ?_
      ·try simp only [go_sem]
       try simp only [go_sem]
       refine Ba (Z ?_) (Z ?_)
       ·refine AR s rfl (Z ?_)
        refine AP ⟨[],[(1001,1001)],[(1,1,0),(2,2,0)],[(1501,64144)],[],true⟩ (by kernel_rfl) (AL _ _ _ _ _ _ _ z) (by kernel_rfl) (Z ?_)
        refine AJ (AN rfl rfl (AI a0 a1 a2 u y o _ h):) (.one ⟨_,.done _,[(1000000000,64144)],[(2,2),(1,1),(1000000500,1016),(1000000501,1017),(1000000502,4011)],?_⟩)
        try simp only [go_sem]
       ·refine AR s rfl ?_
        try simp only [go_sem]
        try simp only [go_sem]
        refine Ba (Z ?_) (Z ?_)
        ·refine AP ⟨[],[(1001,1001)],[(1,1,0),(2,2,0)],[(1501,64144)],[],true⟩ (by kernel_rfl) (AL _ _ _ _ _ _ _ z) (by kernel_rfl) (Z ?_)
         refine AJ (AN rfl rfl (AI a0 a1 a2 u y o _ h):) (.one ⟨_,.done _,[(1000000000,64144)],[(2,2),(1,1),(1000000500,1016),(1000000501,1017),(1000000502,4011)],?_⟩)
         try simp only [go_sem]
        ·refine AP ⟨[],[(1001,1001)],[(1,1,0),(2,2,0)],[(1501,64144)],[],true⟩ (by kernel_rfl) (AL _ _ _ _ _ _ _ z) (by kernel_rfl) (Z ?_)
         refine AJ (AN rfl rfl (AI a0 a1 a2 u y o _ h):) (.one ⟨_,.done _,[(1000000000,64144)],[(2,2),(1,1),(1000000500,1016),(1000000501,1017),(1000000502,4011)],?_⟩)
         try simp only [go_sem]
      ·try simp only [go_sem]
       try simp only [go_sem]
       refine Ba (Z ?_) (Z ?_)
       ·refine AR s rfl (Z ?_)
        refine AP ⟨[],[(1001,1001)],[(1,1,0),(2,2,0)],[(1501,64144)],[],true⟩ (by kernel_rfl) (AL _ _ _ _ _ _ _ z) (by kernel_rfl) (Z ?_)
        refine AJ (AN rfl rfl (AI a0 a1 a2 u y o _ h):) (.one ⟨_,.done _,[(1000000000,64144)],[(2,2),(1,1),(1000000500,1016),(1000000501,1017),(1000000502,4011)],?_⟩)
        try simp only [go_sem]
       ·refine AR s rfl ?_
        try simp only [go_sem]
        try simp only [go_sem]
        refine Ba (Z ?_) (Z ?_)
        ·refine AP ⟨[],[(1001,1001)],[(1,1,0),(2,2,0)],[(1501,64144)],[],true⟩ (by kernel_rfl) (AL _ _ _ _ _ _ _ z) (by kernel_rfl) (Z ?_)
         refine AJ (AN rfl rfl (AI a0 a1 a2 u y o _ h):) (.one ⟨_,.done _,[(1000000000,64144)],[(2,2),(1,1),(1000000500,1016),(1000000501,1017),(1000000502,4011)],?_⟩)
         try simp only [go_sem]
        ·refine AP ⟨[],[(1001,1001)],[(1,1,0),(2,2,0)],[(1501,64144)],[],true⟩ (by kernel_rfl) (AL _ _ _ _ _ _ _ z) (by kernel_rfl) (Z ?_)
         refine AJ (AN rfl rfl (AI a0 a1 a2 u y o _ h):) (.one ⟨_,.done _,[(1000000000,64144)],[(2,2),(1,1),(1000000500,1016),(1000000501,1017),(1000000502,4011)],?_⟩)
         try simp only [go_sem]
end Go.Proofs.YtckcfdggbbabfaaGreat.Ab
