/-
 The functions do what their models say. Printed by wip/ab/gen.py.
-/
import Derived.Test.YtckcfdggbbabfaaGreatModG
import Derived.Test.YtckcfdggbbabfaaGreatTi2
import Derived.Test.YtckcfdggbbabfaaGreatWlkC
namespace Go.Proofs.YtckcfdggbbabfaaGreat.Ab
set_option linter.unusedVariables false
set_option linter.unusedSimpArgs false
set_option maxRecDepth 20000
set_option maxHeartbeats 4000000
open Go.RowKit
theorem AJ (a0 a1 a2 a3 a4 a5 r) (h:Ai a0 a1 a2 a3 a4 a5=some r):AG Tryz.prog 143 [.box 1 0,.int .i64 a1,.int .i64 a2,.int .i64 a3,.ro (List.map AO a4),.int .i64 a5] [(1001,⟨List.map Agent.dm a0.net.agents,some 5,0,true⟩)] [(2,[.mpc (.int .i64) (List.map prB a0.removed)]),(1,[.own 1001,.ro (List.map Net.ds a0.book),.mpr 2])] (.int .i64 r.1) [(1501,⟨List.map Agent.dm r.2.net.agents,some 5,0,true⟩)] [(1,[.own 1501,.ro (List.map Net.ds a0.book),.mpr 2]),(2,[.mpc (.int .i64) (List.map prB r.2.removed)])] :=by
 unfold Ai at h
 refine agF Tryz.func143 mixed (h:=Z ?_)
 refine AY [false,false,false,false,false,false,false,false,false,false,false,false,false,false,false,true,true,true,true,true] (Tr.sq [15,16,17,18,19] .fin) (by kernel_rfl) (Z ?_)
 replace h:=AB h; obtain⟨u,w,h⟩:=h
 refine bE (IN _ _ w) (by (first|rfl|(simp only [go_sem]; rfl))) (by first|rfl|(simp only [go_sem])) (Z ?_)
 replace h:=AB h; obtain⟨y,q,h⟩:=h
 have hq_:=Gz q
 obtain⟨hv2012a,hv2012b,hv2012c⟩:=hq_
 refine BC (by refine⟨?_,?_,?_⟩ <;> omega) (Z ?_)
 refine An (List.map Port.ds y) (by rw [← hv2012c]; simp only [List.map_replicate,go_sem,Port.ds_eq]) (Z ?_)
 replace h:=AB h; obtain⟨g,j,h⟩:=h
 have hq_:=A5 j
 obtain⟨hv2015a,hv2015b⟩:=hq_
 refine Di true (Z ?_)
 refine BC (by refine⟨?_,?_⟩ <;> (try simp only [List.length_map,List.length_append,List.length_cons,List.length_nil] at*) <;> (try unfold maxLen) <;> omega) (Z ?_)
 refine An (List.map Agent.dm g) (by rw [← hv2015b]; simp only [List.map_append,List.map_cons,List.map_nil,List.nil_append,List.append_nil,go_sem,Agent.ds_eq,Agent.dm_eq]) (Z ?_)
 refine AF ?_
 cases h
 refine A7 (.done _) [(1501,32240)] [(2,2),(1,1)] ?_
 simp only [go_sem]
theorem JQ (n:Nat):(∀a0 a2 u w y q r,A8 n a0 a2 u w y q=some r→DA Tryz.prog Tryz.f141 [1,1,1,1,1,1,1,1,0] (.tup []) [(1501,⟨List.map Agent.dm r.net.agents,some 5,0,true⟩)] [(1,[.own 1501,.ro (List.map Net.ds a0.book),.mpr 2]),(2,[.mpc (.int .i64) (List.map prB r.removed)])] ⟨[(0,.box 1 0),(2,.int .i64 a2),(100,.own 1000002001),(101,.int .i64 ((List.length u:Nat):Int)),(102,.int .i64 q)],[(1000002000,some ⟨List.map Agent.dm y,some 5,0,true⟩),(1000002001,some ⟨List.map AO u,some 1,0,false⟩)],[(2,some [.mpc (.int .i64) (List.map prB w)]),(1,some [.own 1000002000,.ro (List.map Net.ds a0.book),.mpr 2])]⟩):=by
 induction n with
 |zero=>exact((fun _ _ _ _ _ _ _ h=>by rw [A8] at h; cases h))
 | succ n ih=>
  have ih0:=ih
  ·intro a0 a2 u w y q r h
   rw [A8] at h
   refine Av rfl rfl (Z ?_)
   refine AX (Z ?_)
   refine AD h (fun h=>Z ?_) (fun h=>Z ?_)
   ·refine AF ?_
    replace h:=AB h; obtain⟨g,j,h⟩:=h
    refine AM j rfl (Z ?_)
    refine AZ (AP j) (Z ?_)
    replace h:=AB h; obtain⟨k,b,h⟩:=h
    refine caG ⟨[],[(1001,1000002000)],[(1,1,0),(2,2,0)],[(1501,272112)],[],true⟩ (Ar _ _ _ _ b) (Z ?_)
    refine AF ?_
    exact lpG (ih0 a0 a2 u k.removed k.net.agents (IntKind.i64.wrap (q+1)) _ h) [(1000002000,272112),(1000002001,1000002001)] [(2,2),(1,1)]
   ·cases h
    refine A7 (.done _) [(1501,1000002000)] [(2,2),(1,1)] ?_
    simp only [go_sem]
theorem JR (n:Nat):(∀a0 a1 a2 u w y q g j k r,Ap n a0 a1 a2 u w y q g j k=some r→DA Tryz.prog Tryz.f141 [1,1,1,1,0,1,0] (.tup []) [(1501,⟨List.map Agent.dm r.net.agents,some 5,0,true⟩)] [(1,[.own 1501,.ro (List.map Net.ds a0.book),.mpr 2]),(2,[.mpc (.int .i64) (List.map prB r.removed)])] ⟨[(0,.box 1 0),(1,.int .i64 a1),(2,.int .i64 a2),(6,.box 1000001500 0),(7,.int .i64 w.1),(8,.int .i64 y.1),(9,.own 1000001001),(10,.int .i64 k)],[(1000001000,some ⟨List.map Agent.dm g,some 5,0,true⟩),(1000001001,some ⟨List.map AO j,some 1,0,false⟩)],[(2,some [.mpc (.int .i64) (List.map prB q)]),(1,some [.own 1000001000,.ro (List.map Net.ds a0.book),.mpr 2]),(1000001500,some [.int .i64 u.kind,.int .i64 u.level,.int .i64 u.value,.ro (List.map AO u.data),.ro (List.replicate (List.length u.ports) [])])]⟩):=by
 induction n with
 |zero=>exact((fun _ _ _ _ _ _ _ _ _ _ _ h=>by rw [Ap] at h; cases h))
 | succ n ih=>
  have ih0:=ih
  ·intro a0 a1 a2 u w y q g j k r h
   rw [Ap] at h
   refine Av rfl rfl (Z ?_)
   refine AX (Z ?_)
   refine AD h (fun h=>Z ?_) (fun h=>Z ?_)
   ·refine AF ?_
    replace h:=AB h; obtain⟨b,d,h⟩:=h
    refine AM d (Agent.dm_len _) (Z ?_)
    refine AZ (AP d) (Z ?_)
    replace h:=AB h; obtain⟨c,e,h⟩:=h
    refine caG ⟨[],[(1001,1000001000)],[(1,1,0),(2,2,0)],[(1501,128160)],[],true⟩ (AJ _ _ _ _ _ _ _ e) (Z ?_)
    refine AF ?_
    replace h:=AB h; obtain⟨i,l,h⟩:=h
    refine caG ⟨[],[(1001,128160)],[(1,1,0)],[(1501,144128)],[],true⟩ (FI _ _ _ _ l) (Z ?_)
    refine AF ?_
    replace h:=AB h; obtain⟨t,s,h⟩:=h
    refine caG ⟨[],[(1001,144128)],[(1,1,0)],[(1501,160128)],[],true⟩ (FI _ _ _ _ s) (Z ?_)
    refine AF ?_
    replace h:=AB h; obtain⟨o,z,h⟩:=h
    have hq_:=A5 z
    obtain⟨hv11003a,hv11003b⟩:=hq_
    refine Di false (Z ?_)
    refine BC (by refine⟨?_,?_⟩ <;> (try simp only [List.length_map,List.length_append,List.length_cons,List.length_nil] at*) <;> (try unfold maxLen) <;> omega) (Z ?_)
    refine An (List.map AO o) (by rw [← hv11003b]; simp only [List.map_append,List.map_cons,List.map_nil,List.nil_append,List.append_nil,go_sem,slD]) (Z ?_)
    refine AF ?_
    exact lpG (ih0 a0 a1 a2 u w y c.2.removed t.agents o (IntKind.i64.wrap (k+1)) _ h) [(1000001000,160128),(1000001001,176048)] [(2,2),(1,1),(1000001500,1000001500)]
   ·refine AF ?_
    replace h:=AB h; obtain⟨u1,u2,h⟩:=h
    refine caG ⟨[],[(1001,1000001000)],[(1,1,0),(2,2,0)],[(1501,192080)],[],true⟩ (Ar _ _ _ _ u2) (Z ?_)
    refine AF ?_
    replace h:=AB h; obtain⟨u3,u4,h⟩:=h
    refine caG ⟨[],[(1001,192080)],[(1,1,0),(2,2,0)],[(1501,208080)],[],true⟩ (Ar _ _ _ _ u4) (Z ?_)
    refine AF ?_
    exact loG (JQ fuel a0 a2 j u3.removed u3.net.agents 0 _ h) [(1000002000,208080),(1000002001,1000001001)] [(2,2),(1,1)]
theorem Kh (a0 a1 a2 r) (h:Cv a0 a1 a2=some r):AG Tryz.prog 141 [.box 1 0,.int .i64 a1,.int .i64 a2] [(1001,⟨List.map Agent.dm a0.net.agents,some 5,0,true⟩)] [(2,[.mpc (.int .i64) (List.map prB a0.removed)]),(1,[.own 1001,.ro (List.map Net.ds a0.book),.mpr 2])] (.tup []) [(1501,⟨List.map Agent.dm r.net.agents,some 5,0,true⟩)] [(1,[.own 1501,.ro (List.map Net.ds a0.book),.mpr 2]),(2,[.mpc (.int .i64) (List.map prB r.removed)])] :=by
 unfold Cv at h
 refine agF Tryz.func141 mixed (h:=Z ?_)
 replace h:=AB h; obtain⟨u,w,h⟩:=h
 refine AM w (Agent.dm_len _) (Z ?_)
 refine AZ (AP w) (Z ?_)
 refine Wu (.chdr 1008 4 1001 0 (List.length u.ports) [(5,Int.toNat a2,4)] _ (List.map Port.ds u.ports) (by (first|rfl|(simp only [go_sem]; rfl))) (by rfl) (T4 (tk:=⟨List.map Agent.dm a0.net.agents,some 5,0,true⟩) (by (first|rfl|(simp only [go_sem]; rfl))) rfl (DJ (sz:=5) (j:=4) (r:=List.map Port.ds u.ports) (AP (f:=Agent.dm) w) (Agent.dm_len _) (by rw [Agent.dm_eq]; rfl))) (List.length_map _) (.done _)) (Z ?_)
 all_goals try rfl
 replace h:=AB h; obtain⟨y,q,h⟩:=h
 refine caG ⟨[],[(1001,1001)],[(1,1,0),(2,2,0)],[(1501,32192)],[],true⟩ (AJ _ _ _ _ _ _ _ q) (Z ?_)
 refine AF ?_
 replace h:=AB h; obtain⟨g,k,h⟩:=h
 refine caG ⟨[],[(1001,32192)],[(1,1,0),(2,2,0)],[(1501,48192)],[],true⟩ (AJ _ _ _ _ _ _ _ k) (Z ?_)
 refine AF ?_
 refine Ch (Gy rfl rfl (JR fuel a0 a1 a2 u y g g.2.removed g.2.net.agents [] 1 _ h):) (.one ⟨_,.slot 9 2000000000 (some 1) false (by simp only [go_sem]) (by simp only [go_sem]) (.done _),[(1000001000,48192),(1000001001,2000000000)],[(2,2),(1,1),(1000001500,1008)],?_⟩)
 simp only [go_sem]
 all_goals try rfl
theorem Nw (a0 r) (h:Hl a0=some r):AC Tryz.prog 183 [.bool a0] (.int .i64 r):=by
 unfold Hl at h
 refine acF Tryz.func183 mixed (h:=Z ?_)
 refine AD h (fun h=>Z ?_) (fun h=>Z ?_)
 ·cases h
  simp only [go_sem]
 ·refine AF ?_
  cases h
  simp only [go_sem]
theorem Gq (a0 r) (h:D6 a0=some r):AC Tryz.prog 227 [.int .i64 a0] (.int .i64 r):=by
 unfold D6 at h
 refine acF Tryz.func227 mixed (h:=Z ?_)
 cases h
 simp only [go_sem]
theorem UT (a0 a1 a2 r) (h:Fm a0 a1 a2=some r):AC Tryz.prog 199 [.int .i64 a0,.int .i64 a1,.int .i64 a2] (.int .i64 r):=by
 unfold Fm at h
 refine acF Tryz.func199 mixed (h:=Z ?_)
 replace h:=AB h; obtain⟨u,w,h⟩:=h
 refine AH (Gq _ _ w) (Z ?_)
 replace h:=AB h; obtain⟨y,q,h⟩:=h
 refine AH (Gq _ _ q) (Z ?_)
 refine AF ?_
 refine AD h (fun h=>Z ?_) (fun h=>Z ?_)
 ·replace h:=AB h; obtain⟨g,j,h⟩:=h
  refine AH (Gq _ _ j) (Z ?_)
  refine AF ?_
  cases h
  simp only [go_sem]
 ·refine AD h (fun h=>Z ?_) (fun h=>Z ?_)
  ·replace h:=AB h; obtain⟨k,b,h⟩:=h
   refine AH (Gq _ _ b) (Z ?_)
   refine AF ?_
   cases h
   simp only [go_sem]
  ·refine AD h (fun h=>Z ?_) (fun h=>Z ?_)
   ·replace h:=AB h; obtain⟨d,c,h⟩:=h
    refine AH (Gq _ _ c) (Z ?_)
    refine AF ?_
    cases h
    simp only [go_sem]
   ·refine AD h (fun h=>Z ?_) (fun h=>Z ?_)
    ·refine AD h (fun h=>Z ?_) (fun h=>Z ?_)
     ·cases h
      simp only [go_sem]
     ·refine AF ?_
      replace h:=AB h; obtain⟨e,i,h⟩:=h
      refine BC (X3 i) (Z ?_)
      replace h:=AB h; obtain⟨l,t,h⟩:=h
      refine AH (Gq _ _ t) (Z ?_)
      refine AF ?_
      cases h
      simp only [go_sem]
    ·refine AD h (fun h=>Z ?_) (fun h=>Z ?_)
     ·replace h:=AB h; obtain⟨s,o,h⟩:=h
      refine AH (Nw _ _ o) (Z ?_)
      refine AF ?_
      cases h
      simp only [go_sem]
     ·refine AD h (fun h=>Z ?_) (fun h=>Z ?_)
      ·replace h:=AB h; obtain⟨z,u1,h⟩:=h
       refine AH (Nw _ _ u1) (Z ?_)
       refine AF ?_
       cases h
       simp only [go_sem]
      ·refine AF ?_
       cases h
       simp only [go_sem]
theorem LZ (a0 a1 a2 r) (h:Cm a0 a1 a2=some r):AG Tryz.prog 144 [.box 1 0,.int .i64 a1,.int .i64 a2] [(1001,⟨List.map Agent.dm a0.net.agents,some 5,0,true⟩)] [(2,[.mpc (.int .i64) (List.map prB a0.removed)]),(1,[.own 1001,.ro (List.map Net.ds a0.book),.mpr 2])] (.tup []) [(1501,⟨List.map Agent.dm r.net.agents,some 5,0,true⟩)] [(1,[.own 1501,.ro (List.map Net.ds a0.book),.mpr 2]),(2,[.mpc (.int .i64) (List.map prB r.removed)])] :=by
 unfold Cm at h
 refine agF Tryz.func144 mixed (h:=Z ?_)
 refine AY [false,false,false,false,false,false,false,false,false,false,false,false,false,false,false,false,false,false,false,true] (Tr.sq [19] .fin) (by kernel_rfl) (Z ?_)
 replace h:=AB h; obtain⟨u,w,h⟩:=h
 refine AM w (Agent.dm_len _) (Z ?_)
 refine AZ (AP w) (Z ?_)
 replace h:=AB h; obtain⟨y,q,h⟩:=h
 refine AM q (Agent.dm_len _) (Z ?_)
 refine AZ (AP q) (Z ?_)
 refine AF ?_
 refine AD h (fun h=>Z ?_) (fun h=>Z ?_)
 ·replace h:=AB h; obtain⟨g,j,h⟩:=h
  refine W2 [3006] ⟨[],[(1001,1001)],[(1,1,0),(2,2,0)],[(1501,48112)],[],true⟩ (by kernel_rfl) (AJ _ _ _ _ _ _ _ j) (by kernel_rfl) (Z ?_)
  refine AF ?_
  replace h:=AB h; obtain⟨k,b,h⟩:=h
  refine caG ⟨[],[(1001,48112)],[(1,1,0),(2,2,0)],[(1501,64080)],[],true⟩ (Ar _ _ _ _ b) (Z ?_)
  refine AF ?_
  replace h:=AB h; obtain⟨d,c,h⟩:=h
  refine caG ⟨[],[(1001,64080)],[(1,1,0),(2,2,0)],[(1501,80080)],[],true⟩ (Ar _ _ _ _ c) (Z ?_)
  refine AF ?_
  cases h
  refine A7 (.done _) [(1501,80080)] [(2,2),(1,1)] ?_
  simp only [go_sem]
 ·refine AF ?_
  refine AY [false,false,false,false,false,false,false,false,false,false,false,false,true,true,true] (Tr.sq [12,13,14] .fin) (by kernel_rfl) (Z ?_)
  replace h:=AB h; obtain⟨e,i,h⟩:=h
  refine AM i rfl (Z ?_)
  replace h:=AB h; obtain⟨l,t,h⟩:=h
  refine AH (UT _ _ _ _ t) (Z ?_)
  replace h:=AB h; obtain⟨s,o,h⟩:=h
  refine caG ⟨[],[(1001,1001)],[(1,1,0),(2,2,0)],[(1501,96192)],[],true⟩ (AJ _ _ _ _ _ _ _ o) (Z ?_)
  replace h:=AB h; obtain⟨z,u1,h⟩:=h
  refine caG ⟨[],[(1001,96192)],[(1,1,0),(2,2,0)],[(1501,96224)],[],true⟩ (Ar _ _ _ _ u1) (Z ?_)
  cases h
  refine A7 (.done _) [(1501,96224)] [(2,2),(1,1)] ?_
  simp only [go_sem]
theorem Ki (n:Nat):(∀a0 a1 a2 u w y q g j r,BF n a0 a1 a2 u w y q g j=some r→DA Tryz.prog Tryz.f145 [1,1,1,1,1,0,1,0] (.tup []) [(1501,⟨List.map Agent.dm r.net.agents,some 5,0,true⟩)] [(1,[.own 1501,.ro (List.map Net.ds a0.book),.mpr 2]),(2,[.mpc (.int .i64) (List.map prB r.removed)])] ⟨[(0,.box 1 0),(1,.int .i64 a1),(2,.int .i64 a2),(8,.box 1000004500 0),(84,.own 1000004001),(85,.int .i64 ((List.length y:Nat):Int)),(86,.int .i64 j)],[(1000004000,some ⟨List.map Agent.dm g,some 5,0,true⟩),(1000004001,some ⟨List.map AO y,some 1,0,false⟩)],[(2,some [.mpc (.int .i64) (List.map prB q)]),(1,some [.own 1000004000,.ro (List.map Net.ds a0.book),.mpr 2]),(1000004500,some [.int .i64 u,.int .i64 w])]⟩):=by
 induction n with
 |zero=>exact((fun _ _ _ _ _ _ _ _ _ _ h=>by rw [BF] at h; cases h))
 | succ n ih=>
  have ih0:=ih
  ·intro a0 a1 a2 u w y q g j r h
   rw [BF] at h
   refine Av rfl rfl (Z ?_)
   refine AX (Z ?_)
   refine AD h (fun h=>Z ?_) (fun h=>Z ?_)
   ·refine AF ?_
    replace h:=AB h; obtain⟨k,b,h⟩:=h
    refine AM b rfl (Z ?_)
    refine AZ (AP b) (Z ?_)
    replace h:=AB h; obtain⟨d,c,h⟩:=h
    refine caG ⟨[],[(1001,1000004000)],[(1,1,0),(2,2,0)],[(1501,256112)],[],true⟩ (Ar _ _ _ _ c) (Z ?_)
    refine AF ?_
    exact lpG (ih0 a0 a1 a2 u w y d.removed d.net.agents (IntKind.i64.wrap (j+1)) _ h) [(1000004000,256112),(1000004001,1000004001)] [(2,2),(1,1),(1000004500,1000004500)]
   ·refine AF ?_
    replace h:=AB h; obtain⟨e,i,h⟩:=h
    refine caG ⟨[],[(1001,1000004000)],[(1,1,0),(2,2,0)],[(1501,288064)],[],true⟩ (Ar _ _ _ _ i) (Z ?_)
    cases h
    refine A7 (.done _) [(1501,288064)] [(2,2),(1,1)] ?_
    simp only [go_sem]
theorem Kj (n:Nat):(∀a0 a1 a2 u w y q g j k b r,BP n a0 a1 a2 u w y q g j k b=some r→DA Tryz.prog Tryz.f145 [1,1,1,1,0,1,0] (.tup []) [(1501,⟨List.map Agent.dm r.net.agents,some 5,0,true⟩)] [(1,[.own 1501,.ro (List.map Net.ds a0.book),.mpr 2]),(2,[.mpc (.int .i64) (List.map prB r.removed)])] ⟨[(0,.box 1 0),(1,.int .i64 a1),(2,.int .i64 a2),(7,.box 1000002500 0),(8,.box 1000002501 0),(9,.own 1000002001),(63,.int .i64 (IntKind.i64.wrap ((((List.length u.ports):Nat):Int) - 1))),(64,.int .i64 b)],[(1000002000,some ⟨List.map Agent.dm q,some 5,0,true⟩),(1000002001,some ⟨List.map AO k,some 1,0,false⟩)],[(2,some [.mpc (.int .i64) (List.map prB y)]),(1,some [.own 1000002000,.ro (List.map Net.ds a0.book),.mpr 2]),(1000002500,some [.int .i64 w.kind,.int .i64 w.level,.int .i64 w.value,.ro (List.map AO w.data),.ro (List.replicate (List.length w.ports) [])]),(1000002501,some [.int .i64 g,.int .i64 j])]⟩):=by
 induction n with
 |zero=>exact((fun _ _ _ _ _ _ _ _ _ _ _ _ h=>by rw [BP] at h; cases h))
 | succ n ih=>
  have ih0:=ih
  ·intro a0 a1 a2 u w y q g j k b r h
   rw [BP] at h
   refine Av rfl rfl (Z ?_)
   refine AX (Z ?_)
   refine AD h (fun h=>Z ?_) (fun h=>Z ?_)
   ·refine AF ?_
    replace h:=AB h; obtain⟨d,c,h⟩:=h
    refine caG ⟨[],[(1001,1000002000)],[(1,1,0),(2,2,0)],[(1501,128048)],[],true⟩ (AJ _ _ _ _ _ _ _ c) (Z ?_)
    refine AF ?_
    refine AY [false,false,false,false,false,false,true] (Tr.sq [6] .fin) (by kernel_rfl) (Z ?_)
    replace h:=AB h; obtain⟨e,i,h⟩:=h
    refine caG ⟨[],[(1001,128048)],[(1,1,0)],[(1501,144096)],[],true⟩ (FI _ _ _ _ i) (Z ?_)
    refine AF ?_
    replace h:=AB h; obtain⟨l,t,h⟩:=h
    have hq_:=A5 t
    obtain⟨hv11003a,hv11003b⟩:=hq_
    refine Di false (Z ?_)
    refine BC (by refine⟨?_,?_⟩ <;> (try simp only [List.length_map,List.length_append,List.length_cons,List.length_nil] at*) <;> (try unfold maxLen) <;> omega) (Z ?_)
    refine An (List.map AO l) (by rw [← hv11003b]; simp only [List.map_append,List.map_cons,List.map_nil,List.nil_append,List.append_nil,go_sem,slD]) (Z ?_)
    refine AF ?_
    exact lpG (ih0 a0 a1 a2 u w d.2.removed e.agents d.1 2 l (IntKind.i64.wrap (b+1)) _ h) [(1000002000,144096),(1000002001,176048)] [(2,2),(1,1),(1000002500,1000002500),(1000002501,1000002501)]
   ·refine AF ?_
    exact loG (Ki fuel a0 a1 a2 g j k y q 0 _ h) [(1000004000,1000002000),(1000004001,1000002001)] [(2,2),(1,1),(1000004500,1000002501)]
theorem AI (a0:Rewriter) (a1:Int) (a2:Int) (u:Agent) (w:Agent) (y:Int × Rewriter) (r:Rewriter) (h:D7 a0 a1 a2 u w y=some r):DA Tryz.prog Tryz.f145 [1,1,1] (.tup []) [(1501,⟨List.map Agent.dm r.net.agents,some 5,0,true⟩)] [(1,[.own 1501,.ro (List.map Net.ds a0.book),.mpr 2]),(2,[.mpc (.int .i64) (List.map prB r.removed)])] ⟨[(0,.box 1 0),(1,.int .i64 a1),(2,.int .i64 a2),(6,.box 1000000500 0),(7,.box 1000000501 0),(8,.box 1000000502 0)],[(1000000000,some ⟨List.map Agent.dm y.2.net.agents,some 5,0,true⟩)],[(2,some [.mpc (.int .i64) (List.map prB y.2.removed)]),(1,some [.own 1000000000,.ro (List.map Net.ds a0.book),.mpr 2]),(1000000500,some [.int .i64 u.kind,.int .i64 u.level,.int .i64 u.value,.ro (List.map AO u.data),.ro (List.replicate (List.length u.ports) [])]),(1000000501,some [.int .i64 w.kind,.int .i64 w.level,.int .i64 w.value,.ro (List.map AO w.data),.ro (List.replicate (List.length w.ports) [])]),(1000000502,some [.int .i64 y.1,.int .i64 0])]⟩:=by
 unfold D7 at h
 refine Av rfl rfl (Z ?_)
 refine Ch (Gy rfl rfl (Kj fuel a0 a1 a2 u w y.2.removed y.2.net.agents y.1 0 [] 0 _ h):) (.one ⟨_,.slot 9 2000000000 (some 1) false (by simp only [go_sem]) (by simp only [go_sem]) (.done _),[(1000002000,1000000000),(1000002001,2000000000)],[(2,2),(1,1),(1000002500,1000000501),(1000002501,1000000502)],?_⟩)
 simp only [go_sem]
 all_goals try rfl
theorem MT (a0 a1 a2 r) (h:Br a0 a1 a2=some r):AG Tryz.prog 145 [.box 1 0,.int .i64 a1,.int .i64 a2] [(1001,⟨List.map Agent.dm a0.net.agents,some 5,0,true⟩)] [(2,[.mpc (.int .i64) (List.map prB a0.removed)]),(1,[.own 1001,.ro (List.map Net.ds a0.book),.mpr 2])] (.tup []) [(1501,⟨List.map Agent.dm r.net.agents,some 5,0,true⟩)] [(1,[.own 1501,.ro (List.map Net.ds a0.book),.mpr 2]),(2,[.mpc (.int .i64) (List.map prB r.removed)])] :=by
 unfold Br at h
 refine agF Tryz.func145 mixed (h:=Z ?_)
 refine aV [] [(16,18),(17,19)] .fin (by kernel_rfl) (Z ?_)
 replace h:=AB h; obtain⟨u,w,h⟩:=h
 refine AM w (Agent.dm_len _) (Z ?_)
 refine AZ (AP w) (Z ?_)
 replace h:=AB h; obtain⟨y,q,h⟩:=h
 refine AM q (Agent.dm_len _) (Z ?_)
 refine AZ (AP q) (Z ?_)
 refine Xx _ (by rfl) (by (first|(simp only [go_sem]; done)|(simp only [go_sem]; decide)|decide)) (by rfl) (Z ?_)
 refine Xx _ (by rfl) (by (first|(simp only [go_sem]; done)|(simp only [go_sem]; decide)|decide)) (by rfl) (Z ?_)
 refine eS (by refine⟨by rfl,by rfl,trivial⟩) (Z ?_)
 refine Wu (.chdr 1016 4 1001 0 (List.length u.ports) [(5,Int.toNat a1,4)] _ (List.map Port.ds u.ports) (by (first|rfl|(simp only [go_sem]; rfl))) (by rfl) (T4 (tk:=⟨List.map Agent.dm a0.net.agents,some 5,0,true⟩) (by (first|rfl|(simp only [go_sem]; rfl))) rfl (DJ (sz:=5) (j:=4) (r:=List.map Port.ds u.ports) (AP (f:=Agent.dm) w) (Agent.dm_len _) (by rw [Agent.dm_eq]; rfl))) (List.length_map _) (.chdr 1017 4 1001 0 (List.length y.ports) [(5,Int.toNat a2,4)] _ (List.map Port.ds y.ports) (by (first|rfl|(simp only [go_sem]; rfl))) (by rfl) (T4 (tk:=⟨List.map Agent.dm a0.net.agents,some 5,0,true⟩) (by (first|rfl|(simp only [go_sem]; rfl))) rfl (DJ (sz:=5) (j:=4) (r:=List.map Port.ds y.ports) (AP (f:=Agent.dm) q) (Agent.dm_len _) (by rw [Agent.dm_eq]; rfl))) (List.length_map _) (.done _))) (Z ?_)
 all_goals try rfl
 refine AD h (fun h=>Z ?_) (fun h=>Z ?_)
 ·refine AY [false,false,false,false,false,false,false,false,false,false,false,false,false,false,true,true,true] (Tr.sq [14,15,16] .fin) (by kernel_rfl) (Z ?_)
  replace h:=AB h; obtain⟨g,k,h⟩:=h
  refine AH (Nw _ _ k) (Z ?_)
  replace h:=AB h; obtain⟨b,d,h⟩:=h
  refine AM d rfl (Z ?_)
  replace h:=AB h; obtain⟨c,e,h⟩:=h
  refine caG ⟨[],[(1001,1001)],[(1,1,0),(2,2,0)],[(1501,48224)],[],true⟩ (AJ _ _ _ _ _ _ _ e) (Z ?_)
  replace h:=AB h; obtain⟨i,l,h⟩:=h
  refine caG ⟨[],[(1001,48224)],[(1,1,0),(2,2,0)],[(1501,48256)],[],true⟩ (Ar _ _ _ _ l) (Z ?_)
  refine AF ?_
  cases h
  refine A7 (.done _) [(1501,48256)] [(2,2),(1,1)] ?_
  simp only [go_sem]
 ·refine AF ?_
  replace h:=AB h; obtain⟨t,s,h⟩:=h
  replace h:=AB h; obtain⟨o,z,h⟩:=h
  refine AY [false,false,true,false,true,false,true,true,true,true,true,true,true] (.br 2 (.br 4 (.br 6 (Tr.sq [7] (.br 8 (.br 9 (Tr.sq [10,11,12] .fin) (.br 11 (Tr.sq [9,10,12] .fin) .stop)) (.br 11 (Tr.sq [8,9,10,12] .fin) .stop))) (.br 11 (Tr.sq [6,7,8,9,10,12] .fin) .stop)) (.br 6 (.br 4 (Tr.sq [7] (.br 8 (.br 9 (Tr.sq [10,11,12] .fin) (.br 11 (Tr.sq [9,10,12] .fin) .stop)) (.br 11 (Tr.sq [8,9,10,12] .fin) .stop))) (.br 11 (Tr.sq [4,7,8,9,10,12] .fin) .stop)) (.br 11 (.br 4 (Tr.sq [6,7,8,9,10,12] .fin) (.br 6 (Tr.sq [4,7,8,9,10,12] .fin) .stop)) .stop))) (.br 4 (.br 2 (.br 6 (Tr.sq [7] (.br 8 (.br 9 (Tr.sq [10,11,12] .fin) (.br 11 (Tr.sq [9,10,12] .fin) .stop)) (.br 11 (Tr.sq [8,9,10,12] .fin) .stop))) (.br 11 (Tr.sq [6,7,8,9,10,12] .fin) .stop)) (.br 6 (Tr.sq [7] (.br 2 (.br 8 (.br 9 (Tr.sq [10,11,12] .fin) (.br 11 (Tr.sq [9,10,12] .fin) .stop)) (.br 11 (Tr.sq [8,9,10,12] .fin) .stop)) (.br 8 (.br 2 (.br 9 (Tr.sq [10,11,12] .fin) (.br 11 (Tr.sq [9,10,12] .fin) .stop)) (.br 11 (Tr.sq [2,9,10,12] .fin) .stop)) (.br 11 (.br 2 (Tr.sq [8,9,10,12] .fin) (.br 8 (Tr.sq [2,9,10,12] .fin) .stop)) .stop)))) (.br 11 (.br 2 (Tr.sq [6,7,8,9,10,12] .fin) (.br 6 (Tr.sq [7] (.br 2 (Tr.sq [8,9,10,12] .fin) (.br 8 (Tr.sq [2,9,10,12] .fin) .stop))) .stop)) .stop))) (.br 6 (.br 2 (.br 4 (Tr.sq [7] (.br 8 (.br 9 (Tr.sq [10,11,12] .fin) (.br 11 (Tr.sq [9,10,12] .fin) .stop)) (.br 11 (Tr.sq [8,9,10,12] .fin) .stop))) (.br 11 (Tr.sq [4,7,8,9,10,12] .fin) .stop)) (.br 4 (Tr.sq [7] (.br 2 (.br 8 (.br 9 (Tr.sq [10,11,12] .fin) (.br 11 (Tr.sq [9,10,12] .fin) .stop)) (.br 11 (Tr.sq [8,9,10,12] .fin) .stop)) (.br 8 (.br 2 (.br 9 (Tr.sq [10,11,12] .fin) (.br 11 (Tr.sq [9,10,12] .fin) .stop)) (.br 11 (Tr.sq [2,9,10,12] .fin) .stop)) (.br 11 (.br 2 (Tr.sq [8,9,10,12] .fin) (.br 8 (Tr.sq [2,9,10,12] .fin) .stop)) .stop)))) (.br 11 (.br 2 (Tr.sq [4,7,8,9,10,12] .fin) (.br 4 (Tr.sq [7] (.br 2 (Tr.sq [8,9,10,12] .fin) (.br 8 (Tr.sq [2,9,10,12] .fin) .stop))) .stop)) .stop))) (.br 11 (.br 2 (.br 4 (Tr.sq [6,7,8,9,10,12] .fin) (.br 6 (Tr.sq [4,7,8,9,10,12] .fin) .stop)) (.br 4 (.br 2 (Tr.sq [6,7,8,9,10,12] .fin) (.br 6 (Tr.sq [7] (.br 2 (Tr.sq [8,9,10,12] .fin) (.br 8 (Tr.sq [2,9,10,12] .fin) .stop))) .stop)) (.br 6 (.br 2 (Tr.sq [4,7,8,9,10,12] .fin) (.br 4 (Tr.sq [7] (.br 2 (Tr.sq [8,9,10,12] .fin) (.br 8 (Tr.sq [2,9,10,12] .fin) .stop))) .stop)) .stop))) .stop)))) (by kernel_rfl) ?_
  try simp only [go_sem]
  try simp only [go_sem]
  refine BW ?_ ?_
  ·try simp only [go_sem]
   try simp only [go_sem]
   refine BW ?_ ?_
   ·try simp only [go_sem]
    try simp only [go_sem]
    refine BW (Z ?_) (Z ?_)
    ·refine AM s rfl ?_
     try simp only [go_sem]
     try simp only [go_sem]
     refine BW ?_ ?_
     ·try simp only [go_sem]
      try simp only [go_sem]
      refine BW (Z ?_) (Z ?_)
      ·refine caG ⟨[],[(1001,1001)],[(1,1,0),(2,2,0)],[(1501,64144)],[],true⟩ (AJ _ _ _ _ _ _ _ z) (Z ?_)
       exact BI (AI a0 a1 a2 u y o _ h) [(1000000000,64144)] [(2,2),(1,1),(1000000500,1016),(1000000501,1017),(1000000502,4011)]
      ·refine caG ⟨[],[(1001,1001)],[(1,1,0),(2,2,0)],[(1501,64144)],[],true⟩ (AJ _ _ _ _ _ _ _ z) (Z ?_)
       exact BI (AI a0 a1 a2 u y o _ h) [(1000000000,64144)] [(2,2),(1,1),(1000000500,1016),(1000000501,1017),(1000000502,4011)]
     ·try simp only [go_sem]
      refine caG ⟨[],[(1001,1001)],[(1,1,0),(2,2,0)],[(1501,64144)],[],true⟩ (AJ _ _ _ _ _ _ _ z) (Z ?_)
      exact BI (AI a0 a1 a2 u y o _ h) [(1000000000,64144)] [(2,2),(1,1),(1000000500,1016),(1000000501,1017),(1000000502,4011)]
    ·refine AM s rfl (Z ?_)
     refine caG ⟨[],[(1001,1001)],[(1,1,0),(2,2,0)],[(1501,64144)],[],true⟩ (AJ _ _ _ _ _ _ _ z) (Z ?_)
     exact BI (AI a0 a1 a2 u y o _ h) [(1000000000,64144)] [(2,2),(1,1),(1000000500,1016),(1000000501,1017),(1000000502,4011)]
   ·try simp only [go_sem]
    refine BW ?_ ?_
    ·try simp only [go_sem]
     try simp only [go_sem]
     refine BW (Z ?_) (Z ?_)
     ·refine AM s rfl ?_
      try simp only [go_sem]
      try simp only [go_sem]
      refine BW ?_ ?_
      ·try simp only [go_sem]
       try simp only [go_sem]
       refine BW (Z ?_) (Z ?_)
       ·refine caG ⟨[],[(1001,1001)],[(1,1,0),(2,2,0)],[(1501,64144)],[],true⟩ (AJ _ _ _ _ _ _ _ z) (Z ?_)
        exact BI (AI a0 a1 a2 u y o _ h) [(1000000000,64144)] [(2,2),(1,1),(1000000500,1016),(1000000501,1017),(1000000502,4011)]
       ·refine caG ⟨[],[(1001,1001)],[(1,1,0),(2,2,0)],[(1501,64144)],[],true⟩ (AJ _ _ _ _ _ _ _ z) (Z ?_)
        exact BI (AI a0 a1 a2 u y o _ h) [(1000000000,64144)] [(2,2),(1,1),(1000000500,1016),(1000000501,1017),(1000000502,4011)]
      ·try simp only [go_sem]
       refine caG ⟨[],[(1001,1001)],[(1,1,0),(2,2,0)],[(1501,64144)],[],true⟩ (AJ _ _ _ _ _ _ _ z) (Z ?_)
       exact BI (AI a0 a1 a2 u y o _ h) [(1000000000,64144)] [(2,2),(1,1),(1000000500,1016),(1000000501,1017),(1000000502,4011)]
     ·refine AM s rfl (Z ?_)
      refine caG ⟨[],[(1001,1001)],[(1,1,0),(2,2,0)],[(1501,64144)],[],true⟩ (AJ _ _ _ _ _ _ _ z) (Z ?_)
      exact BI (AI a0 a1 a2 u y o _ h) [(1000000000,64144)] [(2,2),(1,1),(1000000500,1016),(1000000501,1017),(1000000502,4011)]
    ·try simp only [go_sem]
     try simp only [go_sem]
     refine BW (Z ?_) (Z ?_)
     ·refine AM s rfl (Z ?_)
      refine caG ⟨[],[(1001,1001)],[(1,1,0),(2,2,0)],[(1501,64144)],[],true⟩ (AJ _ _ _ _ _ _ _ z) (Z ?_)
      exact BI (AI a0 a1 a2 u y o _ h) [(1000000000,64144)] [(2,2),(1,1),(1000000500,1016),(1000000501,1017),(1000000502,4011)]
     ·refine AM s rfl (Z ?_)
      refine caG ⟨[],[(1001,1001)],[(1,1,0),(2,2,0)],[(1501,64144)],[],true⟩ (AJ _ _ _ _ _ _ _ z) (Z ?_)
      exact BI (AI a0 a1 a2 u y o _ h) [(1000000000,64144)] [(2,2),(1,1),(1000000500,1016),(1000000501,1017),(1000000502,4011)]
  ·try simp only [go_sem]
   refine BW ?_ ?_
   ·try simp only [go_sem]
    try simp only [go_sem]
    refine BW ?_ ?_
    ·try simp only [go_sem]
     try simp only [go_sem]
     refine BW (Z ?_) (Z ?_)
     ·refine AM s rfl ?_
      try simp only [go_sem]
      try simp only [go_sem]
      refine BW ?_ ?_
      ·try simp only [go_sem]
       try simp only [go_sem]
       refine BW (Z ?_) (Z ?_)
       ·refine caG ⟨[],[(1001,1001)],[(1,1,0),(2,2,0)],[(1501,64144)],[],true⟩ (AJ _ _ _ _ _ _ _ z) (Z ?_)
        exact BI (AI a0 a1 a2 u y o _ h) [(1000000000,64144)] [(2,2),(1,1),(1000000500,1016),(1000000501,1017),(1000000502,4011)]
       ·refine caG ⟨[],[(1001,1001)],[(1,1,0),(2,2,0)],[(1501,64144)],[],true⟩ (AJ _ _ _ _ _ _ _ z) (Z ?_)
        exact BI (AI a0 a1 a2 u y o _ h) [(1000000000,64144)] [(2,2),(1,1),(1000000500,1016),(1000000501,1017),(1000000502,4011)]
      ·try simp only [go_sem]
       refine caG ⟨[],[(1001,1001)],[(1,1,0),(2,2,0)],[(1501,64144)],[],true⟩ (AJ _ _ _ _ _ _ _ z) (Z ?_)
       exact BI (AI a0 a1 a2 u y o _ h) [(1000000000,64144)] [(2,2),(1,1),(1000000500,1016),(1000000501,1017),(1000000502,4011)]
     ·refine AM s rfl (Z ?_)
      refine caG ⟨[],[(1001,1001)],[(1,1,0),(2,2,0)],[(1501,64144)],[],true⟩ (AJ _ _ _ _ _ _ _ z) (Z ?_)
      exact BI (AI a0 a1 a2 u y o _ h) [(1000000000,64144)] [(2,2),(1,1),(1000000500,1016),(1000000501,1017),(1000000502,4011)]
    ·try simp only [go_sem]
     refine BW ?_ ?_
     ·try simp only [go_sem]
      refine AM s rfl ?_
      try simp only [go_sem]
      try simp only [go_sem]
      refine BW ?_ ?_
      ·try simp only [go_sem]
       try simp only [go_sem]
       refine BW ?_ ?_
       ·try simp only [go_sem]
        try simp only [go_sem]
        refine BW (Z ?_) (Z ?_)
        ·refine caG ⟨[],[(1001,1001)],[(1,1,0),(2,2,0)],[(1501,64144)],[],true⟩ (AJ _ _ _ _ _ _ _ z) (Z ?_)
         exact BI (AI a0 a1 a2 u y o _ h) [(1000000000,64144)] [(2,2),(1,1),(1000000500,1016),(1000000501,1017),(1000000502,4011)]
        ·refine caG ⟨[],[(1001,1001)],[(1,1,0),(2,2,0)],[(1501,64144)],[],true⟩ (AJ _ _ _ _ _ _ _ z) (Z ?_)
         exact BI (AI a0 a1 a2 u y o _ h) [(1000000000,64144)] [(2,2),(1,1),(1000000500,1016),(1000000501,1017),(1000000502,4011)]
       ·try simp only [go_sem]
        refine caG ⟨[],[(1001,1001)],[(1,1,0),(2,2,0)],[(1501,64144)],[],true⟩ (AJ _ _ _ _ _ _ _ z) (Z ?_)
        exact BI (AI a0 a1 a2 u y o _ h) [(1000000000,64144)] [(2,2),(1,1),(1000000500,1016),(1000000501,1017),(1000000502,4011)]
      ·try simp only [go_sem]
       refine BW ?_ ?_
       ·try simp only [go_sem]
        try simp only [go_sem]
        refine BW ?_ ?_
        ·try simp only [go_sem]
         try simp only [go_sem]
         refine BW (Z ?_) (Z ?_)
         ·refine caG ⟨[],[(1001,1001)],[(1,1,0),(2,2,0)],[(1501,64144)],[],true⟩ (AJ _ _ _ _ _ _ _ z) (Z ?_)
          exact BI (AI a0 a1 a2 u y o _ h) [(1000000000,64144)] [(2,2),(1,1),(1000000500,1016),(1000000501,1017),(1000000502,4011)]
         ·refine caG ⟨[],[(1001,1001)],[(1,1,0),(2,2,0)],[(1501,64144)],[],true⟩ (AJ _ _ _ _ _ _ _ z) (Z ?_)
          exact BI (AI a0 a1 a2 u y o _ h) [(1000000000,64144)] [(2,2),(1,1),(1000000500,1016),(1000000501,1017),(1000000502,4011)]
        ·try simp only [go_sem]
         refine caG ⟨[],[(1001,1001)],[(1,1,0),(2,2,0)],[(1501,64144)],[],true⟩ (AJ _ _ _ _ _ _ _ z) (Z ?_)
         exact BI (AI a0 a1 a2 u y o _ h) [(1000000000,64144)] [(2,2),(1,1),(1000000500,1016),(1000000501,1017),(1000000502,4011)]
       ·try simp only [go_sem]
        try simp only [go_sem]
        refine BW (Z ?_) (Z ?_)
        ·refine caG ⟨[],[(1001,1001)],[(1,1,0),(2,2,0)],[(1501,64144)],[],true⟩ (AJ _ _ _ _ _ _ _ z) (Z ?_)
         exact BI (AI a0 a1 a2 u y o _ h) [(1000000000,64144)] [(2,2),(1,1),(1000000500,1016),(1000000501,1017),(1000000502,4011)]
        ·refine caG ⟨[],[(1001,1001)],[(1,1,0),(2,2,0)],[(1501,64144)],[],true⟩ (AJ _ _ _ _ _ _ _ z) (Z ?_)
         exact BI (AI a0 a1 a2 u y o _ h) [(1000000000,64144)] [(2,2),(1,1),(1000000500,1016),(1000000501,1017),(1000000502,4011)]
     ·try simp only [go_sem]
      try simp only [go_sem]
      refine BW (Z ?_) (Z ?_)
      ·refine AM s rfl (Z ?_)
       refine caG ⟨[],[(1001,1001)],[(1,1,0),(2,2,0)],[(1501,64144)],[],true⟩ (AJ _ _ _ _ _ _ _ z) (Z ?_)
       exact BI (AI a0 a1 a2 u y o _ h) [(1000000000,64144)] [(2,2),(1,1),(1000000500,1016),(1000000501,1017),(1000000502,4011)]
      ·refine AM s rfl ?_
       try simp only [go_sem]
       try simp only [go_sem]
       refine BW (Z ?_) (Z ?_)
       ·refine caG ⟨[],[(1001,1001)],[(1,1,0),(2,2,0)],[(1501,64144)],[],true⟩ (AJ _ _ _ _ _ _ _ z) (Z ?_)
        exact BI (AI a0 a1 a2 u y o _ h) [(1000000000,64144)] [(2,2),(1,1),(1000000500,1016),(1000000501,1017),(1000000502,4011)]
       ·refine caG ⟨[],[(1001,1001)],[(1,1,0),(2,2,0)],[(1501,64144)],[],true⟩ (AJ _ _ _ _ _ _ _ z) (Z ?_)
        exact BI (AI a0 a1 a2 u y o _ h) [(1000000000,64144)] [(2,2),(1,1),(1000000500,1016),(1000000501,1017),(1000000502,4011)]
   ·try simp only [go_sem]
    refine BW ?_ ?_
    ·try simp only [go_sem]
     try simp only [go_sem]
     refine BW ?_ ?_
     ·try simp only [go_sem]
      try simp only [go_sem]
      refine BW (Z ?_) (Z ?_)
      ·refine AM s rfl ?_
       try simp only [go_sem]
       try simp only [go_sem]
       refine BW ?_ ?_
       ·try simp only [go_sem]
        try simp only [go_sem]
        refine BW (Z ?_) (Z ?_)
        ·refine caG ⟨[],[(1001,1001)],[(1,1,0),(2,2,0)],[(1501,64144)],[],true⟩ (AJ _ _ _ _ _ _ _ z) (Z ?_)
         exact BI (AI a0 a1 a2 u y o _ h) [(1000000000,64144)] [(2,2),(1,1),(1000000500,1016),(1000000501,1017),(1000000502,4011)]
        ·refine caG ⟨[],[(1001,1001)],[(1,1,0),(2,2,0)],[(1501,64144)],[],true⟩ (AJ _ _ _ _ _ _ _ z) (Z ?_)
         exact BI (AI a0 a1 a2 u y o _ h) [(1000000000,64144)] [(2,2),(1,1),(1000000500,1016),(1000000501,1017),(1000000502,4011)]
       ·try simp only [go_sem]
        refine caG ⟨[],[(1001,1001)],[(1,1,0),(2,2,0)],[(1501,64144)],[],true⟩ (AJ _ _ _ _ _ _ _ z) (Z ?_)
        exact BI (AI a0 a1 a2 u y o _ h) [(1000000000,64144)] [(2,2),(1,1),(1000000500,1016),(1000000501,1017),(1000000502,4011)]
      ·refine AM s rfl (Z ?_)
       refine caG ⟨[],[(1001,1001)],[(1,1,0),(2,2,0)],[(1501,64144)],[],true⟩ (AJ _ _ _ _ _ _ _ z) (Z ?_)
       exact BI (AI a0 a1 a2 u y o _ h) [(1000000000,64144)] [(2,2),(1,1),(1000000500,1016),(1000000501,1017),(1000000502,4011)]
     ·try simp only [go_sem]
      refine BW ?_ ?_
      ·try simp only [go_sem]
       refine AM s rfl ?_
       try simp only [go_sem]
       try simp only [go_sem]
       refine BW ?_ ?_
       ·try simp only [go_sem]
        try simp only [go_sem]
        refine BW ?_ ?_
        ·try simp only [go_sem]
         try simp only [go_sem]
         refine BW (Z ?_) (Z ?_)
         ·refine caG ⟨[],[(1001,1001)],[(1,1,0),(2,2,0)],[(1501,64144)],[],true⟩ (AJ _ _ _ _ _ _ _ z) (Z ?_)
          exact BI (AI a0 a1 a2 u y o _ h) [(1000000000,64144)] [(2,2),(1,1),(1000000500,1016),(1000000501,1017),(1000000502,4011)]
         ·refine caG ⟨[],[(1001,1001)],[(1,1,0),(2,2,0)],[(1501,64144)],[],true⟩ (AJ _ _ _ _ _ _ _ z) (Z ?_)
          exact BI (AI a0 a1 a2 u y o _ h) [(1000000000,64144)] [(2,2),(1,1),(1000000500,1016),(1000000501,1017),(1000000502,4011)]
        ·try simp only [go_sem]
         refine caG ⟨[],[(1001,1001)],[(1,1,0),(2,2,0)],[(1501,64144)],[],true⟩ (AJ _ _ _ _ _ _ _ z) (Z ?_)
         exact BI (AI a0 a1 a2 u y o _ h) [(1000000000,64144)] [(2,2),(1,1),(1000000500,1016),(1000000501,1017),(1000000502,4011)]
       ·try simp only [go_sem]
        refine BW ?_ ?_
        ·try simp only [go_sem]
         try simp only [go_sem]
         refine BW ?_ ?_
         ·try simp only [go_sem]
          try simp only [go_sem]
          refine BW (Z ?_) (Z ?_)
          ·refine caG ⟨[],[(1001,1001)],[(1,1,0),(2,2,0)],[(1501,64144)],[],true⟩ (AJ _ _ _ _ _ _ _ z) (Z ?_)
           exact BI (AI a0 a1 a2 u y o _ h) [(1000000000,64144)] [(2,2),(1,1),(1000000500,1016),(1000000501,1017),(1000000502,4011)]
          ·refine caG ⟨[],[(1001,1001)],[(1,1,0),(2,2,0)],[(1501,64144)],[],true⟩ (AJ _ _ _ _ _ _ _ z) (Z ?_)
           exact BI (AI a0 a1 a2 u y o _ h) [(1000000000,64144)] [(2,2),(1,1),(1000000500,1016),(1000000501,1017),(1000000502,4011)]
         ·try simp only [go_sem]
          refine caG ⟨[],[(1001,1001)],[(1,1,0),(2,2,0)],[(1501,64144)],[],true⟩ (AJ _ _ _ _ _ _ _ z) (Z ?_)
          exact BI (AI a0 a1 a2 u y o _ h) [(1000000000,64144)] [(2,2),(1,1),(1000000500,1016),(1000000501,1017),(1000000502,4011)]
        ·try simp only [go_sem]
         try simp only [go_sem]
         refine BW (Z ?_) (Z ?_)
         ·refine caG ⟨[],[(1001,1001)],[(1,1,0),(2,2,0)],[(1501,64144)],[],true⟩ (AJ _ _ _ _ _ _ _ z) (Z ?_)
          exact BI (AI a0 a1 a2 u y o _ h) [(1000000000,64144)] [(2,2),(1,1),(1000000500,1016),(1000000501,1017),(1000000502,4011)]
         ·refine caG ⟨[],[(1001,1001)],[(1,1,0),(2,2,0)],[(1501,64144)],[],true⟩ (AJ _ _ _ _ _ _ _ z) (Z ?_)
          exact BI (AI a0 a1 a2 u y o _ h) [(1000000000,64144)] [(2,2),(1,1),(1000000500,1016),(1000000501,1017),(1000000502,4011)]
      ·try simp only [go_sem]
       try simp only [go_sem]
       refine BW (Z ?_) (Z ?_)
       ·refine AM s rfl (Z ?_)
        refine caG ⟨[],[(1001,1001)],[(1,1,0),(2,2,0)],[(1501,64144)],[],true⟩ (AJ _ _ _ _ _ _ _ z) (Z ?_)
        exact BI (AI a0 a1 a2 u y o _ h) [(1000000000,64144)] [(2,2),(1,1),(1000000500,1016),(1000000501,1017),(1000000502,4011)]
       ·refine AM s rfl ?_
        try simp only [go_sem]
        try simp only [go_sem]
        refine BW (Z ?_) (Z ?_)
        ·refine caG ⟨[],[(1001,1001)],[(1,1,0),(2,2,0)],[(1501,64144)],[],true⟩ (AJ _ _ _ _ _ _ _ z) (Z ?_)
         exact BI (AI a0 a1 a2 u y o _ h) [(1000000000,64144)] [(2,2),(1,1),(1000000500,1016),(1000000501,1017),(1000000502,4011)]
        ·refine caG ⟨[],[(1001,1001)],[(1,1,0),(2,2,0)],[(1501,64144)],[],true⟩ (AJ _ _ _ _ _ _ _ z) (Z ?_)
         exact BI (AI a0 a1 a2 u y o _ h) [(1000000000,64144)] [(2,2),(1,1),(1000000500,1016),(1000000501,1017),(1000000502,4011)]
    ·try simp only [go_sem]
     try simp only [go_sem]
     refine BW ?_ ?_
     ·try simp only [go_sem]
      try simp only [go_sem]
      refine BW (Z ?_) (Z ?_)
      ·refine AM s rfl (Z ?_)
       refine caG ⟨[],[(1001,1001)],[(1,1,0),(2,2,0)],[(1501,64144)],[],true⟩ (AJ _ _ _ _ _ _ _ z) (Z ?_)
       exact BI (AI a0 a1 a2 u y o _ h) [(1000000000,64144)] [(2,2),(1,1),(1000000500,1016),(1000000501,1017),(1000000502,4011)]
      ·refine AM s rfl (Z ?_)
       refine caG ⟨[],[(1001,1001)],[(1,1,0),(2,2,0)],[(1501,64144)],[],true⟩ (AJ _ _ _ _ _ _ _ z) (Z ?_)
       exact BI (AI a0 a1 a2 u y o _ h) [(1000000000,64144)] [(2,2),(1,1),(1000000500,1016),(1000000501,1017),(1000000502,4011)]
     ·try simp only [go_sem]
      refine BW ?_ ?_
      ·try simp only [go_sem]
       try simp only [go_sem]
       refine BW (Z ?_) (Z ?_)
       ·refine AM s rfl (Z ?_)
        refine caG ⟨[],[(1001,1001)],[(1,1,0),(2,2,0)],[(1501,64144)],[],true⟩ (AJ _ _ _ _ _ _ _ z) (Z ?_)
        exact BI (AI a0 a1 a2 u y o _ h) [(1000000000,64144)] [(2,2),(1,1),(1000000500,1016),(1000000501,1017),(1000000502,4011)]
       ·refine AM s rfl ?_
        try simp only [go_sem]
        try simp only [go_sem]
        refine BW (Z ?_) (Z ?_)
        ·refine caG ⟨[],[(1001,1001)],[(1,1,0),(2,2,0)],[(1501,64144)],[],true⟩ (AJ _ _ _ _ _ _ _ z) (Z ?_)
         exact BI (AI a0 a1 a2 u y o _ h) [(1000000000,64144)] [(2,2),(1,1),(1000000500,1016),(1000000501,1017),(1000000502,4011)]
        ·refine caG ⟨[],[(1001,1001)],[(1,1,0),(2,2,0)],[(1501,64144)],[],true⟩ (AJ _ _ _ _ _ _ _ z) (Z ?_)
         exact BI (AI a0 a1 a2 u y o _ h) [(1000000000,64144)] [(2,2),(1,1),(1000000500,1016),(1000000501,1017),(1000000502,4011)]
      ·try simp only [go_sem]
       try simp only [go_sem]
       refine BW (Z ?_) (Z ?_)
       ·refine AM s rfl (Z ?_)
        refine caG ⟨[],[(1001,1001)],[(1,1,0),(2,2,0)],[(1501,64144)],[],true⟩ (AJ _ _ _ _ _ _ _ z) (Z ?_)
        exact BI (AI a0 a1 a2 u y o _ h) [(1000000000,64144)] [(2,2),(1,1),(1000000500,1016),(1000000501,1017),(1000000502,4011)]
       ·refine AM s rfl ?_
        try simp only [go_sem]
        try simp only [go_sem]
        refine BW (Z ?_) (Z ?_)
        ·refine caG ⟨[],[(1001,1001)],[(1,1,0),(2,2,0)],[(1501,64144)],[],true⟩ (AJ _ _ _ _ _ _ _ z) (Z ?_)
         exact BI (AI a0 a1 a2 u y o _ h) [(1000000000,64144)] [(2,2),(1,1),(1000000500,1016),(1000000501,1017),(1000000502,4011)]
        ·refine caG ⟨[],[(1001,1001)],[(1,1,0),(2,2,0)],[(1501,64144)],[],true⟩ (AJ _ _ _ _ _ _ _ z) (Z ?_)
         exact BI (AI a0 a1 a2 u y o _ h) [(1000000000,64144)] [(2,2),(1,1),(1000000500,1016),(1000000501,1017),(1000000502,4011)]
end Go.Proofs.YtckcfdggbbabfaaGreat.Ab
namespace Go.Proofs.YtckcfdggbbabfaaGreat.Ab
set_option linter.unusedVariables false
set_option linter.unusedSimpArgs false
set_option maxRecDepth 20000
set_option maxHeartbeats 4000000
open Go.RowKit
theorem Ja (n:Nat):(∀a0 a2 u w y q g r,Aq n a0 a2 u w y q g=some r→DA Tryz.prog Tryz.f146 [1,1,1,0,1,0] (.tup []) [(1501,⟨List.map Agent.dm r.net.agents,some 5,0,true⟩)] [(1,[.own 1501,.ro (List.map Net.ds a0.book),.mpr 2]),(2,[.mpc (.int .i64) (List.map prB r.removed)])] ⟨[(0,.box 1 0),(2,.int .i64 a2),(8,.int .i64 (IntKind.i64.wrap (((List.length a0.net.agents:Nat):Int) - 1))),(9,.box 1000005500 0),(52,.own 1000005001),(53,.int .i64 ((List.length w:Nat):Int)),(54,.int .i64 g)],[(1000005000,some ⟨List.map Agent.dm y,some 5,0,true⟩),(1000005001,some ⟨List.map HAgent.ds q,none,0,false⟩)],[(2,some [.mpc (.int .i64) (List.map prB a0.removed)]),(1,some [.own 1000005000,.ro (List.map Net.ds a0.book),.mpr 2]),(1000005500,some [.int .i64 u.agent,.int .i64 u.slot])]⟩)∧
    (∀a0 a2 y q g u w j k b r,BJ n a0 a2 y q g u w j k b=some r→DA Tryz.prog Tryz.f146 [1,1,1,0,1,0,0,1,1,0,0,1,0,1,0] (.tup []) [(1501,⟨List.map Agent.dm r.net.agents,some 5,0,true⟩)] [(1,[.own 1501,.ro (List.map Net.ds a0.book),.mpr 2]),(2,[.mpc (.int .i64) (List.map prB r.removed)])] ⟨[(0,.box 1 0),(2,.int .i64 a2),(8,.int .i64 (IntKind.i64.wrap (((List.length a0.net.agents:Nat):Int) - 1))),(9,.box 1000009500 0),(11,.box 1000009501 0),(52,.own 1000009002),(53,.int .i64 ((List.length w:Nat):Int)),(54,.int .i64 g),(60,.int .i64 ((List.length j.ports:Nat):Int)),(61,.int .i64 b)],[(1000009000,some ⟨List.map Agent.dm y,some 5,0,true⟩),(1000009001,some ⟨List.map Port.ds k,none,0,false⟩),(1000009002,some ⟨List.map HAgent.ds (List.set q (Int.toNat g) (HAgent.gone j)),none,0,false⟩)],[(2,some [.mpc (.int .i64) (List.map prB a0.removed)]),(1,some [.own 1000009000,.ro (List.map Net.ds a0.book),.mpr 2]),(1000009500,some [.int .i64 u.agent,.int .i64 u.slot]),(1000009501,some [.int .i64 j.kind,.int .i64 j.level,.int .i64 j.value,.ro (List.map AO j.data),.own 1000009001])]⟩):=by
 induction n with
 |zero=>exact⟨(fun _ _ _ _ _ _ _ _ h=>by rw [Aq] at h; cases h),(fun _ _ _ _ _ _ _ _ _ _ _ h=>by rw [BJ] at h; cases h)⟩
 | succ n ih=>
  obtain⟨ih0,ih1⟩:=ih
  refine⟨?_,?_⟩
  ·intro a0 a2 u w y q g r h
   rw [Aq] at h
   refine Av rfl rfl (Z ?_)
   refine AX (Z ?_)
   refine AD h (fun h=>Z ?_) (fun h=>Z ?_)
   ·refine AF ?_
    replace h:=AB h; obtain⟨c,e,h⟩:=h
    refine AM e (HAgent.ds_len _) (Z ?_)
    replace h:=AB h; obtain⟨j,i,h⟩:=h
    replace i:=HAgent.full_some i
    subst i
    have i:=e
    refine AZ (AP i) (Z ?_)
    refine Wu (.ctake 6002 3 1000005001 4000000800 0 _ [(5,Int.toNat g,3)] ⟨(List.map HAgent.ds q),none,0,false⟩ (List.map AO j.data) (by simp only [go_sem]; rfl) (by rfl) (by (first|rfl|(simp only [go_sem]; rfl))) rfl (DJ (r:=(List.map AO j.data)) (AP (f:=HAgent.ds) i) (HAgent.ds_len _) (by rw [HAgent.ds_full]; rfl)) (by simp) (by decide) (by simp only [go_sem]) (.ctake 6002 4 1000005001 4000000801 0 _ [(5,Int.toNat g,4)] ⟨(putR [(5,Int.toNat g,3)] (List.map HAgent.ds q) .gone),none,0,false⟩ (List.map Port.ds j.ports) (by simp only [go_sem]; rfl) (by rfl) (by (first|rfl|(simp only [go_sem]; rfl))) rfl (DJ (r:=(List.map Port.ds j.ports)) (di (sz:=5) (d:=.gone) (AP (f:=HAgent.ds) i) (d':=.sl (List.map AO j.data)) (by rw [HAgent.ds_full]; rfl)) (by simp only [List.length_set]; exact(HAgent.ds_len _)) (by rw [HAgent.ds_full]; rfl)) (by simp) (by decide) (by simp only [go_sem]) (.frzT 4000000800 [] [(6002,3)] _ _ _ (by (first|rfl|(simp only [go_sem]; rfl))) (by decide) (by (first|rfl|(simp only [go_sem]; rfl))) (by (first|rfl|(simp only [go_sem]; rfl))) (.done _)))) ?_
    try simp only [HAgent.puts i]
    try simp only [go_sem]
    all_goals try rfl
    exact loG (ih1 a0 a2 y q g u w j j.ports 0 _ h) [(1000009000,1000005000),(1000009001,4000000801),(1000009002,1000005001)] [(2,2),(1,1),(1000009500,1000005500),(1000009501,6002)]
   ·refine AF ?_
    refine AY [false,false,false,false,false,false,false,false,false,false,false,false,true] (Tr.sq [12] .fin) (by kernel_rfl) (Z ?_)
    replace h:=AB h; obtain⟨l,t,h⟩:=h
    refine caG ⟨[],[(1001,1000005000)],[(1,1,0)],[(1501,224192)],[],true⟩ (FI _ _ _ _ t) (Z ?_)
    cases h
    refine A7 (.done _) [(1501,224192)] [(2,2),(1,1)] ?_
    simp only [go_sem]
  ·intro a0 a2 y q g u w j k b r h
   rw [BJ] at h
   refine Av rfl rfl (Z ?_)
   refine AX (Z ?_)
   refine AD h (fun h=>Z ?_) (fun h=>Z ?_)
   ·refine AF ?_
    replace h:=AB h; obtain⟨s,o,h⟩:=h
    refine AM o (Port.ds_len _) (Z ?_)
    refine AZ (AP o) (Z ?_)
    replace h:=AB h; obtain⟨z,u1,h⟩:=h
    refine AM u1 (Port.ds_len _) (Z ?_)
    replace h:=AB h; obtain⟨u2,u3,h⟩:=h
    refine AZ (AP u1) (Z ?_)
    refine An (List.map Port.ds u2) (by rw [← Ao u3]; simp only [List.map_set,go_sem,Port.ds_eq]) (Z ?_)
    refine AF ?_
    exact lpG (ih1 a0 a2 y q g u w j u2 (IntKind.i64.wrap (b+1)) _ h) [(1000009000,1000009000),(1000009001,1000009001),(1000009002,1000009002)] [(2,2),(1,1),(1000009500,1000009500),(1000009501,1000009501)]
   ·refine AF ?_
    refine AY [false,false,false,false,false,false,false,false,true,true,true,true,true] (Tr.sq [8,9,10,11,12] .fin) (by kernel_rfl) (Z ?_)
    replace h:=AB h; obtain⟨u4,u5,h⟩:=h
    have hq_:=A5 u5
    obtain⟨hv12008a,hv12008b⟩:=hq_
    refine Di true (Z ?_)
    refine BC (by refine⟨?_,?_⟩ <;> (try simp only [List.length_map,List.length_append,List.length_cons,List.length_nil] at*) <;> (try unfold maxLen) <;> omega) (Z ?_)
    refine An (List.map Agent.dm u4) (by rw [← hv12008b]; simp only [List.map_append,List.map_cons,List.map_nil,List.nil_append,List.append_nil,go_sem,Agent.ds_eq,Agent.dm_eq]) (Z ?_)
    refine AF ?_
    exact lpG (ih0 a0 a2 u w u4 (List.set q (Int.toNat g) (HAgent.gone j)) (IntKind.i64.wrap (g+1)) _ h) [(1000005000,192128),(1000005001,1000009002)] [(2,2),(1,1),(1000005500,1000009500)]
theorem J3 (n:Nat):(∀a0 a2 u w y q g r,Aq n a0 a2 u w y q g=some r→DA Tryz.prog Tryz.f146 [1,1,1,0,1,0] (.tup []) [(1501,⟨List.map Agent.dm r.net.agents,some 5,0,true⟩)] [(1,[.own 1501,.ro (List.map Net.ds a0.book),.mpr 2]),(2,[.mpc (.int .i64) (List.map prB r.removed)])] ⟨[(0,.box 1 0),(2,.int .i64 a2),(8,.int .i64 (IntKind.i64.wrap (((List.length a0.net.agents:Nat):Int) - 1))),(9,.box 1000005500 0),(52,.own 1000005001),(53,.int .i64 ((List.length w:Nat):Int)),(54,.int .i64 g)],[(1000005000,some ⟨List.map Agent.dm y,some 5,0,true⟩),(1000005001,some ⟨List.map HAgent.ds q,none,0,false⟩)],[(2,some [.mpc (.int .i64) (List.map prB a0.removed)]),(1,some [.own 1000005000,.ro (List.map Net.ds a0.book),.mpr 2]),(1000005500,some [.int .i64 u.agent,.int .i64 u.slot])]⟩):=(Ja n).1
theorem MU (a0 a1 a2 r) (h:D8 a0 a1 a2=some r):AG Tryz.prog 146 [.box 1 0,.int .i64 a1,.int .i64 a2] [(1001,⟨List.map Agent.dm a0.net.agents,some 5,0,true⟩)] [(2,[.mpc (.int .i64) (List.map prB a0.removed)]),(1,[.own 1001,.ro (List.map Net.ds a0.book),.mpr 2])] (.tup []) [(1501,⟨List.map Agent.dm r.net.agents,some 5,0,true⟩)] [(1,[.own 1501,.ro (List.map Net.ds a0.book),.mpr 2]),(2,[.mpc (.int .i64) (List.map prB r.removed)])] :=by
 unfold D8 at h
 refine agF Tryz.func146 mixed (h:=Z ?_)
 refine AY [false,false,false,false,false,false,false,false,false,false,false,false,false,false,false,false,false,false,false,false,false,false,false,false,false,false,false,false,false,true,true] (Tr.sq [29,30] .fin) (by kernel_rfl) (Z ?_)
 replace h:=AB h; obtain⟨u,w,h⟩:=h
 refine AM w (Agent.dm_len _) (Z ?_)
 refine AZ (AP w) (Z ?_)
 replace h:=AB h; obtain⟨y,q,h⟩:=h
 refine AM q (Net.ds_len _) (Z ?_)
 replace h:=AB h; obtain⟨g,k,h⟩:=h
 refine AM k (Agent.dm_len _) (Z ?_)
 refine AZ (AP k) (Z ?_)
 replace h:=AB h; obtain⟨b,d,h⟩:=h
 refine AH (Ow _ _ _ d) (Z ?_)
 refine AF ?_
 replace h:=AB h; obtain⟨c,e,h⟩:=h
 refine AH (FJ _ _ _ e) (Z ?_)
 refine AF ?_
 replace h:=AB h; obtain⟨l,t,h⟩:=h
 refine eX (i:=1) (j:=((List.length b.1.agents :Nat):Int)) (r:=List.map Agent.ds l) (by rfl) (by rfl) (by (first|(simp only [go_sem]; done)|(simp only [go_sem]; rfl)|rfl|(simp only [go_sem]; omega))) (by (first|(simp only [go_sem]; done)|(simp only [go_sem]; rfl)|rfl|(simp only [go_sem]; omega))) (by exact L7 (by intro x; exact(Agent.ds_len _)) _) (by rfl) (by simp only [go_sem,List.length_map]) (T3 t) (by rfl) (Z ?_)
 exact loG (J3 fuel a0 a2 c l a0.net.agents (List.map HAgent.full l) 0 _ h) [(1000005000,1001),(1000005001,64032)] [(2,2),(1,1),(1000005500,3002)]
end Go.Proofs.YtckcfdggbbabfaaGreat.Ab
namespace Go.Proofs.YtckcfdggbbabfaaGreat.Ab
set_option linter.unusedVariables false
set_option linter.unusedSimpArgs false
set_option maxRecDepth 20000
set_option maxHeartbeats 4000000
open Go.RowKit
theorem BQ (a0:Rewriter) (u:Int × Int × Int × Int) (w:List (Int × Bool)) (y:List Agent) (r:Int × Rewriter) (h:Ag a0 u w y=some r):DA Tryz.prog Tryz.f81 [1,1,1,1,1] (.int .i64 r.1) [(1501,⟨List.map Agent.dm r.2.net.agents,some 5,0,true⟩)] [(1,[.own 1501,.ro (List.map Net.ds a0.book),.mpr 2]),(2,[.mpc (.int .i64) (List.map prB r.2.removed)])] ⟨[(0,.box 1 0),(6,.int .i64 u.2.1),(7,.int .i64 u.2.2.1)],[(1000002000,some ⟨List.map Agent.dm y,some 5,0,true⟩)],[(2,some [.mpc (.int .i64) (List.map prB w)]),(1,some [.own 1000002000,.ro (List.map Net.ds a0.book),.mpr 2])]⟩:=by
 unfold Ag at h
 refine Av rfl rfl (Z ?_)
 replace h:=AB h; obtain⟨q,g,h⟩:=h
 refine W2 [27003] ⟨[],[(1001,1000002000)],[(1,1,0),(2,2,0)],[(1501,432064)],[],true⟩ (by kernel_rfl) (IA _ _ _ g) (by kernel_rfl) (Z ?_)
 refine AF ?_
 cases h
 refine A7 (.done _) [(1501,432064)] [(2,2),(1,1)] ?_
 simp only [go_sem]
theorem Jb (n:Nat):(∀a0 u w y q r,Am n a0 u w y q=some r→DA Tryz.prog Tryz.f81 [1,1,1,1,0,1,0,1,1,1,1,1,0,1,0] (.int .i64 r.1) [(1501,⟨List.map Agent.dm r.2.net.agents,some 5,0,true⟩)] [(1,[.own 1501,.ro (List.map Net.ds a0.book),.mpr 2]),(2,[.mpc (.int .i64) (List.map prB r.2.removed)])] ⟨[(0,.box 1 0),(6,.int .i64 u.2.1),(7,.int .i64 u.2.2.1),(9,.int .i64 q)],[(1000003000,some ⟨List.map Agent.dm y,some 5,0,true⟩)],[(2,some [.mpc (.int .i64) (List.map prB w)]),(1,some [.own 1000003000,.ro (List.map Net.ds a0.book),.mpr 2])]⟩):=by
 induction n with
 |zero=>exact((fun _ _ _ _ _ _ h=>by rw [Am] at h; cases h))
 | succ n ih=>
  have ih0:=ih
  ·intro a0 u w y q r h
   rw [Am] at h
   refine Av rfl rfl (Z ?_)
   refine AX (Z ?_)
   replace h:=AB h; obtain⟨g,k,h⟩:=h
   refine AM k (Agent.dm_len _) (Z ?_)
   refine AZ (AP k) (Z ?_)
   refine AZ (DJ (sz:=5) (j:=4) (r:=List.map Port.ds g.ports) (AP (f:=Agent.dm) k) (Agent.dm_len _) (by rw [Agent.dm_eq]; rfl)) (Z ?_)
   refine AD h (fun h=>Z ?_) (fun h=>Z ?_)
   ·refine AF ?_
    replace h:=AB h; obtain⟨b,d,h⟩:=h
    refine caG ⟨[],[(1001,1000003000)],[(1,1,0),(2,2,0)],[(1501,288080)],[],true⟩ (AJ _ _ _ _ _ _ _ d) (Z ?_)
    replace h:=AB h; obtain⟨c,e,h⟩:=h
    refine caG ⟨[],[(1001,288080)],[(1,1,0),(2,2,0)],[(1501,288112)],[],true⟩ (Ar _ _ _ _ e) (Z ?_)
    refine AF ?_
    exact lpG (ih0 a0 u c.removed c.net.agents (IntKind.i64.wrap (q+1)) _ h) [(1000003000,288112)] [(2,2),(1,1)]
   ·exact BI (BQ a0 u w y _ h) [(1000002000,1000003000)] [(2,2),(1,1)]
theorem Fy (a0:Rewriter) (u:Int × Int × Int × Int) (w:Bool) (r:Int × Rewriter) (h:BR a0 u w=some r):DA Tryz.prog Tryz.f81 [1,1,1,1,0,1,0,1] (.int .i64 r.1) [(1501,⟨List.map Agent.dm r.2.net.agents,some 5,0,true⟩)] [(1,[.own 1501,.ro (List.map Net.ds a0.book),.mpr 2]),(2,[.mpc (.int .i64) (List.map prB r.2.removed)])] ⟨[(0,.box 1 0),(6,.int .i64 u.2.1),(7,.int .i64 u.2.2.1),(30,.int .i64 u.1),(31,.bool w)],[(1000000000,some ⟨List.map Agent.dm a0.net.agents,some 5,0,true⟩)],[(2,some [.mpc (.int .i64) (List.map prB a0.removed)]),(1,some [.own 1000000000,.ro (List.map Net.ds a0.book),.mpr 2])]⟩:=by
 unfold BR at h
 refine Av rfl rfl (Z ?_)
 refine AD h (fun h=>Z ?_) (fun h=>Z ?_)
 ·replace h:=AB h; obtain⟨y,q,h⟩:=h
  refine caG ⟨[],[(1001,1000000000)],[(1,1,0),(2,2,0)],[(1501,160080)],[],true⟩ (JP _ _ _ _ q) (Z ?_)
  refine AF ?_
  replace h:=AB h; obtain⟨g,j,h⟩:=h
  refine caG ⟨[],[(1001,160080)],[(1,1,0),(2,2,0)],[(1501,176080)],[],true⟩ (JP _ _ _ _ j) (Z ?_)
  exact BI (BQ a0 u g.removed g.net.agents _ h) [(1000002000,176080)] [(2,2),(1,1)]
 ·refine AD h (fun h=>Z ?_) (fun h=>Z ?_)
  ·replace h:=AB h; obtain⟨k,b,h⟩:=h
   refine caG ⟨[],[(1001,1000000000)],[(1,1,0),(2,2,0)],[(1501,208048)],[],true⟩ (Kh _ _ _ _ b) (Z ?_)
   exact BI (BQ a0 u k.removed k.net.agents _ h) [(1000002000,208048)] [(2,2),(1,1)]
  ·refine AD h (fun h=>Z ?_) (fun h=>Z ?_)
   ·exact loG (Jb fuel a0 u a0.removed a0.net.agents 1 _ h) [(1000003000,1000000000)] [(2,2),(1,1)]
   ·refine AD h (fun h=>Z ?_) (fun h=>Z ?_)
    ·replace h:=AB h; obtain⟨d,c,h⟩:=h
     refine caG ⟨[],[(1001,1000000000)],[(1,1,0),(2,2,0)],[(1501,320048)],[],true⟩ (LZ _ _ _ _ c) (Z ?_)
     exact BI (BQ a0 u d.removed d.net.agents _ h) [(1000002000,320048)] [(2,2),(1,1)]
    ·refine AD h (fun h=>Z ?_) (fun h=>Z ?_)
     ·replace h:=AB h; obtain⟨e,i,h⟩:=h
      refine caG ⟨[],[(1001,1000000000)],[(1,1,0),(2,2,0)],[(1501,352048)],[],true⟩ (MT _ _ _ _ i) (Z ?_)
      exact BI (BQ a0 u e.removed e.net.agents _ h) [(1000002000,352048)] [(2,2),(1,1)]
     ·refine AD h (fun h=>Z ?_) (fun h=>Z ?_)
      ·replace h:=AB h; obtain⟨l,t,h⟩:=h
       refine caG ⟨[],[(1001,1000000000)],[(1,1,0),(2,2,0)],[(1501,384048)],[],true⟩ (MU _ _ _ _ t) (Z ?_)
       refine AF ?_
       replace h:=AB h; obtain⟨s,o,h⟩:=h
       refine W2 [25002] ⟨[],[(1001,384048)],[(1,1,0),(2,2,0)],[(1501,400048)],[],true⟩ (by kernel_rfl) (IA _ _ _ o) (by kernel_rfl) (Z ?_)
       refine AF ?_
       cases h
       refine A7 (.done _) [(1501,400048)] [(2,2),(1,1)] ?_
       simp only [go_sem]
      ·exact BI (BQ a0 u a0.removed a0.net.agents _ h) [(1000002000,1000000000)] [(2,2),(1,1)]
theorem LI (a0 a1 r) (h:Ak a0 a1=some r):AG Tryz.prog 81 [.box 1 0,.agg [.int .i64 a1.a,.int .i64 a1.b]] [(1001,⟨List.map Agent.dm a0.net.agents,some 5,0,true⟩)] [(2,[.mpc (.int .i64) (List.map prB a0.removed)]),(1,[.own 1001,.ro (List.map Net.ds a0.book),.mpr 2])] (.int .i64 r.1) [(1501,⟨List.map Agent.dm r.2.net.agents,some 5,0,true⟩)] [(1,[.own 1501,.ro (List.map Net.ds a0.book),.mpr 2]),(2,[.mpc (.int .i64) (List.map prB r.2.removed)])] :=by
 unfold Ak at h
 refine agF Tryz.func81 mixed (h:=Z ?_)
 replace h:=AB h; obtain⟨u,w,h⟩:=h
 refine caG ⟨[],[(1001,1001)],[(1,1,0),(2,2,0)],[(1501,32032)],[],true⟩ (M3 _ _ _ w) (Z ?_)
 refine AF ?_
 refine AD h (fun h=>Z ?_) (fun h=>Z ?_)
 ·cases h
  refine A7 (.done _) [(1501,32032)] [(2,2),(1,1)] ?_
  simp only [go_sem]
 ·refine AF ?_
  replace h:=AB h; obtain⟨y,q,h⟩:=h
  refine caG ⟨[],[(1001,32032)],[(1,1,0),(2,2,0)],[(1501,80016)],[],true⟩ (M2 _ _ q) (Z ?_)
  replace h:=AB h; obtain⟨g,j,h⟩:=h
  refine caG ⟨[],[(1001,80016)],[(1,1,0),(2,2,0)],[(1501,80096)],[],true⟩ (MS _ _ _ _ _ j) (Z ?_)
  refine AF ?_
  refine AD h (fun h=>Z ?_) (fun h=>Z ?_)
  ·cases h
   refine A7 (.done _) [(1501,80096)] [(2,2),(1,1)] ?_
   simp only [go_sem]
  ·refine AF ?_
   refine AD h (fun h=>Z ?_) (fun h=>Z ?_)
   ·exact BI (Fy a0 u (decide (u.1 =1)) _ h) [(1000000000,80096)] [(2,2),(1,1)]
   ·exact BI (Fy a0 u (decide (u.1 =2)) _ h) [(1000000000,80096)] [(2,2),(1,1)]
end Go.Proofs.YtckcfdggbbabfaaGreat.Ab
