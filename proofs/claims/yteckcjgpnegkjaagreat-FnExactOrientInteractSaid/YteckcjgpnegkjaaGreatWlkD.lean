/-
 The functions do what their models say. Printed by wip/ab/gen.py.
-/
import Derived.Test.YteckcjgpnegkjaaGreatModD
import Derived.Test.YteckcjgpnegkjaaGreatTi2
import Derived.Test.YteckcjgpnegkjaaGreatWlkC
namespace Go.Proofs.YteckcjgpnegkjaaGreat.Ab
set_option linter.unusedVariables false
set_option linter.unusedSimpArgs false
set_option maxRecDepth 20000
set_option maxHeartbeats 4000000
open Go.RowKit
theorem AJ (a0 a1 a2 a3 a4 a5 r) (h:Ak a0 a1 a2 a3 a4 a5=some r):AG Tryz.prog 75 [.box 1 0,.int .i64 a1,.int .i64 a2,.int .i64 a3,.ro (a4.map Ar),.int .i64 a5] [(1001,⟨List.map Agent.dm a0.net.agents,some 5,0,true⟩)] [(2,[.mpc (.int .i64) (a0.removed.map prB)]),(1,[.own 1001,.ro (a0.book.map Net.ds),.mpr 2])] (.int .i64 r.1) [(1501,⟨List.map Agent.dm r.2.net.agents,some 5,0,true⟩)] [(1,[.own 1501,.ro (a0.book.map Net.ds),.mpr 2]),(2,[.mpc (.int .i64) (r.2.removed.map prB)])] :=by
 unfold Ak at h
 refine agF Tryz.func75 mixed (h:=Z ?_)
 refine AX [false,false,false,false,false,false,false,false,false,false,false,false,false,false,false,true,true,true,true,true] (Tr.sq [15,16,17,18,19] .fin) (by kernel_rfl) (Z ?_)
 replace h:=AD h; obtain⟨u,w,h⟩:=h
 refine db (Ih _ _ w) (by (first|rfl|(simp only [go_sem]; rfl))) (by first|rfl|(simp only [go_sem])) (Z ?_)
 replace h:=AD h; obtain⟨y,q,h⟩:=h
 have hq_:=G8 q
 obtain⟨hv2012a,hv2012b,hv2012c⟩:=hq_
 refine Al (by refine⟨?_,?_,?_⟩ <;> omega) (Z ?_)
 refine Ag (y.map Port.ds) (by rw [← hv2012c]; simp only [List.map_replicate,go_sem,Port.ds_eq]) (Z ?_)
 replace h:=AD h; obtain⟨g,j,h⟩:=h
 have hq_:=An j
 obtain⟨hv2015a,hv2015b⟩:=hq_
 refine C3 true (Z ?_)
 refine Al (by refine⟨?_,?_⟩ <;> (try simp only [List.length_map,List.length_append,List.length_cons,List.length_nil] at*) <;> (try unfold maxLen) <;> omega) (Z ?_)
 refine Ag (g.map Agent.dm) (by rw [← hv2015b]; simp only [List.map_append,List.map_cons,List.map_nil,List.nil_append,List.append_nil,go_sem,Agent.ds_eq,Agent.dm_eq]) (Z ?_)
 refine AF ?_
 cases h
 refine BJ (.done _) [(1501,32240)] [(2,2),(1,1)] ?_
 simp only [go_sem]
theorem Jl (n:Nat):(∀a0 a2 u w y q r,A7 n a0 a2 u w y q=some r→DB Tryz.prog Tryz.f73 [1,1,1,1,1,1,1,1,0] (.tup []) [(1501,⟨List.map Agent.dm r.net.agents,some 5,0,true⟩)] [(1,[.own 1501,.ro (a0.book.map Net.ds),.mpr 2]),(2,[.mpc (.int .i64) (r.removed.map prB)])] ⟨[(0,.box 1 0),(2,.int .i64 a2),(100,.own 1000002001),(101,.int .i64 (u.length:Int)),(102,.int .i64 q)],[(1000002000,some ⟨List.map Agent.dm y,some 5,0,true⟩),(1000002001,some ⟨List.map Ar u,some 1,0,false⟩)],[(2,some [.mpc (.int .i64) (w.map prB)]),(1,some [.own 1000002000,.ro (a0.book.map Net.ds),.mpr 2])]⟩):=by
 induction n with
 |zero=>exact((fun _ _ _ _ _ _ _ h=>by rw [A7] at h; cases h))
 | succ n ih=>
  have ih0:=ih
  ·intro a0 a2 u w y q r h
   rw [A7] at h
   refine Aq rfl rfl (Z ?_)
   refine AY (Z ?_)
   refine AB h (fun h=>Z ?_) (fun h=>Z ?_)
   ·refine AF ?_
    replace h:=AD h; obtain⟨g,j,h⟩:=h
    refine AL j rfl (Z ?_)
    refine Aa (AS j) (Z ?_)
    replace h:=AD h; obtain⟨k,b,h⟩:=h
    refine caG ⟨[],[(1001,1000002000)],[(1,1,0),(2,2,0)],[(1501,272112)],[],true⟩ (Av _ _ _ _ b) (Z ?_)
    refine AF ?_
    exact lpG (ih0 a0 a2 u k.removed k.net.agents (IntKind.i64.wrap (q+1)) _ h) [(1000002000,272112),(1000002001,1000002001)] [(2,2),(1,1)]
   ·cases h
    refine BJ (.done _) [(1501,1000002000)] [(2,2),(1,1)] ?_
    simp only [go_sem]
theorem Jm (n:Nat):(∀a0 a1 a2 u w y q g j k r,As n a0 a1 a2 u w y q g j k=some r→DB Tryz.prog Tryz.f73 [1,1,1,1,0,1,0] (.tup []) [(1501,⟨List.map Agent.dm r.net.agents,some 5,0,true⟩)] [(1,[.own 1501,.ro (a0.book.map Net.ds),.mpr 2]),(2,[.mpc (.int .i64) (r.removed.map prB)])] ⟨[(0,.box 1 0),(1,.int .i64 a1),(2,.int .i64 a2),(6,.box 1000001500 0),(7,.int .i64 w.1),(8,.int .i64 y.1),(9,.own 1000001001),(10,.int .i64 k)],[(1000001000,some ⟨List.map Agent.dm g,some 5,0,true⟩),(1000001001,some ⟨List.map Ar j,some 1,0,false⟩)],[(2,some [.mpc (.int .i64) (q.map prB)]),(1,some [.own 1000001000,.ro (a0.book.map Net.ds),.mpr 2]),(1000001500,some [.int .i64 u.kind,.int .i64 u.level,.int .i64 u.value,.ro (u.data.map Ar),.ro (List.replicate (List.length u.ports) [])])]⟩):=by
 induction n with
 |zero=>exact((fun _ _ _ _ _ _ _ _ _ _ _ h=>by rw [As] at h; cases h))
 | succ n ih=>
  have ih0:=ih
  ·intro a0 a1 a2 u w y q g j k r h
   rw [As] at h
   refine Aq rfl rfl (Z ?_)
   refine AY (Z ?_)
   refine AB h (fun h=>Z ?_) (fun h=>Z ?_)
   ·refine AF ?_
    replace h:=AD h; obtain⟨b,d,h⟩:=h
    refine AL d (Agent.dm_len _) (Z ?_)
    refine Aa (AS d) (Z ?_)
    replace h:=AD h; obtain⟨c,e,h⟩:=h
    refine caG ⟨[],[(1001,1000001000)],[(1,1,0),(2,2,0)],[(1501,128160)],[],true⟩ (AJ _ _ _ _ _ _ _ e) (Z ?_)
    refine AF ?_
    replace h:=AD h; obtain⟨i,l,h⟩:=h
    refine caG ⟨[],[(1001,128160)],[(1,1,0)],[(1501,144128)],[],true⟩ (FW _ _ _ _ l) (Z ?_)
    refine AF ?_
    replace h:=AD h; obtain⟨t,s,h⟩:=h
    refine caG ⟨[],[(1001,144128)],[(1,1,0)],[(1501,160128)],[],true⟩ (FW _ _ _ _ s) (Z ?_)
    refine AF ?_
    replace h:=AD h; obtain⟨o,z,h⟩:=h
    have hq_:=An z
    obtain⟨hv11003a,hv11003b⟩:=hq_
    refine C3 false (Z ?_)
    refine Al (by refine⟨?_,?_⟩ <;> (try simp only [List.length_map,List.length_append,List.length_cons,List.length_nil] at*) <;> (try unfold maxLen) <;> omega) (Z ?_)
    refine Ag (o.map Ar) (by rw [← hv11003b]; simp only [List.map_append,List.map_cons,List.map_nil,List.nil_append,List.append_nil,go_sem,slD]) (Z ?_)
    refine AF ?_
    exact lpG (ih0 a0 a1 a2 u w y c.2.removed t.agents o (IntKind.i64.wrap (k+1)) _ h) [(1000001000,160128),(1000001001,176048)] [(2,2),(1,1),(1000001500,1000001500)]
   ·refine AF ?_
    replace h:=AD h; obtain⟨u1,u2,h⟩:=h
    refine caG ⟨[],[(1001,1000001000)],[(1,1,0),(2,2,0)],[(1501,192080)],[],true⟩ (Av _ _ _ _ u2) (Z ?_)
    refine AF ?_
    replace h:=AD h; obtain⟨u3,u4,h⟩:=h
    refine caG ⟨[],[(1001,192080)],[(1,1,0),(2,2,0)],[(1501,208080)],[],true⟩ (Av _ _ _ _ u4) (Z ?_)
    refine AF ?_
    exact loG (Jl fuel a0 a2 j u3.removed u3.net.agents 0 _ h) [(1000002000,208080),(1000002001,1000001001)] [(2,2),(1,1)]
theorem K1 (a0 a1 a2 r) (h:DE a0 a1 a2=some r):AG Tryz.prog 73 [.box 1 0,.int .i64 a1,.int .i64 a2] [(1001,⟨List.map Agent.dm a0.net.agents,some 5,0,true⟩)] [(2,[.mpc (.int .i64) (a0.removed.map prB)]),(1,[.own 1001,.ro (a0.book.map Net.ds),.mpr 2])] (.tup []) [(1501,⟨List.map Agent.dm r.net.agents,some 5,0,true⟩)] [(1,[.own 1501,.ro (a0.book.map Net.ds),.mpr 2]),(2,[.mpc (.int .i64) (r.removed.map prB)])] :=by
 unfold DE at h
 refine agF Tryz.func73 mixed (h:=Z ?_)
 replace h:=AD h; obtain⟨u,w,h⟩:=h
 refine AL w (Agent.dm_len _) (Z ?_)
 refine Aa (AS w) (Z ?_)
 refine YC (.chdr 1008 4 1001 0 (List.length u.ports) [(5,Int.toNat a2,4)] _ (u.ports.map Port.ds) (by (first|rfl|(simp only [go_sem]; rfl))) (by rfl) (Uy (tk:=⟨List.map Agent.dm a0.net.agents,some 5,0,true⟩) (by (first|rfl|(simp only [go_sem]; rfl))) rfl (Ec (sz:=5) (j:=4) (r:=List.map Port.ds u.ports) (AS (f:=Agent.dm) w) (Agent.dm_len _) (by rw [Agent.dm_eq]; rfl))) (List.length_map _) (.done _)) (Z ?_)
 all_goals try rfl
 replace h:=AD h; obtain⟨y,q,h⟩:=h
 refine caG ⟨[],[(1001,1001)],[(1,1,0),(2,2,0)],[(1501,32192)],[],true⟩ (AJ _ _ _ _ _ _ _ q) (Z ?_)
 refine AF ?_
 replace h:=AD h; obtain⟨g,k,h⟩:=h
 refine caG ⟨[],[(1001,32192)],[(1,1,0),(2,2,0)],[(1501,48192)],[],true⟩ (AJ _ _ _ _ _ _ _ k) (Z ?_)
 refine AF ?_
 refine D0 (LQ rfl rfl (Jm fuel a0 a1 a2 u y g g.2.removed g.2.net.agents [] 1 _ h):) (.one ⟨_,.slot 9 2000000000 (some 1) false (by simp only [go_sem]) (by simp only [go_sem]) (.done _),[(1000001000,48192),(1000001001,2000000000)],[(2,2),(1,1),(1000001500,1008)],?_⟩)
 simp only [go_sem]
 all_goals try rfl
theorem OX (a0 r) (h:H2 a0=some r):AC Tryz.prog 119 [.bool a0] (.int .i64 r):=by
 unfold H2 at h
 refine acF Tryz.func119 mixed (h:=Z ?_)
 refine AB h (fun h=>Z ?_) (fun h=>Z ?_)
 ·cases h
  simp only [go_sem]
 ·refine AF ?_
  cases h
  simp only [go_sem]
theorem G1 (a0 r) (h:EB a0=some r):AC Tryz.prog 143 [.int .i64 a0] (.int .i64 r):=by
 unfold EB at h
 refine acF Tryz.func143 mixed (h:=Z ?_)
 cases h
 simp only [go_sem]
theorem VP (a0 a1 a2 r) (h:F3 a0 a1 a2=some r):AC Tryz.prog 118 [.int .i64 a0,.int .i64 a1,.int .i64 a2] (.int .i64 r):=by
 unfold F3 at h
 refine acF Tryz.func118 mixed (h:=Z ?_)
 replace h:=AD h; obtain⟨u,w,h⟩:=h
 refine AH (G1 _ _ w) (Z ?_)
 replace h:=AD h; obtain⟨y,q,h⟩:=h
 refine AH (G1 _ _ q) (Z ?_)
 refine AF ?_
 refine AB h (fun h=>Z ?_) (fun h=>Z ?_)
 ·replace h:=AD h; obtain⟨g,j,h⟩:=h
  refine AH (G1 _ _ j) (Z ?_)
  refine AF ?_
  cases h
  simp only [go_sem]
 ·refine AB h (fun h=>Z ?_) (fun h=>Z ?_)
  ·replace h:=AD h; obtain⟨k,b,h⟩:=h
   refine AH (G1 _ _ b) (Z ?_)
   refine AF ?_
   cases h
   simp only [go_sem]
  ·refine AB h (fun h=>Z ?_) (fun h=>Z ?_)
   ·replace h:=AD h; obtain⟨d,c,h⟩:=h
    refine AH (G1 _ _ c) (Z ?_)
    refine AF ?_
    cases h
    simp only [go_sem]
   ·refine AB h (fun h=>Z ?_) (fun h=>Z ?_)
    ·refine AB h (fun h=>Z ?_) (fun h=>Z ?_)
     ·cases h
      simp only [go_sem]
     ·refine AF ?_
      replace h:=AD h; obtain⟨e,i,h⟩:=h
      refine Al (ZQ i) (Z ?_)
      replace h:=AD h; obtain⟨l,t,h⟩:=h
      refine AH (G1 _ _ t) (Z ?_)
      refine AF ?_
      cases h
      simp only [go_sem]
    ·refine AB h (fun h=>Z ?_) (fun h=>Z ?_)
     ·replace h:=AD h; obtain⟨s,o,h⟩:=h
      refine AH (OX _ _ o) (Z ?_)
      refine AF ?_
      cases h
      simp only [go_sem]
     ·refine AB h (fun h=>Z ?_) (fun h=>Z ?_)
      ·replace h:=AD h; obtain⟨z,u1,h⟩:=h
       refine AH (OX _ _ u1) (Z ?_)
       refine AF ?_
       cases h
       simp only [go_sem]
      ·refine AF ?_
       cases h
       simp only [go_sem]
theorem Ly (a0 a1 a2 r) (h:Cv a0 a1 a2=some r):AG Tryz.prog 76 [.box 1 0,.int .i64 a1,.int .i64 a2] [(1001,⟨List.map Agent.dm a0.net.agents,some 5,0,true⟩)] [(2,[.mpc (.int .i64) (a0.removed.map prB)]),(1,[.own 1001,.ro (a0.book.map Net.ds),.mpr 2])] (.tup []) [(1501,⟨List.map Agent.dm r.net.agents,some 5,0,true⟩)] [(1,[.own 1501,.ro (a0.book.map Net.ds),.mpr 2]),(2,[.mpc (.int .i64) (r.removed.map prB)])] :=by
 unfold Cv at h
 refine agF Tryz.func76 mixed (h:=Z ?_)
 refine AX [false,false,false,false,false,false,false,false,false,false,false,false,false,false,false,false,false,false,false,true] (Tr.sq [19] .fin) (by kernel_rfl) (Z ?_)
 replace h:=AD h; obtain⟨u,w,h⟩:=h
 refine AL w (Agent.dm_len _) (Z ?_)
 refine Aa (AS w) (Z ?_)
 replace h:=AD h; obtain⟨y,q,h⟩:=h
 refine AL q (Agent.dm_len _) (Z ?_)
 refine Aa (AS q) (Z ?_)
 refine AF ?_
 refine AB h (fun h=>Z ?_) (fun h=>Z ?_)
 ·replace h:=AD h; obtain⟨g,j,h⟩:=h
  refine YN [3006] ⟨[],[(1001,1001)],[(1,1,0),(2,2,0)],[(1501,48112)],[],true⟩ (by kernel_rfl) (AJ _ _ _ _ _ _ _ j) (by kernel_rfl) (Z ?_)
  refine AF ?_
  replace h:=AD h; obtain⟨k,b,h⟩:=h
  refine caG ⟨[],[(1001,48112)],[(1,1,0),(2,2,0)],[(1501,64080)],[],true⟩ (Av _ _ _ _ b) (Z ?_)
  refine AF ?_
  replace h:=AD h; obtain⟨d,c,h⟩:=h
  refine caG ⟨[],[(1001,64080)],[(1,1,0),(2,2,0)],[(1501,80080)],[],true⟩ (Av _ _ _ _ c) (Z ?_)
  refine AF ?_
  cases h
  refine BJ (.done _) [(1501,80080)] [(2,2),(1,1)] ?_
  simp only [go_sem]
 ·refine AF ?_
  refine AX [false,false,false,false,false,false,false,false,false,false,false,false,true,true,true] (Tr.sq [12,13,14] .fin) (by kernel_rfl) (Z ?_)
  replace h:=AD h; obtain⟨e,i,h⟩:=h
  refine AL i rfl (Z ?_)
  replace h:=AD h; obtain⟨l,t,h⟩:=h
  refine AH (VP _ _ _ _ t) (Z ?_)
  replace h:=AD h; obtain⟨s,o,h⟩:=h
  refine caG ⟨[],[(1001,1001)],[(1,1,0),(2,2,0)],[(1501,96192)],[],true⟩ (AJ _ _ _ _ _ _ _ o) (Z ?_)
  replace h:=AD h; obtain⟨z,u1,h⟩:=h
  refine caG ⟨[],[(1001,96192)],[(1,1,0),(2,2,0)],[(1501,96224)],[],true⟩ (Av _ _ _ _ u1) (Z ?_)
  cases h
  refine BJ (.done _) [(1501,96224)] [(2,2),(1,1)] ?_
  simp only [go_sem]
theorem K2 (n:Nat):(∀a0 a1 a2 u w y q g j r,BD n a0 a1 a2 u w y q g j=some r→DB Tryz.prog Tryz.f77 [1,1,1,1,1,0,1,0] (.tup []) [(1501,⟨List.map Agent.dm r.net.agents,some 5,0,true⟩)] [(1,[.own 1501,.ro (a0.book.map Net.ds),.mpr 2]),(2,[.mpc (.int .i64) (r.removed.map prB)])] ⟨[(0,.box 1 0),(1,.int .i64 a1),(2,.int .i64 a2),(8,.box 1000004500 0),(84,.own 1000004001),(85,.int .i64 (y.length:Int)),(86,.int .i64 j)],[(1000004000,some ⟨List.map Agent.dm g,some 5,0,true⟩),(1000004001,some ⟨List.map Ar y,some 1,0,false⟩)],[(2,some [.mpc (.int .i64) (q.map prB)]),(1,some [.own 1000004000,.ro (a0.book.map Net.ds),.mpr 2]),(1000004500,some [.int .i64 u,.int .i64 w])]⟩):=by
 induction n with
 |zero=>exact((fun _ _ _ _ _ _ _ _ _ _ h=>by rw [BD] at h; cases h))
 | succ n ih=>
  have ih0:=ih
  ·intro a0 a1 a2 u w y q g j r h
   rw [BD] at h
   refine Aq rfl rfl (Z ?_)
   refine AY (Z ?_)
   refine AB h (fun h=>Z ?_) (fun h=>Z ?_)
   ·refine AF ?_
    replace h:=AD h; obtain⟨k,b,h⟩:=h
    refine AL b rfl (Z ?_)
    refine Aa (AS b) (Z ?_)
    replace h:=AD h; obtain⟨d,c,h⟩:=h
    refine caG ⟨[],[(1001,1000004000)],[(1,1,0),(2,2,0)],[(1501,256112)],[],true⟩ (Av _ _ _ _ c) (Z ?_)
    refine AF ?_
    exact lpG (ih0 a0 a1 a2 u w y d.removed d.net.agents (IntKind.i64.wrap (j+1)) _ h) [(1000004000,256112),(1000004001,1000004001)] [(2,2),(1,1),(1000004500,1000004500)]
   ·refine AF ?_
    replace h:=AD h; obtain⟨e,i,h⟩:=h
    refine caG ⟨[],[(1001,1000004000)],[(1,1,0),(2,2,0)],[(1501,288064)],[],true⟩ (Av _ _ _ _ i) (Z ?_)
    cases h
    refine BJ (.done _) [(1501,288064)] [(2,2),(1,1)] ?_
    simp only [go_sem]
theorem K3 (n:Nat):(∀a0 a1 a2 u w y q g j k b r,BY n a0 a1 a2 u w y q g j k b=some r→DB Tryz.prog Tryz.f77 [1,1,1,1,0,1,0] (.tup []) [(1501,⟨List.map Agent.dm r.net.agents,some 5,0,true⟩)] [(1,[.own 1501,.ro (a0.book.map Net.ds),.mpr 2]),(2,[.mpc (.int .i64) (r.removed.map prB)])] ⟨[(0,.box 1 0),(1,.int .i64 a1),(2,.int .i64 a2),(7,.box 1000002500 0),(8,.box 1000002501 0),(9,.own 1000002001),(63,.int .i64 (IntKind.i64.wrap ((((List.length u.ports):Nat):Int) - 1))),(64,.int .i64 b)],[(1000002000,some ⟨List.map Agent.dm q,some 5,0,true⟩),(1000002001,some ⟨List.map Ar k,some 1,0,false⟩)],[(2,some [.mpc (.int .i64) (y.map prB)]),(1,some [.own 1000002000,.ro (a0.book.map Net.ds),.mpr 2]),(1000002500,some [.int .i64 w.kind,.int .i64 w.level,.int .i64 w.value,.ro (w.data.map Ar),.ro (List.replicate (List.length w.ports) [])]),(1000002501,some [.int .i64 g,.int .i64 j])]⟩):=by
 induction n with
 |zero=>exact((fun _ _ _ _ _ _ _ _ _ _ _ _ h=>by rw [BY] at h; cases h))
 | succ n ih=>
  have ih0:=ih
  ·intro a0 a1 a2 u w y q g j k b r h
   rw [BY] at h
   refine Aq rfl rfl (Z ?_)
   refine AY (Z ?_)
   refine AB h (fun h=>Z ?_) (fun h=>Z ?_)
   ·refine AF ?_
    replace h:=AD h; obtain⟨d,c,h⟩:=h
    refine caG ⟨[],[(1001,1000002000)],[(1,1,0),(2,2,0)],[(1501,128048)],[],true⟩ (AJ _ _ _ _ _ _ _ c) (Z ?_)
    refine AF ?_
    refine AX [false,false,false,false,false,false,true] (Tr.sq [6] .fin) (by kernel_rfl) (Z ?_)
    replace h:=AD h; obtain⟨e,i,h⟩:=h
    refine caG ⟨[],[(1001,128048)],[(1,1,0)],[(1501,144096)],[],true⟩ (FW _ _ _ _ i) (Z ?_)
    refine AF ?_
    replace h:=AD h; obtain⟨l,t,h⟩:=h
    have hq_:=An t
    obtain⟨hv11003a,hv11003b⟩:=hq_
    refine C3 false (Z ?_)
    refine Al (by refine⟨?_,?_⟩ <;> (try simp only [List.length_map,List.length_append,List.length_cons,List.length_nil] at*) <;> (try unfold maxLen) <;> omega) (Z ?_)
    refine Ag (l.map Ar) (by rw [← hv11003b]; simp only [List.map_append,List.map_cons,List.map_nil,List.nil_append,List.append_nil,go_sem,slD]) (Z ?_)
    refine AF ?_
    exact lpG (ih0 a0 a1 a2 u w d.2.removed e.agents d.1 2 l (IntKind.i64.wrap (b+1)) _ h) [(1000002000,144096),(1000002001,176048)] [(2,2),(1,1),(1000002500,1000002500),(1000002501,1000002501)]
   ·refine AF ?_
    exact loG (K2 fuel a0 a1 a2 g j k y q 0 _ h) [(1000004000,1000002000),(1000004001,1000002001)] [(2,2),(1,1),(1000004500,1000002501)]
theorem AI (a0:Rewriter) (a1:Int) (a2:Int) (u:Agent) (w:Agent) (y:Int × Rewriter) (r:Rewriter) (h:EC a0 a1 a2 u w y=some r):DB Tryz.prog Tryz.f77 [1,1,1] (.tup []) [(1501,⟨List.map Agent.dm r.net.agents,some 5,0,true⟩)] [(1,[.own 1501,.ro (a0.book.map Net.ds),.mpr 2]),(2,[.mpc (.int .i64) (r.removed.map prB)])] ⟨[(0,.box 1 0),(1,.int .i64 a1),(2,.int .i64 a2),(6,.box 1000000500 0),(7,.box 1000000501 0),(8,.box 1000000502 0)],[(1000000000,some ⟨List.map Agent.dm y.2.net.agents,some 5,0,true⟩)],[(2,some [.mpc (.int .i64) (y.2.removed.map prB)]),(1,some [.own 1000000000,.ro (a0.book.map Net.ds),.mpr 2]),(1000000500,some [.int .i64 u.kind,.int .i64 u.level,.int .i64 u.value,.ro (u.data.map Ar),.ro (List.replicate (List.length u.ports) [])]),(1000000501,some [.int .i64 w.kind,.int .i64 w.level,.int .i64 w.value,.ro (w.data.map Ar),.ro (List.replicate (List.length w.ports) [])]),(1000000502,some [.int .i64 y.1,.int .i64 0])]⟩:=by
 unfold EC at h
 refine Aq rfl rfl (Z ?_)
 refine D0 (LQ rfl rfl (K3 fuel a0 a1 a2 u w y.2.removed y.2.net.agents y.1 0 [] 0 _ h):) (.one ⟨_,.slot 9 2000000000 (some 1) false (by simp only [go_sem]) (by simp only [go_sem]) (.done _),[(1000002000,1000000000),(1000002001,2000000000)],[(2,2),(1,1),(1000002500,1000000501),(1000002501,1000000502)],?_⟩)
 simp only [go_sem]
 all_goals try rfl
theorem Mr (a0 a1 a2 r) (h:B9 a0 a1 a2=some r):AG Tryz.prog 77 [.box 1 0,.int .i64 a1,.int .i64 a2] [(1001,⟨List.map Agent.dm a0.net.agents,some 5,0,true⟩)] [(2,[.mpc (.int .i64) (a0.removed.map prB)]),(1,[.own 1001,.ro (a0.book.map Net.ds),.mpr 2])] (.tup []) [(1501,⟨List.map Agent.dm r.net.agents,some 5,0,true⟩)] [(1,[.own 1501,.ro (a0.book.map Net.ds),.mpr 2]),(2,[.mpc (.int .i64) (r.removed.map prB)])] :=by
 unfold B9 at h
 refine agF Tryz.func77 mixed (h:=Z ?_)
 refine cm [] [(16,18),(17,19)] .fin (by kernel_rfl) (Z ?_)
 replace h:=AD h; obtain⟨u,w,h⟩:=h
 refine AL w (Agent.dm_len _) (Z ?_)
 refine Aa (AS w) (Z ?_)
 replace h:=AD h; obtain⟨y,q,h⟩:=h
 refine AL q (Agent.dm_len _) (Z ?_)
 refine Aa (AS q) (Z ?_)
 refine ZL _ (by rfl) (by (first|(simp only [go_sem]; done)|(simp only [go_sem]; decide)|decide)) (by rfl) (Z ?_)
 refine ZL _ (by rfl) (by (first|(simp only [go_sem]; done)|(simp only [go_sem]; decide)|decide)) (by rfl) (Z ?_)
 refine iQ (by refine⟨by rfl,by rfl,trivial⟩) (Z ?_)
 refine YC (.chdr 1016 4 1001 0 (List.length u.ports) [(5,Int.toNat a1,4)] _ (u.ports.map Port.ds) (by (first|rfl|(simp only [go_sem]; rfl))) (by rfl) (Uy (tk:=⟨List.map Agent.dm a0.net.agents,some 5,0,true⟩) (by (first|rfl|(simp only [go_sem]; rfl))) rfl (Ec (sz:=5) (j:=4) (r:=List.map Port.ds u.ports) (AS (f:=Agent.dm) w) (Agent.dm_len _) (by rw [Agent.dm_eq]; rfl))) (List.length_map _) (.chdr 1017 4 1001 0 (List.length y.ports) [(5,Int.toNat a2,4)] _ (y.ports.map Port.ds) (by (first|rfl|(simp only [go_sem]; rfl))) (by rfl) (Uy (tk:=⟨List.map Agent.dm a0.net.agents,some 5,0,true⟩) (by (first|rfl|(simp only [go_sem]; rfl))) rfl (Ec (sz:=5) (j:=4) (r:=List.map Port.ds y.ports) (AS (f:=Agent.dm) q) (Agent.dm_len _) (by rw [Agent.dm_eq]; rfl))) (List.length_map _) (.done _))) (Z ?_)
 all_goals try rfl
 refine AB h (fun h=>Z ?_) (fun h=>Z ?_)
 ·refine AX [false,false,false,false,false,false,false,false,false,false,false,false,false,false,true,true,true] (Tr.sq [14,15,16] .fin) (by kernel_rfl) (Z ?_)
  replace h:=AD h; obtain⟨g,k,h⟩:=h
  refine AH (OX _ _ k) (Z ?_)
  replace h:=AD h; obtain⟨b,d,h⟩:=h
  refine AL d rfl (Z ?_)
  replace h:=AD h; obtain⟨c,e,h⟩:=h
  refine caG ⟨[],[(1001,1001)],[(1,1,0),(2,2,0)],[(1501,48224)],[],true⟩ (AJ _ _ _ _ _ _ _ e) (Z ?_)
  replace h:=AD h; obtain⟨i,l,h⟩:=h
  refine caG ⟨[],[(1001,48224)],[(1,1,0),(2,2,0)],[(1501,48256)],[],true⟩ (Av _ _ _ _ l) (Z ?_)
  refine AF ?_
  cases h
  refine BJ (.done _) [(1501,48256)] [(2,2),(1,1)] ?_
  simp only [go_sem]
 ·refine AF ?_
  replace h:=AD h; obtain⟨t,s,h⟩:=h
  replace h:=AD h; obtain⟨o,z,h⟩:=h
  refine AX [false,false,true,false,true,false,true,true,true,true,true,true,true] (.br 2 (.br 4 (.br 6 (Tr.sq [7] (.br 8 (.br 9 (Tr.sq [10,11,12] .fin) (.br 11 (Tr.sq [9,10,12] .fin) .stop)) (.br 11 (Tr.sq [8,9,10,12] .fin) .stop))) (.br 11 (Tr.sq [6,7,8,9,10,12] .fin) .stop)) (.br 6 (.br 4 (Tr.sq [7] (.br 8 (.br 9 (Tr.sq [10,11,12] .fin) (.br 11 (Tr.sq [9,10,12] .fin) .stop)) (.br 11 (Tr.sq [8,9,10,12] .fin) .stop))) (.br 11 (Tr.sq [4,7,8,9,10,12] .fin) .stop)) (.br 11 (.br 4 (Tr.sq [6,7,8,9,10,12] .fin) (.br 6 (Tr.sq [4,7,8,9,10,12] .fin) .stop)) .stop))) (.br 4 (.br 2 (.br 6 (Tr.sq [7] (.br 8 (.br 9 (Tr.sq [10,11,12] .fin) (.br 11 (Tr.sq [9,10,12] .fin) .stop)) (.br 11 (Tr.sq [8,9,10,12] .fin) .stop))) (.br 11 (Tr.sq [6,7,8,9,10,12] .fin) .stop)) (.br 6 (Tr.sq [7] (.br 2 (.br 8 (.br 9 (Tr.sq [10,11,12] .fin) (.br 11 (Tr.sq [9,10,12] .fin) .stop)) (.br 11 (Tr.sq [8,9,10,12] .fin) .stop)) (.br 8 (.br 2 (.br 9 (Tr.sq [10,11,12] .fin) (.br 11 (Tr.sq [9,10,12] .fin) .stop)) (.br 11 (Tr.sq [2,9,10,12] .fin) .stop)) (.br 11 (.br 2 (Tr.sq [8,9,10,12] .fin) (.br 8 (Tr.sq [2,9,10,12] .fin) .stop)) .stop)))) (.br 11 (.br 2 (Tr.sq [6,7,8,9,10,12] .fin) (.br 6 (Tr.sq [7] (.br 2 (Tr.sq [8,9,10,12] .fin) (.br 8 (Tr.sq [2,9,10,12] .fin) .stop))) .stop)) .stop))) (.br 6 (.br 2 (.br 4 (Tr.sq [7] (.br 8 (.br 9 (Tr.sq [10,11,12] .fin) (.br 11 (Tr.sq [9,10,12] .fin) .stop)) (.br 11 (Tr.sq [8,9,10,12] .fin) .stop))) (.br 11 (Tr.sq [4,7,8,9,10,12] .fin) .stop)) (.br 4 (Tr.sq [7] (.br 2 (.br 8 (.br 9 (Tr.sq [10,11,12] .fin) (.br 11 (Tr.sq [9,10,12] .fin) .stop)) (.br 11 (Tr.sq [8,9,10,12] .fin) .stop)) (.br 8 (.br 2 (.br 9 (Tr.sq [10,11,12] .fin) (.br 11 (Tr.sq [9,10,12] .fin) .stop)) (.br 11 (Tr.sq [2,9,10,12] .fin) .stop)) (.br 11 (.br 2 (Tr.sq [8,9,10,12] .fin) (.br 8 (Tr.sq [2,9,10,12] .fin) .stop)) .stop)))) (.br 11 (.br 2 (Tr.sq [4,7,8,9,10,12] .fin) (.br 4 (Tr.sq [7] (.br 2 (Tr.sq [8,9,10,12] .fin) (.br 8 (Tr.sq [2,9,10,12] .fin) .stop))) .stop)) .stop))) (.br 11 (.br 2 (.br 4 (Tr.sq [6,7,8,9,10,12] .fin) (.br 6 (Tr.sq [4,7,8,9,10,12] .fin) .stop)) (.br 4 (.br 2 (Tr.sq [6,7,8,9,10,12] .fin) (.br 6 (Tr.sq [7] (.br 2 (Tr.sq [8,9,10,12] .fin) (.br 8 (Tr.sq [2,9,10,12] .fin) .stop))) .stop)) (.br 6 (.br 2 (Tr.sq [4,7,8,9,10,12] .fin) (.br 4 (Tr.sq [7] (.br 2 (Tr.sq [8,9,10,12] .fin) (.br 8 (Tr.sq [2,9,10,12] .fin) .stop))) .stop)) .stop))) .stop)))) (by kernel_rfl) ?_
  try simp only [go_sem]
  refine Bj ?_ ?_
  ·try simp only [go_sem]
   refine Bj ?_ ?_
   ·try simp only [go_sem]
    refine Bj (Z ?_) (Z ?_)
    ·refine AL s rfl ?_
     try simp only [go_sem]
     refine Bj ?_ ?_
     ·try simp only [go_sem]
      refine Bj (Z ?_) (Z ?_)
      ·refine caG ⟨[],[(1001,1001)],[(1,1,0),(2,2,0)],[(1501,64144)],[],true⟩ (AJ _ _ _ _ _ _ _ z) (Z ?_)
       exact BB (AI a0 a1 a2 u y o _ h) [(1000000000,64144)] [(2,2),(1,1),(1000000500,1016),(1000000501,1017),(1000000502,4011)]
      ·refine caG ⟨[],[(1001,1001)],[(1,1,0),(2,2,0)],[(1501,64144)],[],true⟩ (AJ _ _ _ _ _ _ _ z) (Z ?_)
       exact BB (AI a0 a1 a2 u y o _ h) [(1000000000,64144)] [(2,2),(1,1),(1000000500,1016),(1000000501,1017),(1000000502,4011)]
     ·try simp only [go_sem]
      refine caG ⟨[],[(1001,1001)],[(1,1,0),(2,2,0)],[(1501,64144)],[],true⟩ (AJ _ _ _ _ _ _ _ z) (Z ?_)
      exact BB (AI a0 a1 a2 u y o _ h) [(1000000000,64144)] [(2,2),(1,1),(1000000500,1016),(1000000501,1017),(1000000502,4011)]
    ·refine AL s rfl (Z ?_)
     refine caG ⟨[],[(1001,1001)],[(1,1,0),(2,2,0)],[(1501,64144)],[],true⟩ (AJ _ _ _ _ _ _ _ z) (Z ?_)
     exact BB (AI a0 a1 a2 u y o _ h) [(1000000000,64144)] [(2,2),(1,1),(1000000500,1016),(1000000501,1017),(1000000502,4011)]
   ·try simp only [go_sem]
    refine Bj ?_ ?_
    ·try simp only [go_sem]
     refine Bj (Z ?_) (Z ?_)
     ·refine AL s rfl ?_
      try simp only [go_sem]
      refine Bj ?_ ?_
      ·try simp only [go_sem]
       refine Bj (Z ?_) (Z ?_)
       ·refine caG ⟨[],[(1001,1001)],[(1,1,0),(2,2,0)],[(1501,64144)],[],true⟩ (AJ _ _ _ _ _ _ _ z) (Z ?_)
        exact BB (AI a0 a1 a2 u y o _ h) [(1000000000,64144)] [(2,2),(1,1),(1000000500,1016),(1000000501,1017),(1000000502,4011)]
       ·refine caG ⟨[],[(1001,1001)],[(1,1,0),(2,2,0)],[(1501,64144)],[],true⟩ (AJ _ _ _ _ _ _ _ z) (Z ?_)
        exact BB (AI a0 a1 a2 u y o _ h) [(1000000000,64144)] [(2,2),(1,1),(1000000500,1016),(1000000501,1017),(1000000502,4011)]
      ·try simp only [go_sem]
       refine caG ⟨[],[(1001,1001)],[(1,1,0),(2,2,0)],[(1501,64144)],[],true⟩ (AJ _ _ _ _ _ _ _ z) (Z ?_)
       exact BB (AI a0 a1 a2 u y o _ h) [(1000000000,64144)] [(2,2),(1,1),(1000000500,1016),(1000000501,1017),(1000000502,4011)]
     ·refine AL s rfl (Z ?_)
      refine caG ⟨[],[(1001,1001)],[(1,1,0),(2,2,0)],[(1501,64144)],[],true⟩ (AJ _ _ _ _ _ _ _ z) (Z ?_)
      exact BB (AI a0 a1 a2 u y o _ h) [(1000000000,64144)] [(2,2),(1,1),(1000000500,1016),(1000000501,1017),(1000000502,4011)]
    ·try simp only [go_sem]
     refine Bj (Z ?_) (Z ?_)
     ·refine AL s rfl (Z ?_)
      refine caG ⟨[],[(1001,1001)],[(1,1,0),(2,2,0)],[(1501,64144)],[],true⟩ (AJ _ _ _ _ _ _ _ z) (Z ?_)
      exact BB (AI a0 a1 a2 u y o _ h) [(1000000000,64144)] [(2,2),(1,1),(1000000500,1016),(1000000501,1017),(1000000502,4011)]
     ·refine AL s rfl (Z ?_)
      refine caG ⟨[],[(1001,1001)],[(1,1,0),(2,2,0)],[(1501,64144)],[],true⟩ (AJ _ _ _ _ _ _ _ z) (Z ?_)
      exact BB (AI a0 a1 a2 u y o _ h) [(1000000000,64144)] [(2,2),(1,1),(1000000500,1016),(1000000501,1017),(1000000502,4011)]
  ·try simp only [go_sem]
   refine Bj ?_ ?_
   ·try simp only [go_sem]
    refine Bj ?_ ?_
    ·try simp only [go_sem]
     refine Bj (Z ?_) (Z ?_)
     ·refine AL s rfl ?_
      try simp only [go_sem]
      refine Bj ?_ ?_
      ·try simp only [go_sem]
       refine Bj (Z ?_) (Z ?_)
       ·refine caG ⟨[],[(1001,1001)],[(1,1,0),(2,2,0)],[(1501,64144)],[],true⟩ (AJ _ _ _ _ _ _ _ z) (Z ?_)
        exact BB (AI a0 a1 a2 u y o _ h) [(1000000000,64144)] [(2,2),(1,1),(1000000500,1016),(1000000501,1017),(1000000502,4011)]
       ·refine caG ⟨[],[(1001,1001)],[(1,1,0),(2,2,0)],[(1501,64144)],[],true⟩ (AJ _ _ _ _ _ _ _ z) (Z ?_)
        exact BB (AI a0 a1 a2 u y o _ h) [(1000000000,64144)] [(2,2),(1,1),(1000000500,1016),(1000000501,1017),(1000000502,4011)]
      ·try simp only [go_sem]
       refine caG ⟨[],[(1001,1001)],[(1,1,0),(2,2,0)],[(1501,64144)],[],true⟩ (AJ _ _ _ _ _ _ _ z) (Z ?_)
       exact BB (AI a0 a1 a2 u y o _ h) [(1000000000,64144)] [(2,2),(1,1),(1000000500,1016),(1000000501,1017),(1000000502,4011)]
     ·refine AL s rfl (Z ?_)
      refine caG ⟨[],[(1001,1001)],[(1,1,0),(2,2,0)],[(1501,64144)],[],true⟩ (AJ _ _ _ _ _ _ _ z) (Z ?_)
      exact BB (AI a0 a1 a2 u y o _ h) [(1000000000,64144)] [(2,2),(1,1),(1000000500,1016),(1000000501,1017),(1000000502,4011)]
    ·try simp only [go_sem]
     refine Bj ?_ ?_
     ·try simp only [go_sem]
      refine AL s rfl ?_
      try simp only [go_sem]
      refine Bj ?_ ?_
      ·try simp only [go_sem]
       refine Bj ?_ ?_
       ·try simp only [go_sem]
        refine Bj (Z ?_) (Z ?_)
        ·refine caG ⟨[],[(1001,1001)],[(1,1,0),(2,2,0)],[(1501,64144)],[],true⟩ (AJ _ _ _ _ _ _ _ z) (Z ?_)
         exact BB (AI a0 a1 a2 u y o _ h) [(1000000000,64144)] [(2,2),(1,1),(1000000500,1016),(1000000501,1017),(1000000502,4011)]
        ·refine caG ⟨[],[(1001,1001)],[(1,1,0),(2,2,0)],[(1501,64144)],[],true⟩ (AJ _ _ _ _ _ _ _ z) (Z ?_)
         exact BB (AI a0 a1 a2 u y o _ h) [(1000000000,64144)] [(2,2),(1,1),(1000000500,1016),(1000000501,1017),(1000000502,4011)]
       ·try simp only [go_sem]
        refine caG ⟨[],[(1001,1001)],[(1,1,0),(2,2,0)],[(1501,64144)],[],true⟩ (AJ _ _ _ _ _ _ _ z) (Z ?_)
        exact BB (AI a0 a1 a2 u y o _ h) [(1000000000,64144)] [(2,2),(1,1),(1000000500,1016),(1000000501,1017),(1000000502,4011)]
      ·try simp only [go_sem]
       refine Bj ?_ ?_
       ·try simp only [go_sem]
        refine Bj ?_ ?_
        ·try simp only [go_sem]
         refine Bj (Z ?_) (Z ?_)
         ·refine caG ⟨[],[(1001,1001)],[(1,1,0),(2,2,0)],[(1501,64144)],[],true⟩ (AJ _ _ _ _ _ _ _ z) (Z ?_)
          exact BB (AI a0 a1 a2 u y o _ h) [(1000000000,64144)] [(2,2),(1,1),(1000000500,1016),(1000000501,1017),(1000000502,4011)]
         ·refine caG ⟨[],[(1001,1001)],[(1,1,0),(2,2,0)],[(1501,64144)],[],true⟩ (AJ _ _ _ _ _ _ _ z) (Z ?_)
          exact BB (AI a0 a1 a2 u y o _ h) [(1000000000,64144)] [(2,2),(1,1),(1000000500,1016),(1000000501,1017),(1000000502,4011)]
        ·try simp only [go_sem]
         refine caG ⟨[],[(1001,1001)],[(1,1,0),(2,2,0)],[(1501,64144)],[],true⟩ (AJ _ _ _ _ _ _ _ z) (Z ?_)
         exact BB (AI a0 a1 a2 u y o _ h) [(1000000000,64144)] [(2,2),(1,1),(1000000500,1016),(1000000501,1017),(1000000502,4011)]
       ·try simp only [go_sem]
        refine Bj (Z ?_) (Z ?_)
        ·refine caG ⟨[],[(1001,1001)],[(1,1,0),(2,2,0)],[(1501,64144)],[],true⟩ (AJ _ _ _ _ _ _ _ z) (Z ?_)
         exact BB (AI a0 a1 a2 u y o _ h) [(1000000000,64144)] [(2,2),(1,1),(1000000500,1016),(1000000501,1017),(1000000502,4011)]
        ·refine caG ⟨[],[(1001,1001)],[(1,1,0),(2,2,0)],[(1501,64144)],[],true⟩ (AJ _ _ _ _ _ _ _ z) (Z ?_)
         exact BB (AI a0 a1 a2 u y o _ h) [(1000000000,64144)] [(2,2),(1,1),(1000000500,1016),(1000000501,1017),(1000000502,4011)]
     ·try simp only [go_sem]
      refine Bj (Z ?_) (Z ?_)
      ·refine AL s rfl (Z ?_)
       refine caG ⟨[],[(1001,1001)],[(1,1,0),(2,2,0)],[(1501,64144)],[],true⟩ (AJ _ _ _ _ _ _ _ z) (Z ?_)
       exact BB (AI a0 a1 a2 u y o _ h) [(1000000000,64144)] [(2,2),(1,1),(1000000500,1016),(1000000501,1017),(1000000502,4011)]
      ·refine AL s rfl ?_
       try simp only [go_sem]
       refine Bj (Z ?_) (Z ?_)
       ·refine caG ⟨[],[(1001,1001)],[(1,1,0),(2,2,0)],[(1501,64144)],[],true⟩ (AJ _ _ _ _ _ _ _ z) (Z ?_)
        exact BB (AI a0 a1 a2 u y o _ h) [(1000000000,64144)] [(2,2),(1,1),(1000000500,1016),(1000000501,1017),(1000000502,4011)]
       ·refine caG ⟨[],[(1001,1001)],[(1,1,0),(2,2,0)],[(1501,64144)],[],true⟩ (AJ _ _ _ _ _ _ _ z) (Z ?_)
        exact BB (AI a0 a1 a2 u y o _ h) [(1000000000,64144)] [(2,2),(1,1),(1000000500,1016),(1000000501,1017),(1000000502,4011)]
   ·try simp only [go_sem]
    refine Bj ?_ ?_
    ·try simp only [go_sem]
     refine Bj ?_ ?_
     ·try simp only [go_sem]
      refine Bj (Z ?_) (Z ?_)
      ·refine AL s rfl ?_
       try simp only [go_sem]
       refine Bj ?_ ?_
       ·try simp only [go_sem]
        refine Bj (Z ?_) (Z ?_)
        ·refine caG ⟨[],[(1001,1001)],[(1,1,0),(2,2,0)],[(1501,64144)],[],true⟩ (AJ _ _ _ _ _ _ _ z) (Z ?_)
         exact BB (AI a0 a1 a2 u y o _ h) [(1000000000,64144)] [(2,2),(1,1),(1000000500,1016),(1000000501,1017),(1000000502,4011)]
        ·refine caG ⟨[],[(1001,1001)],[(1,1,0),(2,2,0)],[(1501,64144)],[],true⟩ (AJ _ _ _ _ _ _ _ z) (Z ?_)
         exact BB (AI a0 a1 a2 u y o _ h) [(1000000000,64144)] [(2,2),(1,1),(1000000500,1016),(1000000501,1017),(1000000502,4011)]
       ·try simp only [go_sem]
        refine caG ⟨[],[(1001,1001)],[(1,1,0),(2,2,0)],[(1501,64144)],[],true⟩ (AJ _ _ _ _ _ _ _ z) (Z ?_)
        exact BB (AI a0 a1 a2 u y o _ h) [(1000000000,64144)] [(2,2),(1,1),(1000000500,1016),(1000000501,1017),(1000000502,4011)]
      ·refine AL s rfl (Z ?_)
       refine caG ⟨[],[(1001,1001)],[(1,1,0),(2,2,0)],[(1501,64144)],[],true⟩ (AJ _ _ _ _ _ _ _ z) (Z ?_)
       exact BB (AI a0 a1 a2 u y o _ h) [(1000000000,64144)] [(2,2),(1,1),(1000000500,1016),(1000000501,1017),(1000000502,4011)]
     ·try simp only [go_sem]
      refine Bj ?_ ?_
      ·try simp only [go_sem]
       refine AL s rfl ?_
       try simp only [go_sem]
       refine Bj ?_ ?_
       ·try simp only [go_sem]
        refine Bj ?_ ?_
        ·try simp only [go_sem]
         refine Bj (Z ?_) (Z ?_)
         ·refine caG ⟨[],[(1001,1001)],[(1,1,0),(2,2,0)],[(1501,64144)],[],true⟩ (AJ _ _ _ _ _ _ _ z) (Z ?_)
          exact BB (AI a0 a1 a2 u y o _ h) [(1000000000,64144)] [(2,2),(1,1),(1000000500,1016),(1000000501,1017),(1000000502,4011)]
         ·refine caG ⟨[],[(1001,1001)],[(1,1,0),(2,2,0)],[(1501,64144)],[],true⟩ (AJ _ _ _ _ _ _ _ z) (Z ?_)
          exact BB (AI a0 a1 a2 u y o _ h) [(1000000000,64144)] [(2,2),(1,1),(1000000500,1016),(1000000501,1017),(1000000502,4011)]
        ·try simp only [go_sem]
         refine caG ⟨[],[(1001,1001)],[(1,1,0),(2,2,0)],[(1501,64144)],[],true⟩ (AJ _ _ _ _ _ _ _ z) (Z ?_)
         exact BB (AI a0 a1 a2 u y o _ h) [(1000000000,64144)] [(2,2),(1,1),(1000000500,1016),(1000000501,1017),(1000000502,4011)]
       ·try simp only [go_sem]
        refine Bj ?_ ?_
        ·try simp only [go_sem]
         refine Bj ?_ ?_
         ·try simp only [go_sem]
          refine Bj (Z ?_) (Z ?_)
          ·refine caG ⟨[],[(1001,1001)],[(1,1,0),(2,2,0)],[(1501,64144)],[],true⟩ (AJ _ _ _ _ _ _ _ z) (Z ?_)
           exact BB (AI a0 a1 a2 u y o _ h) [(1000000000,64144)] [(2,2),(1,1),(1000000500,1016),(1000000501,1017),(1000000502,4011)]
          ·refine caG ⟨[],[(1001,1001)],[(1,1,0),(2,2,0)],[(1501,64144)],[],true⟩ (AJ _ _ _ _ _ _ _ z) (Z ?_)
           exact BB (AI a0 a1 a2 u y o _ h) [(1000000000,64144)] [(2,2),(1,1),(1000000500,1016),(1000000501,1017),(1000000502,4011)]
         ·try simp only [go_sem]
          refine caG ⟨[],[(1001,1001)],[(1,1,0),(2,2,0)],[(1501,64144)],[],true⟩ (AJ _ _ _ _ _ _ _ z) (Z ?_)
          exact BB (AI a0 a1 a2 u y o _ h) [(1000000000,64144)] [(2,2),(1,1),(1000000500,1016),(1000000501,1017),(1000000502,4011)]
        ·try simp only [go_sem]
         refine Bj (Z ?_) (Z ?_)
         ·refine caG ⟨[],[(1001,1001)],[(1,1,0),(2,2,0)],[(1501,64144)],[],true⟩ (AJ _ _ _ _ _ _ _ z) (Z ?_)
          exact BB (AI a0 a1 a2 u y o _ h) [(1000000000,64144)] [(2,2),(1,1),(1000000500,1016),(1000000501,1017),(1000000502,4011)]
         ·refine caG ⟨[],[(1001,1001)],[(1,1,0),(2,2,0)],[(1501,64144)],[],true⟩ (AJ _ _ _ _ _ _ _ z) (Z ?_)
          exact BB (AI a0 a1 a2 u y o _ h) [(1000000000,64144)] [(2,2),(1,1),(1000000500,1016),(1000000501,1017),(1000000502,4011)]
      ·try simp only [go_sem]
       refine Bj (Z ?_) (Z ?_)
       ·refine AL s rfl (Z ?_)
        refine caG ⟨[],[(1001,1001)],[(1,1,0),(2,2,0)],[(1501,64144)],[],true⟩ (AJ _ _ _ _ _ _ _ z) (Z ?_)
        exact BB (AI a0 a1 a2 u y o _ h) [(1000000000,64144)] [(2,2),(1,1),(1000000500,1016),(1000000501,1017),(1000000502,4011)]
       ·refine AL s rfl ?_
        try simp only [go_sem]
        refine Bj (Z ?_) (Z ?_)
        ·refine caG ⟨[],[(1001,1001)],[(1,1,0),(2,2,0)],[(1501,64144)],[],true⟩ (AJ _ _ _ _ _ _ _ z) (Z ?_)
         exact BB (AI a0 a1 a2 u y o _ h) [(1000000000,64144)] [(2,2),(1,1),(1000000500,1016),(1000000501,1017),(1000000502,4011)]
        ·refine caG ⟨[],[(1001,1001)],[(1,1,0),(2,2,0)],[(1501,64144)],[],true⟩ (AJ _ _ _ _ _ _ _ z) (Z ?_)
         exact BB (AI a0 a1 a2 u y o _ h) [(1000000000,64144)] [(2,2),(1,1),(1000000500,1016),(1000000501,1017),(1000000502,4011)]
    ·try simp only [go_sem]
     refine Bj ?_ ?_
     ·try simp only [go_sem]
      refine Bj (Z ?_) (Z ?_)
      ·refine AL s rfl (Z ?_)
       refine caG ⟨[],[(1001,1001)],[(1,1,0),(2,2,0)],[(1501,64144)],[],true⟩ (AJ _ _ _ _ _ _ _ z) (Z ?_)
       exact BB (AI a0 a1 a2 u y o _ h) [(1000000000,64144)] [(2,2),(1,1),(1000000500,1016),(1000000501,1017),(1000000502,4011)]
      ·refine AL s rfl (Z ?_)
       refine caG ⟨[],[(1001,1001)],[(1,1,0),(2,2,0)],[(1501,64144)],[],true⟩ (AJ _ _ _ _ _ _ _ z) (Z ?_)
       exact BB (AI a0 a1 a2 u y o _ h) [(1000000000,64144)] [(2,2),(1,1),(1000000500,1016),(1000000501,1017),(1000000502,4011)]
     ·try simp only [go_sem]
      refine Bj ?_ ?_
      ·try simp only [go_sem]
       refine Bj (Z ?_) (Z ?_)
       ·refine AL s rfl (Z ?_)
        refine caG ⟨[],[(1001,1001)],[(1,1,0),(2,2,0)],[(1501,64144)],[],true⟩ (AJ _ _ _ _ _ _ _ z) (Z ?_)
        exact BB (AI a0 a1 a2 u y o _ h) [(1000000000,64144)] [(2,2),(1,1),(1000000500,1016),(1000000501,1017),(1000000502,4011)]
       ·refine AL s rfl ?_
        try simp only [go_sem]
        refine Bj (Z ?_) (Z ?_)
        ·refine caG ⟨[],[(1001,1001)],[(1,1,0),(2,2,0)],[(1501,64144)],[],true⟩ (AJ _ _ _ _ _ _ _ z) (Z ?_)
         exact BB (AI a0 a1 a2 u y o _ h) [(1000000000,64144)] [(2,2),(1,1),(1000000500,1016),(1000000501,1017),(1000000502,4011)]
        ·refine caG ⟨[],[(1001,1001)],[(1,1,0),(2,2,0)],[(1501,64144)],[],true⟩ (AJ _ _ _ _ _ _ _ z) (Z ?_)
         exact BB (AI a0 a1 a2 u y o _ h) [(1000000000,64144)] [(2,2),(1,1),(1000000500,1016),(1000000501,1017),(1000000502,4011)]
      ·try simp only [go_sem]
       refine Bj (Z ?_) (Z ?_)
       ·refine AL s rfl (Z ?_)
        refine caG ⟨[],[(1001,1001)],[(1,1,0),(2,2,0)],[(1501,64144)],[],true⟩ (AJ _ _ _ _ _ _ _ z) (Z ?_)
        exact BB (AI a0 a1 a2 u y o _ h) [(1000000000,64144)] [(2,2),(1,1),(1000000500,1016),(1000000501,1017),(1000000502,4011)]
       ·refine AL s rfl ?_
        try simp only [go_sem]
        refine Bj (Z ?_) (Z ?_)
        ·refine caG ⟨[],[(1001,1001)],[(1,1,0),(2,2,0)],[(1501,64144)],[],true⟩ (AJ _ _ _ _ _ _ _ z) (Z ?_)
         exact BB (AI a0 a1 a2 u y o _ h) [(1000000000,64144)] [(2,2),(1,1),(1000000500,1016),(1000000501,1017),(1000000502,4011)]
        ·refine caG ⟨[],[(1001,1001)],[(1,1,0),(2,2,0)],[(1501,64144)],[],true⟩ (AJ _ _ _ _ _ _ _ z) (Z ?_)
         exact BB (AI a0 a1 a2 u y o _ h) [(1000000000,64144)] [(2,2),(1,1),(1000000500,1016),(1000000501,1017),(1000000502,4011)]
end Go.Proofs.YteckcjgpnegkjaaGreat.Ab
