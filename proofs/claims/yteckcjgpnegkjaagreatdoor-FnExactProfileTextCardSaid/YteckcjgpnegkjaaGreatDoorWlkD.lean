/-
 The functions do what their models say. Printed by wip/ab/gen.py.
-/
import Derived.Test.YteckcjgpnegkjaaGreatDoorModG
import Derived.Test.YteckcjgpnegkjaaGreatDoorTi2
import Derived.Test.YteckcjgpnegkjaaGreatDoorWlkC
namespace Go.Proofs.YteckcjgpnegkjaaGreatDoor.Ab
set_option linter.unusedVariables false
set_option linter.unusedSimpArgs false
set_option maxRecDepth 20000
set_option maxHeartbeats 4000000
open Go.RowKit
theorem AJ (a0 a1 a2 a3 a4 a5 r) (h:Ag a0 a1 a2 a3 a4 a5=some r):AG Tryz.prog 85 [.box 1 0,.int .i64 a1,.int .i64 a2,.int .i64 a3,.ro (a4.map AS),.int .i64 a5] [(1001,⟨List.map Agent.dm a0.net.agents,some 5,0,true⟩)] [(2,[.mpc (.int .i64) (a0.removed.map prB)]),(1,[.own 1001,.ro (a0.book.map Net.ds),.mpr 2])] (.int .i64 r.1) [(1501,⟨List.map Agent.dm r.2.net.agents,some 5,0,true⟩)] [(1,[.own 1501,.ro (a0.book.map Net.ds),.mpr 2]),(2,[.mpc (.int .i64) (r.2.removed.map prB)])] :=by
 unfold Ag at h
 refine agF Tryz.func85 mixed (h:=Z ?_)
 refine Aa [false,false,false,false,false,false,false,false,false,false,false,false,false,false,false,true,true,true,true,true] (Tr.sq [15,16,17,18,19] .fin) (by kernel_rfl) (Z ?_)
 replace h:=AB h; obtain⟨u,w,h⟩:=h
 refine W0 (Hg _ _ w) (by (first|rfl|(simp only [go_sem]; rfl))) (by first|rfl|(simp only [go_sem])) (Z ?_)
 replace h:=AB h; obtain⟨y,q,h⟩:=h
 have hq_:=Fc q
 obtain⟨hv2012a,hv2012b,hv2012c⟩:=hq_
 refine Al (by refine⟨?_,?_,?_⟩ <;> omega) (Z ?_)
 refine A6 (y.map Port.ds) (by rw [← hv2012c]; simp only [List.map_replicate,go_sem,Port.ds_eq]) (Z ?_)
 replace h:=AB h; obtain⟨g,j,h⟩:=h
 have hq_:=Av j
 obtain⟨hv2015a,hv2015b⟩:=hq_
 refine Cz true (Z ?_)
 refine Al (by refine⟨?_,?_⟩ <;> (try simp only [List.length_map,List.length_append,List.length_cons,List.length_nil] at*) <;> (try unfold maxLen) <;> omega) (Z ?_)
 refine A6 (g.map Agent.dm) (by rw [← hv2015b]; simp only [List.map_append,List.map_cons,List.map_nil,List.nil_append,List.append_nil,go_sem,Agent.ds_eq,Agent.dm_eq]) (Z ?_)
 refine AF ?_
 cases h
 refine BB (.done _) [(1501,32240)] [(2,2),(1,1)] ?_
 simp only [go_sem]
theorem Im (n:Nat):(∀a0 a2 u w y q r,A7 n a0 a2 u w y q=some r→DF Tryz.prog Tryz.f83 [1,1,1,1,1,1,1,1,0] (.tup []) [(1501,⟨List.map Agent.dm r.net.agents,some 5,0,true⟩)] [(1,[.own 1501,.ro (a0.book.map Net.ds),.mpr 2]),(2,[.mpc (.int .i64) (r.removed.map prB)])] ⟨[(0,.box 1 0),(2,.int .i64 a2),(100,.own 1000002001),(101,.int .i64 (u.length:Int)),(102,.int .i64 q)],[(1000002000,some ⟨List.map Agent.dm y,some 5,0,true⟩),(1000002001,some ⟨List.map AS u,some 1,0,false⟩)],[(2,some [.mpc (.int .i64) (w.map prB)]),(1,some [.own 1000002000,.ro (a0.book.map Net.ds),.mpr 2])]⟩):=by
 induction n with
 |zero=>exact((fun _ _ _ _ _ _ _ h=>by rw [A7] at h; cases h))
 | succ n ih=>
  have ih0:=ih
  ·intro a0 a2 u w y q r h
   rw [A7] at h
   refine A5 rfl rfl (Z ?_)
   refine AZ (Z ?_)
   refine AD h (fun h=>Z ?_) (fun h=>Z ?_)
   ·refine AF ?_
    replace h:=AB h; obtain⟨g,j,h⟩:=h
    refine AM j rfl (Z ?_)
    refine Ac (AX j) (Z ?_)
    replace h:=AB h; obtain⟨k,b,h⟩:=h
    refine caG ⟨[],[(1001,1000002000)],[(1,1,0),(2,2,0)],[(1501,272112)],[],true⟩ (Ap _ _ _ _ b) (Z ?_)
    refine AF ?_
    exact lpG (ih0 a0 a2 u k.removed k.net.agents (IntKind.i64.wrap (q+1)) _ h) [(1000002000,272112),(1000002001,1000002001)] [(2,2),(1,1)]
   ·cases h
    refine BB (.done _) [(1501,1000002000)] [(2,2),(1,1)] ?_
    simp only [go_sem]
theorem In (n:Nat):(∀a0 a1 a2 u w y q g j k r,An n a0 a1 a2 u w y q g j k=some r→DF Tryz.prog Tryz.f83 [1,1,1,1,0,1,0] (.tup []) [(1501,⟨List.map Agent.dm r.net.agents,some 5,0,true⟩)] [(1,[.own 1501,.ro (a0.book.map Net.ds),.mpr 2]),(2,[.mpc (.int .i64) (r.removed.map prB)])] ⟨[(0,.box 1 0),(1,.int .i64 a1),(2,.int .i64 a2),(6,.box 1000001500 0),(7,.int .i64 w.1),(8,.int .i64 y.1),(9,.own 1000001001),(10,.int .i64 k)],[(1000001000,some ⟨List.map Agent.dm g,some 5,0,true⟩),(1000001001,some ⟨List.map AS j,some 1,0,false⟩)],[(2,some [.mpc (.int .i64) (q.map prB)]),(1,some [.own 1000001000,.ro (a0.book.map Net.ds),.mpr 2]),(1000001500,some [.int .i64 u.kind,.int .i64 u.level,.int .i64 u.value,.ro (u.data.map AS),.ro (List.replicate (List.length u.ports) [])])]⟩):=by
 induction n with
 |zero=>exact((fun _ _ _ _ _ _ _ _ _ _ _ h=>by rw [An] at h; cases h))
 | succ n ih=>
  have ih0:=ih
  ·intro a0 a1 a2 u w y q g j k r h
   rw [An] at h
   refine A5 rfl rfl (Z ?_)
   refine AZ (Z ?_)
   refine AD h (fun h=>Z ?_) (fun h=>Z ?_)
   ·refine AF ?_
    replace h:=AB h; obtain⟨b,d,h⟩:=h
    refine AM d (Agent.dm_len _) (Z ?_)
    refine Ac (AX d) (Z ?_)
    replace h:=AB h; obtain⟨c,e,h⟩:=h
    refine caG ⟨[],[(1001,1000001000)],[(1,1,0),(2,2,0)],[(1501,128160)],[],true⟩ (AJ _ _ _ _ _ _ _ e) (Z ?_)
    refine AF ?_
    replace h:=AB h; obtain⟨i,l,h⟩:=h
    refine caG ⟨[],[(1001,128160)],[(1,1,0)],[(1501,144128)],[],true⟩ (Et _ _ _ _ l) (Z ?_)
    refine AF ?_
    replace h:=AB h; obtain⟨t,s,h⟩:=h
    refine caG ⟨[],[(1001,144128)],[(1,1,0)],[(1501,160128)],[],true⟩ (Et _ _ _ _ s) (Z ?_)
    refine AF ?_
    replace h:=AB h; obtain⟨o,z,h⟩:=h
    have hq_:=Av z
    obtain⟨hv11003a,hv11003b⟩:=hq_
    refine Cz false (Z ?_)
    refine Al (by refine⟨?_,?_⟩ <;> (try simp only [List.length_map,List.length_append,List.length_cons,List.length_nil] at*) <;> (try unfold maxLen) <;> omega) (Z ?_)
    refine A6 (o.map AS) (by rw [← hv11003b]; simp only [List.map_append,List.map_cons,List.map_nil,List.nil_append,List.append_nil,go_sem,slD]) (Z ?_)
    refine AF ?_
    exact lpG (ih0 a0 a1 a2 u w y c.2.removed t.agents o (IntKind.i64.wrap (k+1)) _ h) [(1000001000,160128),(1000001001,176048)] [(2,2),(1,1),(1000001500,1000001500)]
   ·refine AF ?_
    replace h:=AB h; obtain⟨u1,u2,h⟩:=h
    refine caG ⟨[],[(1001,1000001000)],[(1,1,0),(2,2,0)],[(1501,192080)],[],true⟩ (Ap _ _ _ _ u2) (Z ?_)
    refine AF ?_
    replace h:=AB h; obtain⟨u3,u4,h⟩:=h
    refine caG ⟨[],[(1001,192080)],[(1,1,0),(2,2,0)],[(1501,208080)],[],true⟩ (Ap _ _ _ _ u4) (Z ?_)
    refine AF ?_
    exact loG (Im fuel a0 a2 j u3.removed u3.net.agents 0 _ h) [(1000002000,208080),(1000002001,1000001001)] [(2,2),(1,1)]
theorem J0 (a0 a1 a2 r) (h:Ck a0 a1 a2=some r):AG Tryz.prog 83 [.box 1 0,.int .i64 a1,.int .i64 a2] [(1001,⟨List.map Agent.dm a0.net.agents,some 5,0,true⟩)] [(2,[.mpc (.int .i64) (a0.removed.map prB)]),(1,[.own 1001,.ro (a0.book.map Net.ds),.mpr 2])] (.tup []) [(1501,⟨List.map Agent.dm r.net.agents,some 5,0,true⟩)] [(1,[.own 1501,.ro (a0.book.map Net.ds),.mpr 2]),(2,[.mpc (.int .i64) (r.removed.map prB)])] :=by
 unfold Ck at h
 refine agF Tryz.func83 mixed (h:=Z ?_)
 replace h:=AB h; obtain⟨u,w,h⟩:=h
 refine AM w (Agent.dm_len _) (Z ?_)
 refine Ac (AX w) (Z ?_)
 refine Wo (.chdr 1008 4 1001 0 (List.length u.ports) [(5,Int.toNat a2,4)] _ (u.ports.map Port.ds) (by (first|rfl|(simp only [go_sem]; rfl))) (by rfl) (TW (tk:=⟨List.map Agent.dm a0.net.agents,some 5,0,true⟩) (by (first|rfl|(simp only [go_sem]; rfl))) rfl (E2 (sz:=5) (j:=4) (r:=List.map Port.ds u.ports) (AX (f:=Agent.dm) w) (Agent.dm_len _) (by rw [Agent.dm_eq]; rfl))) (List.length_map _) (.done _)) (Z ?_)
 all_goals try rfl
 replace h:=AB h; obtain⟨y,q,h⟩:=h
 refine caG ⟨[],[(1001,1001)],[(1,1,0),(2,2,0)],[(1501,32192)],[],true⟩ (AJ _ _ _ _ _ _ _ q) (Z ?_)
 refine AF ?_
 replace h:=AB h; obtain⟨g,k,h⟩:=h
 refine caG ⟨[],[(1001,32192)],[(1,1,0),(2,2,0)],[(1501,48192)],[],true⟩ (AJ _ _ _ _ _ _ _ k) (Z ?_)
 refine AF ?_
 refine CF (Fm rfl rfl (In fuel a0 a1 a2 u y g g.2.removed g.2.net.agents [] 1 _ h):) (.one ⟨_,.slot 9 2000000000 (some 1) false (by simp only [go_sem]) (by simp only [go_sem]) (.done _),[(1000001000,48192),(1000001001,2000000000)],[(2,2),(1,1),(1000001500,1008)],?_⟩)
 simp only [go_sem]
 all_goals try rfl
theorem NN (a0 r) (h:G0 a0=some r):AC Tryz.prog 133 [.bool a0] (.int .i64 r):=by
 unfold G0 at h
 refine acF Tryz.func133 mixed (h:=Z ?_)
 refine AD h (fun h=>Z ?_) (fun h=>Z ?_)
 ·cases h
  simp only [go_sem]
 ·refine AF ?_
  cases h
  simp only [go_sem]
theorem GB (a0 r) (h:Dg a0=some r):AC Tryz.prog 164 [.int .i64 a0] (.int .i64 r):=by
 unfold Dg at h
 refine acF Tryz.func164 mixed (h:=Z ?_)
 cases h
 simp only [go_sem]
theorem Tz (a0 a1 a2 r) (h:FN a0 a1 a2=some r):AC Tryz.prog 132 [.int .i64 a0,.int .i64 a1,.int .i64 a2] (.int .i64 r):=by
 unfold FN at h
 refine acF Tryz.func132 mixed (h:=Z ?_)
 replace h:=AB h; obtain⟨u,w,h⟩:=h
 refine AI (GB _ _ w) (Z ?_)
 replace h:=AB h; obtain⟨y,q,h⟩:=h
 refine AI (GB _ _ q) (Z ?_)
 refine AF ?_
 refine AD h (fun h=>Z ?_) (fun h=>Z ?_)
 ·replace h:=AB h; obtain⟨g,j,h⟩:=h
  refine AI (GB _ _ j) (Z ?_)
  refine AF ?_
  cases h
  simp only [go_sem]
 ·refine AD h (fun h=>Z ?_) (fun h=>Z ?_)
  ·replace h:=AB h; obtain⟨k,b,h⟩:=h
   refine AI (GB _ _ b) (Z ?_)
   refine AF ?_
   cases h
   simp only [go_sem]
  ·refine AD h (fun h=>Z ?_) (fun h=>Z ?_)
   ·replace h:=AB h; obtain⟨d,c,h⟩:=h
    refine AI (GB _ _ c) (Z ?_)
    refine AF ?_
    cases h
    simp only [go_sem]
   ·refine AD h (fun h=>Z ?_) (fun h=>Z ?_)
    ·refine AD h (fun h=>Z ?_) (fun h=>Z ?_)
     ·cases h
      simp only [go_sem]
     ·refine AF ?_
      replace h:=AB h; obtain⟨e,i,h⟩:=h
      refine Al (X7 i) (Z ?_)
      replace h:=AB h; obtain⟨l,t,h⟩:=h
      refine AI (GB _ _ t) (Z ?_)
      refine AF ?_
      cases h
      simp only [go_sem]
    ·refine AD h (fun h=>Z ?_) (fun h=>Z ?_)
     ·replace h:=AB h; obtain⟨s,o,h⟩:=h
      refine AI (NN _ _ o) (Z ?_)
      refine AF ?_
      cases h
      simp only [go_sem]
     ·refine AD h (fun h=>Z ?_) (fun h=>Z ?_)
      ·replace h:=AB h; obtain⟨z,u1,h⟩:=h
       refine AI (NN _ _ u1) (Z ?_)
       refine AF ?_
       cases h
       simp only [go_sem]
      ·refine AF ?_
       cases h
       simp only [go_sem]
theorem Ko (a0 a1 a2 r) (h:Cd a0 a1 a2=some r):AG Tryz.prog 86 [.box 1 0,.int .i64 a1,.int .i64 a2] [(1001,⟨List.map Agent.dm a0.net.agents,some 5,0,true⟩)] [(2,[.mpc (.int .i64) (a0.removed.map prB)]),(1,[.own 1001,.ro (a0.book.map Net.ds),.mpr 2])] (.tup []) [(1501,⟨List.map Agent.dm r.net.agents,some 5,0,true⟩)] [(1,[.own 1501,.ro (a0.book.map Net.ds),.mpr 2]),(2,[.mpc (.int .i64) (r.removed.map prB)])] :=by
 unfold Cd at h
 refine agF Tryz.func86 mixed (h:=Z ?_)
 refine Aa [false,false,false,false,false,false,false,false,false,false,false,false,false,false,false,false,false,false,false,true] (Tr.sq [19] .fin) (by kernel_rfl) (Z ?_)
 replace h:=AB h; obtain⟨u,w,h⟩:=h
 refine AM w (Agent.dm_len _) (Z ?_)
 refine Ac (AX w) (Z ?_)
 replace h:=AB h; obtain⟨y,q,h⟩:=h
 refine AM q (Agent.dm_len _) (Z ?_)
 refine Ac (AX q) (Z ?_)
 refine AF ?_
 refine AD h (fun h=>Z ?_) (fun h=>Z ?_)
 ·replace h:=AB h; obtain⟨g,j,h⟩:=h
  refine W1 [3006] ⟨[],[(1001,1001)],[(1,1,0),(2,2,0)],[(1501,48112)],[],true⟩ (by kernel_rfl) (AJ _ _ _ _ _ _ _ j) (by kernel_rfl) (Z ?_)
  refine AF ?_
  replace h:=AB h; obtain⟨k,b,h⟩:=h
  refine caG ⟨[],[(1001,48112)],[(1,1,0),(2,2,0)],[(1501,64080)],[],true⟩ (Ap _ _ _ _ b) (Z ?_)
  refine AF ?_
  replace h:=AB h; obtain⟨d,c,h⟩:=h
  refine caG ⟨[],[(1001,64080)],[(1,1,0),(2,2,0)],[(1501,80080)],[],true⟩ (Ap _ _ _ _ c) (Z ?_)
  refine AF ?_
  cases h
  refine BB (.done _) [(1501,80080)] [(2,2),(1,1)] ?_
  simp only [go_sem]
 ·refine AF ?_
  refine Aa [false,false,false,false,false,false,false,false,false,false,false,false,true,true,true] (Tr.sq [12,13,14] .fin) (by kernel_rfl) (Z ?_)
  replace h:=AB h; obtain⟨e,i,h⟩:=h
  refine AM i rfl (Z ?_)
  replace h:=AB h; obtain⟨l,t,h⟩:=h
  refine AI (Tz _ _ _ _ t) (Z ?_)
  replace h:=AB h; obtain⟨s,o,h⟩:=h
  refine caG ⟨[],[(1001,1001)],[(1,1,0),(2,2,0)],[(1501,96192)],[],true⟩ (AJ _ _ _ _ _ _ _ o) (Z ?_)
  replace h:=AB h; obtain⟨z,u1,h⟩:=h
  refine caG ⟨[],[(1001,96192)],[(1,1,0),(2,2,0)],[(1501,96224)],[],true⟩ (Ap _ _ _ _ u1) (Z ?_)
  cases h
  refine BB (.done _) [(1501,96224)] [(2,2),(1,1)] ?_
  simp only [go_sem]
theorem J1 (n:Nat):(∀a0 a1 a2 u w y q g j r,BE n a0 a1 a2 u w y q g j=some r→DF Tryz.prog Tryz.f87 [1,1,1,1,1,0,1,0] (.tup []) [(1501,⟨List.map Agent.dm r.net.agents,some 5,0,true⟩)] [(1,[.own 1501,.ro (a0.book.map Net.ds),.mpr 2]),(2,[.mpc (.int .i64) (r.removed.map prB)])] ⟨[(0,.box 1 0),(1,.int .i64 a1),(2,.int .i64 a2),(8,.box 1000004500 0),(84,.own 1000004001),(85,.int .i64 (y.length:Int)),(86,.int .i64 j)],[(1000004000,some ⟨List.map Agent.dm g,some 5,0,true⟩),(1000004001,some ⟨List.map AS y,some 1,0,false⟩)],[(2,some [.mpc (.int .i64) (q.map prB)]),(1,some [.own 1000004000,.ro (a0.book.map Net.ds),.mpr 2]),(1000004500,some [.int .i64 u,.int .i64 w])]⟩):=by
 induction n with
 |zero=>exact((fun _ _ _ _ _ _ _ _ _ _ h=>by rw [BE] at h; cases h))
 | succ n ih=>
  have ih0:=ih
  ·intro a0 a1 a2 u w y q g j r h
   rw [BE] at h
   refine A5 rfl rfl (Z ?_)
   refine AZ (Z ?_)
   refine AD h (fun h=>Z ?_) (fun h=>Z ?_)
   ·refine AF ?_
    replace h:=AB h; obtain⟨k,b,h⟩:=h
    refine AM b rfl (Z ?_)
    refine Ac (AX b) (Z ?_)
    replace h:=AB h; obtain⟨d,c,h⟩:=h
    refine caG ⟨[],[(1001,1000004000)],[(1,1,0),(2,2,0)],[(1501,256112)],[],true⟩ (Ap _ _ _ _ c) (Z ?_)
    refine AF ?_
    exact lpG (ih0 a0 a1 a2 u w y d.removed d.net.agents (IntKind.i64.wrap (j+1)) _ h) [(1000004000,256112),(1000004001,1000004001)] [(2,2),(1,1),(1000004500,1000004500)]
   ·refine AF ?_
    replace h:=AB h; obtain⟨e,i,h⟩:=h
    refine caG ⟨[],[(1001,1000004000)],[(1,1,0),(2,2,0)],[(1501,288064)],[],true⟩ (Ap _ _ _ _ i) (Z ?_)
    cases h
    refine BB (.done _) [(1501,288064)] [(2,2),(1,1)] ?_
    simp only [go_sem]
theorem J2 (n:Nat):(∀a0 a1 a2 u w y q g j k b r,BP n a0 a1 a2 u w y q g j k b=some r→DF Tryz.prog Tryz.f87 [1,1,1,1,0,1,0] (.tup []) [(1501,⟨List.map Agent.dm r.net.agents,some 5,0,true⟩)] [(1,[.own 1501,.ro (a0.book.map Net.ds),.mpr 2]),(2,[.mpc (.int .i64) (r.removed.map prB)])] ⟨[(0,.box 1 0),(1,.int .i64 a1),(2,.int .i64 a2),(7,.box 1000002500 0),(8,.box 1000002501 0),(9,.own 1000002001),(63,.int .i64 (IntKind.i64.wrap ((((List.length u.ports):Nat):Int) - 1))),(64,.int .i64 b)],[(1000002000,some ⟨List.map Agent.dm q,some 5,0,true⟩),(1000002001,some ⟨List.map AS k,some 1,0,false⟩)],[(2,some [.mpc (.int .i64) (y.map prB)]),(1,some [.own 1000002000,.ro (a0.book.map Net.ds),.mpr 2]),(1000002500,some [.int .i64 w.kind,.int .i64 w.level,.int .i64 w.value,.ro (w.data.map AS),.ro (List.replicate (List.length w.ports) [])]),(1000002501,some [.int .i64 g,.int .i64 j])]⟩):=by
 induction n with
 |zero=>exact((fun _ _ _ _ _ _ _ _ _ _ _ _ h=>by rw [BP] at h; cases h))
 | succ n ih=>
  have ih0:=ih
  ·intro a0 a1 a2 u w y q g j k b r h
   rw [BP] at h
   refine A5 rfl rfl (Z ?_)
   refine AZ (Z ?_)
   refine AD h (fun h=>Z ?_) (fun h=>Z ?_)
   ·refine AF ?_
    replace h:=AB h; obtain⟨d,c,h⟩:=h
    refine caG ⟨[],[(1001,1000002000)],[(1,1,0),(2,2,0)],[(1501,128048)],[],true⟩ (AJ _ _ _ _ _ _ _ c) (Z ?_)
    refine AF ?_
    refine Aa [false,false,false,false,false,false,true] (Tr.sq [6] .fin) (by kernel_rfl) (Z ?_)
    replace h:=AB h; obtain⟨e,i,h⟩:=h
    refine caG ⟨[],[(1001,128048)],[(1,1,0)],[(1501,144096)],[],true⟩ (Et _ _ _ _ i) (Z ?_)
    refine AF ?_
    replace h:=AB h; obtain⟨l,t,h⟩:=h
    have hq_:=Av t
    obtain⟨hv11003a,hv11003b⟩:=hq_
    refine Cz false (Z ?_)
    refine Al (by refine⟨?_,?_⟩ <;> (try simp only [List.length_map,List.length_append,List.length_cons,List.length_nil] at*) <;> (try unfold maxLen) <;> omega) (Z ?_)
    refine A6 (l.map AS) (by rw [← hv11003b]; simp only [List.map_append,List.map_cons,List.map_nil,List.nil_append,List.append_nil,go_sem,slD]) (Z ?_)
    refine AF ?_
    exact lpG (ih0 a0 a1 a2 u w d.2.removed e.agents d.1 2 l (IntKind.i64.wrap (b+1)) _ h) [(1000002000,144096),(1000002001,176048)] [(2,2),(1,1),(1000002500,1000002500),(1000002501,1000002501)]
   ·refine AF ?_
    exact loG (J1 fuel a0 a1 a2 g j k y q 0 _ h) [(1000004000,1000002000),(1000004001,1000002001)] [(2,2),(1,1),(1000004500,1000002501)]
theorem AH (a0:Rewriter) (a1:Int) (a2:Int) (u:Agent) (w:Agent) (y:Int × Rewriter) (r:Rewriter) (h:Dh a0 a1 a2 u w y=some r):DF Tryz.prog Tryz.f87 [1,1,1] (.tup []) [(1501,⟨List.map Agent.dm r.net.agents,some 5,0,true⟩)] [(1,[.own 1501,.ro (a0.book.map Net.ds),.mpr 2]),(2,[.mpc (.int .i64) (r.removed.map prB)])] ⟨[(0,.box 1 0),(1,.int .i64 a1),(2,.int .i64 a2),(6,.box 1000000500 0),(7,.box 1000000501 0),(8,.box 1000000502 0)],[(1000000000,some ⟨List.map Agent.dm y.2.net.agents,some 5,0,true⟩)],[(2,some [.mpc (.int .i64) (y.2.removed.map prB)]),(1,some [.own 1000000000,.ro (a0.book.map Net.ds),.mpr 2]),(1000000500,some [.int .i64 u.kind,.int .i64 u.level,.int .i64 u.value,.ro (u.data.map AS),.ro (List.replicate (List.length u.ports) [])]),(1000000501,some [.int .i64 w.kind,.int .i64 w.level,.int .i64 w.value,.ro (w.data.map AS),.ro (List.replicate (List.length w.ports) [])]),(1000000502,some [.int .i64 y.1,.int .i64 0])]⟩:=by
 unfold Dh at h
 refine A5 rfl rfl (Z ?_)
 refine CF (Fm rfl rfl (J2 fuel a0 a1 a2 u w y.2.removed y.2.net.agents y.1 0 [] 0 _ h):) (.one ⟨_,.slot 9 2000000000 (some 1) false (by simp only [go_sem]) (by simp only [go_sem]) (.done _),[(1000002000,1000000000),(1000002001,2000000000)],[(2,2),(1,1),(1000002500,1000000501),(1000002501,1000000502)],?_⟩)
 simp only [go_sem]
 all_goals try rfl
theorem Lo (a0 a1 a2 r) (h:Br a0 a1 a2=some r):AG Tryz.prog 87 [.box 1 0,.int .i64 a1,.int .i64 a2] [(1001,⟨List.map Agent.dm a0.net.agents,some 5,0,true⟩)] [(2,[.mpc (.int .i64) (a0.removed.map prB)]),(1,[.own 1001,.ro (a0.book.map Net.ds),.mpr 2])] (.tup []) [(1501,⟨List.map Agent.dm r.net.agents,some 5,0,true⟩)] [(1,[.own 1501,.ro (a0.book.map Net.ds),.mpr 2]),(2,[.mpc (.int .i64) (r.removed.map prB)])] :=by
 unfold Br at h
 refine agF Tryz.func87 mixed (h:=Z ?_)
 refine az [] [(16,18),(17,19)] .fin (by kernel_rfl) (Z ?_)
 replace h:=AB h; obtain⟨u,w,h⟩:=h
 refine AM w (Agent.dm_len _) (Z ?_)
 refine Ac (AX w) (Z ?_)
 replace h:=AB h; obtain⟨y,q,h⟩:=h
 refine AM q (Agent.dm_len _) (Z ?_)
 refine Ac (AX q) (Z ?_)
 refine X1 _ (by rfl) (by (first|(simp only [go_sem]; done)|(simp only [go_sem]; decide)|decide)) (by rfl) (Z ?_)
 refine X1 _ (by rfl) (by (first|(simp only [go_sem]; done)|(simp only [go_sem]; decide)|decide)) (by rfl) (Z ?_)
 refine f6 (by refine⟨by rfl,by rfl,trivial⟩) (Z ?_)
 refine Wo (.chdr 1016 4 1001 0 (List.length u.ports) [(5,Int.toNat a1,4)] _ (u.ports.map Port.ds) (by (first|rfl|(simp only [go_sem]; rfl))) (by rfl) (TW (tk:=⟨List.map Agent.dm a0.net.agents,some 5,0,true⟩) (by (first|rfl|(simp only [go_sem]; rfl))) rfl (E2 (sz:=5) (j:=4) (r:=List.map Port.ds u.ports) (AX (f:=Agent.dm) w) (Agent.dm_len _) (by rw [Agent.dm_eq]; rfl))) (List.length_map _) (.chdr 1017 4 1001 0 (List.length y.ports) [(5,Int.toNat a2,4)] _ (y.ports.map Port.ds) (by (first|rfl|(simp only [go_sem]; rfl))) (by rfl) (TW (tk:=⟨List.map Agent.dm a0.net.agents,some 5,0,true⟩) (by (first|rfl|(simp only [go_sem]; rfl))) rfl (E2 (sz:=5) (j:=4) (r:=List.map Port.ds y.ports) (AX (f:=Agent.dm) q) (Agent.dm_len _) (by rw [Agent.dm_eq]; rfl))) (List.length_map _) (.done _))) (Z ?_)
 all_goals try rfl
 refine AD h (fun h=>Z ?_) (fun h=>Z ?_)
 ·refine Aa [false,false,false,false,false,false,false,false,false,false,false,false,false,false,true,true,true] (Tr.sq [14,15,16] .fin) (by kernel_rfl) (Z ?_)
  replace h:=AB h; obtain⟨g,k,h⟩:=h
  refine AI (NN _ _ k) (Z ?_)
  replace h:=AB h; obtain⟨b,d,h⟩:=h
  refine AM d rfl (Z ?_)
  replace h:=AB h; obtain⟨c,e,h⟩:=h
  refine caG ⟨[],[(1001,1001)],[(1,1,0),(2,2,0)],[(1501,48224)],[],true⟩ (AJ _ _ _ _ _ _ _ e) (Z ?_)
  replace h:=AB h; obtain⟨i,l,h⟩:=h
  refine caG ⟨[],[(1001,48224)],[(1,1,0),(2,2,0)],[(1501,48256)],[],true⟩ (Ap _ _ _ _ l) (Z ?_)
  refine AF ?_
  cases h
  refine BB (.done _) [(1501,48256)] [(2,2),(1,1)] ?_
  simp only [go_sem]
 ·refine AF ?_
  replace h:=AB h; obtain⟨t,s,h⟩:=h
  replace h:=AB h; obtain⟨o,z,h⟩:=h
  refine Aa [false,false,true,false,true,false,true,true,true,true,true,true,true] (.br 2 (.br 4 (.br 6 (Tr.sq [7] (.br 8 (.br 9 (Tr.sq [10,11,12] .fin) (.br 11 (Tr.sq [9,10,12] .fin) .stop)) (.br 11 (Tr.sq [8,9,10,12] .fin) .stop))) (.br 11 (Tr.sq [6,7,8,9,10,12] .fin) .stop)) (.br 6 (.br 4 (Tr.sq [7] (.br 8 (.br 9 (Tr.sq [10,11,12] .fin) (.br 11 (Tr.sq [9,10,12] .fin) .stop)) (.br 11 (Tr.sq [8,9,10,12] .fin) .stop))) (.br 11 (Tr.sq [4,7,8,9,10,12] .fin) .stop)) (.br 11 (.br 4 (Tr.sq [6,7,8,9,10,12] .fin) (.br 6 (Tr.sq [4,7,8,9,10,12] .fin) .stop)) .stop))) (.br 4 (.br 2 (.br 6 (Tr.sq [7] (.br 8 (.br 9 (Tr.sq [10,11,12] .fin) (.br 11 (Tr.sq [9,10,12] .fin) .stop)) (.br 11 (Tr.sq [8,9,10,12] .fin) .stop))) (.br 11 (Tr.sq [6,7,8,9,10,12] .fin) .stop)) (.br 6 (Tr.sq [7] (.br 2 (.br 8 (.br 9 (Tr.sq [10,11,12] .fin) (.br 11 (Tr.sq [9,10,12] .fin) .stop)) (.br 11 (Tr.sq [8,9,10,12] .fin) .stop)) (.br 8 (.br 2 (.br 9 (Tr.sq [10,11,12] .fin) (.br 11 (Tr.sq [9,10,12] .fin) .stop)) (.br 11 (Tr.sq [2,9,10,12] .fin) .stop)) (.br 11 (.br 2 (Tr.sq [8,9,10,12] .fin) (.br 8 (Tr.sq [2,9,10,12] .fin) .stop)) .stop)))) (.br 11 (.br 2 (Tr.sq [6,7,8,9,10,12] .fin) (.br 6 (Tr.sq [7] (.br 2 (Tr.sq [8,9,10,12] .fin) (.br 8 (Tr.sq [2,9,10,12] .fin) .stop))) .stop)) .stop))) (.br 6 (.br 2 (.br 4 (Tr.sq [7] (.br 8 (.br 9 (Tr.sq [10,11,12] .fin) (.br 11 (Tr.sq [9,10,12] .fin) .stop)) (.br 11 (Tr.sq [8,9,10,12] .fin) .stop))) (.br 11 (Tr.sq [4,7,8,9,10,12] .fin) .stop)) (.br 4 (Tr.sq [7] (.br 2 (.br 8 (.br 9 (Tr.sq [10,11,12] .fin) (.br 11 (Tr.sq [9,10,12] .fin) .stop)) (.br 11 (Tr.sq [8,9,10,12] .fin) .stop)) (.br 8 (.br 2 (.br 9 (Tr.sq [10,11,12] .fin) (.br 11 (Tr.sq [9,10,12] .fin) .stop)) (.br 11 (Tr.sq [2,9,10,12] .fin) .stop)) (.br 11 (.br 2 (Tr.sq [8,9,10,12] .fin) (.br 8 (Tr.sq [2,9,10,12] .fin) .stop)) .stop)))) (.br 11 (.br 2 (Tr.sq [4,7,8,9,10,12] .fin) (.br 4 (Tr.sq [7] (.br 2 (Tr.sq [8,9,10,12] .fin) (.br 8 (Tr.sq [2,9,10,12] .fin) .stop))) .stop)) .stop))) (.br 11 (.br 2 (.br 4 (Tr.sq [6,7,8,9,10,12] .fin) (.br 6 (Tr.sq [4,7,8,9,10,12] .fin) .stop)) (.br 4 (.br 2 (Tr.sq [6,7,8,9,10,12] .fin) (.br 6 (Tr.sq [7] (.br 2 (Tr.sq [8,9,10,12] .fin) (.br 8 (Tr.sq [2,9,10,12] .fin) .stop))) .stop)) (.br 6 (.br 2 (Tr.sq [4,7,8,9,10,12] .fin) (.br 4 (Tr.sq [7] (.br 2 (Tr.sq [8,9,10,12] .fin) (.br 8 (Tr.sq [2,9,10,12] .fin) .stop))) .stop)) .stop))) .stop)))) (by kernel_rfl) ?_
  try simp only [go_sem]
  refine BZ ?_ ?_
  ·try simp only [go_sem]
   refine BZ ?_ ?_
   ·try simp only [go_sem]
    refine BZ (Z ?_) (Z ?_)
    ·refine AM s rfl ?_
     try simp only [go_sem]
     refine BZ ?_ ?_
     ·try simp only [go_sem]
      refine BZ (Z ?_) (Z ?_)
      ·refine caG ⟨[],[(1001,1001)],[(1,1,0),(2,2,0)],[(1501,64144)],[],true⟩ (AJ _ _ _ _ _ _ _ z) (Z ?_)
       exact BH (AH a0 a1 a2 u y o _ h) [(1000000000,64144)] [(2,2),(1,1),(1000000500,1016),(1000000501,1017),(1000000502,4011)]
      ·refine caG ⟨[],[(1001,1001)],[(1,1,0),(2,2,0)],[(1501,64144)],[],true⟩ (AJ _ _ _ _ _ _ _ z) (Z ?_)
       exact BH (AH a0 a1 a2 u y o _ h) [(1000000000,64144)] [(2,2),(1,1),(1000000500,1016),(1000000501,1017),(1000000502,4011)]
     ·try simp only [go_sem]
      refine caG ⟨[],[(1001,1001)],[(1,1,0),(2,2,0)],[(1501,64144)],[],true⟩ (AJ _ _ _ _ _ _ _ z) (Z ?_)
      exact BH (AH a0 a1 a2 u y o _ h) [(1000000000,64144)] [(2,2),(1,1),(1000000500,1016),(1000000501,1017),(1000000502,4011)]
    ·refine AM s rfl (Z ?_)
     refine caG ⟨[],[(1001,1001)],[(1,1,0),(2,2,0)],[(1501,64144)],[],true⟩ (AJ _ _ _ _ _ _ _ z) (Z ?_)
     exact BH (AH a0 a1 a2 u y o _ h) [(1000000000,64144)] [(2,2),(1,1),(1000000500,1016),(1000000501,1017),(1000000502,4011)]
   ·try simp only [go_sem]
    refine BZ ?_ ?_
    ·try simp only [go_sem]
     refine BZ (Z ?_) (Z ?_)
     ·refine AM s rfl ?_
      try simp only [go_sem]
      refine BZ ?_ ?_
      ·try simp only [go_sem]
       refine BZ (Z ?_) (Z ?_)
       ·refine caG ⟨[],[(1001,1001)],[(1,1,0),(2,2,0)],[(1501,64144)],[],true⟩ (AJ _ _ _ _ _ _ _ z) (Z ?_)
        exact BH (AH a0 a1 a2 u y o _ h) [(1000000000,64144)] [(2,2),(1,1),(1000000500,1016),(1000000501,1017),(1000000502,4011)]
       ·refine caG ⟨[],[(1001,1001)],[(1,1,0),(2,2,0)],[(1501,64144)],[],true⟩ (AJ _ _ _ _ _ _ _ z) (Z ?_)
        exact BH (AH a0 a1 a2 u y o _ h) [(1000000000,64144)] [(2,2),(1,1),(1000000500,1016),(1000000501,1017),(1000000502,4011)]
      ·try simp only [go_sem]
       refine caG ⟨[],[(1001,1001)],[(1,1,0),(2,2,0)],[(1501,64144)],[],true⟩ (AJ _ _ _ _ _ _ _ z) (Z ?_)
       exact BH (AH a0 a1 a2 u y o _ h) [(1000000000,64144)] [(2,2),(1,1),(1000000500,1016),(1000000501,1017),(1000000502,4011)]
     ·refine AM s rfl (Z ?_)
      refine caG ⟨[],[(1001,1001)],[(1,1,0),(2,2,0)],[(1501,64144)],[],true⟩ (AJ _ _ _ _ _ _ _ z) (Z ?_)
      exact BH (AH a0 a1 a2 u y o _ h) [(1000000000,64144)] [(2,2),(1,1),(1000000500,1016),(1000000501,1017),(1000000502,4011)]
    ·try simp only [go_sem]
     refine BZ (Z ?_) (Z ?_)
     ·refine AM s rfl (Z ?_)
      refine caG ⟨[],[(1001,1001)],[(1,1,0),(2,2,0)],[(1501,64144)],[],true⟩ (AJ _ _ _ _ _ _ _ z) (Z ?_)
      exact BH (AH a0 a1 a2 u y o _ h) [(1000000000,64144)] [(2,2),(1,1),(1000000500,1016),(1000000501,1017),(1000000502,4011)]
     ·refine AM s rfl (Z ?_)
      refine caG ⟨[],[(1001,1001)],[(1,1,0),(2,2,0)],[(1501,64144)],[],true⟩ (AJ _ _ _ _ _ _ _ z) (Z ?_)
      exact BH (AH a0 a1 a2 u y o _ h) [(1000000000,64144)] [(2,2),(1,1),(1000000500,1016),(1000000501,1017),(1000000502,4011)]
  ·try simp only [go_sem]
   refine BZ ?_ ?_
   ·try simp only [go_sem]
    refine BZ ?_ ?_
    ·try simp only [go_sem]
     refine BZ (Z ?_) (Z ?_)
     ·refine AM s rfl ?_
      try simp only [go_sem]
      refine BZ ?_ ?_
      ·try simp only [go_sem]
       refine BZ (Z ?_) (Z ?_)
       ·refine caG ⟨[],[(1001,1001)],[(1,1,0),(2,2,0)],[(1501,64144)],[],true⟩ (AJ _ _ _ _ _ _ _ z) (Z ?_)
        exact BH (AH a0 a1 a2 u y o _ h) [(1000000000,64144)] [(2,2),(1,1),(1000000500,1016),(1000000501,1017),(1000000502,4011)]
       ·refine caG ⟨[],[(1001,1001)],[(1,1,0),(2,2,0)],[(1501,64144)],[],true⟩ (AJ _ _ _ _ _ _ _ z) (Z ?_)
        exact BH (AH a0 a1 a2 u y o _ h) [(1000000000,64144)] [(2,2),(1,1),(1000000500,1016),(1000000501,1017),(1000000502,4011)]
      ·try simp only [go_sem]
       refine caG ⟨[],[(1001,1001)],[(1,1,0),(2,2,0)],[(1501,64144)],[],true⟩ (AJ _ _ _ _ _ _ _ z) (Z ?_)
       exact BH (AH a0 a1 a2 u y o _ h) [(1000000000,64144)] [(2,2),(1,1),(1000000500,1016),(1000000501,1017),(1000000502,4011)]
     ·refine AM s rfl (Z ?_)
      refine caG ⟨[],[(1001,1001)],[(1,1,0),(2,2,0)],[(1501,64144)],[],true⟩ (AJ _ _ _ _ _ _ _ z) (Z ?_)
      exact BH (AH a0 a1 a2 u y o _ h) [(1000000000,64144)] [(2,2),(1,1),(1000000500,1016),(1000000501,1017),(1000000502,4011)]
    ·try simp only [go_sem]
     refine BZ ?_ ?_
     ·try simp only [go_sem]
      refine AM s rfl ?_
      try simp only [go_sem]
      refine BZ ?_ ?_
      ·try simp only [go_sem]
       refine BZ ?_ ?_
       ·try simp only [go_sem]
        refine BZ (Z ?_) (Z ?_)
        ·refine caG ⟨[],[(1001,1001)],[(1,1,0),(2,2,0)],[(1501,64144)],[],true⟩ (AJ _ _ _ _ _ _ _ z) (Z ?_)
         exact BH (AH a0 a1 a2 u y o _ h) [(1000000000,64144)] [(2,2),(1,1),(1000000500,1016),(1000000501,1017),(1000000502,4011)]
        ·refine caG ⟨[],[(1001,1001)],[(1,1,0),(2,2,0)],[(1501,64144)],[],true⟩ (AJ _ _ _ _ _ _ _ z) (Z ?_)
         exact BH (AH a0 a1 a2 u y o _ h) [(1000000000,64144)] [(2,2),(1,1),(1000000500,1016),(1000000501,1017),(1000000502,4011)]
       ·try simp only [go_sem]
        refine caG ⟨[],[(1001,1001)],[(1,1,0),(2,2,0)],[(1501,64144)],[],true⟩ (AJ _ _ _ _ _ _ _ z) (Z ?_)
        exact BH (AH a0 a1 a2 u y o _ h) [(1000000000,64144)] [(2,2),(1,1),(1000000500,1016),(1000000501,1017),(1000000502,4011)]
      ·try simp only [go_sem]
       refine BZ ?_ ?_
       ·try simp only [go_sem]
        refine BZ ?_ ?_
        ·try simp only [go_sem]
         refine BZ (Z ?_) (Z ?_)
         ·refine caG ⟨[],[(1001,1001)],[(1,1,0),(2,2,0)],[(1501,64144)],[],true⟩ (AJ _ _ _ _ _ _ _ z) (Z ?_)
          exact BH (AH a0 a1 a2 u y o _ h) [(1000000000,64144)] [(2,2),(1,1),(1000000500,1016),(1000000501,1017),(1000000502,4011)]
         ·refine caG ⟨[],[(1001,1001)],[(1,1,0),(2,2,0)],[(1501,64144)],[],true⟩ (AJ _ _ _ _ _ _ _ z) (Z ?_)
          exact BH (AH a0 a1 a2 u y o _ h) [(1000000000,64144)] [(2,2),(1,1),(1000000500,1016),(1000000501,1017),(1000000502,4011)]
        ·try simp only [go_sem]
         refine caG ⟨[],[(1001,1001)],[(1,1,0),(2,2,0)],[(1501,64144)],[],true⟩ (AJ _ _ _ _ _ _ _ z) (Z ?_)
         exact BH (AH a0 a1 a2 u y o _ h) [(1000000000,64144)] [(2,2),(1,1),(1000000500,1016),(1000000501,1017),(1000000502,4011)]
       ·try simp only [go_sem]
        refine BZ (Z ?_) (Z ?_)
        ·refine caG ⟨[],[(1001,1001)],[(1,1,0),(2,2,0)],[(1501,64144)],[],true⟩ (AJ _ _ _ _ _ _ _ z) (Z ?_)
         exact BH (AH a0 a1 a2 u y o _ h) [(1000000000,64144)] [(2,2),(1,1),(1000000500,1016),(1000000501,1017),(1000000502,4011)]
        ·refine caG ⟨[],[(1001,1001)],[(1,1,0),(2,2,0)],[(1501,64144)],[],true⟩ (AJ _ _ _ _ _ _ _ z) (Z ?_)
         exact BH (AH a0 a1 a2 u y o _ h) [(1000000000,64144)] [(2,2),(1,1),(1000000500,1016),(1000000501,1017),(1000000502,4011)]
     ·try simp only [go_sem]
      refine BZ (Z ?_) (Z ?_)
      ·refine AM s rfl (Z ?_)
       refine caG ⟨[],[(1001,1001)],[(1,1,0),(2,2,0)],[(1501,64144)],[],true⟩ (AJ _ _ _ _ _ _ _ z) (Z ?_)
       exact BH (AH a0 a1 a2 u y o _ h) [(1000000000,64144)] [(2,2),(1,1),(1000000500,1016),(1000000501,1017),(1000000502,4011)]
      ·refine AM s rfl ?_
       try simp only [go_sem]
       refine BZ (Z ?_) (Z ?_)
       ·refine caG ⟨[],[(1001,1001)],[(1,1,0),(2,2,0)],[(1501,64144)],[],true⟩ (AJ _ _ _ _ _ _ _ z) (Z ?_)
        exact BH (AH a0 a1 a2 u y o _ h) [(1000000000,64144)] [(2,2),(1,1),(1000000500,1016),(1000000501,1017),(1000000502,4011)]
       ·refine caG ⟨[],[(1001,1001)],[(1,1,0),(2,2,0)],[(1501,64144)],[],true⟩ (AJ _ _ _ _ _ _ _ z) (Z ?_)
        exact BH (AH a0 a1 a2 u y o _ h) [(1000000000,64144)] [(2,2),(1,1),(1000000500,1016),(1000000501,1017),(1000000502,4011)]
   ·try simp only [go_sem]
    refine BZ ?_ ?_
    ·try simp only [go_sem]
     refine BZ ?_ ?_
     ·try simp only [go_sem]
      refine BZ (Z ?_) (Z ?_)
      ·refine AM s rfl ?_
       try simp only [go_sem]
       refine BZ ?_ ?_
       ·try simp only [go_sem]
        refine BZ (Z ?_) (Z ?_)
        ·refine caG ⟨[],[(1001,1001)],[(1,1,0),(2,2,0)],[(1501,64144)],[],true⟩ (AJ _ _ _ _ _ _ _ z) (Z ?_)
         exact BH (AH a0 a1 a2 u y o _ h) [(1000000000,64144)] [(2,2),(1,1),(1000000500,1016),(1000000501,1017),(1000000502,4011)]
        ·refine caG ⟨[],[(1001,1001)],[(1,1,0),(2,2,0)],[(1501,64144)],[],true⟩ (AJ _ _ _ _ _ _ _ z) (Z ?_)
         exact BH (AH a0 a1 a2 u y o _ h) [(1000000000,64144)] [(2,2),(1,1),(1000000500,1016),(1000000501,1017),(1000000502,4011)]
       ·try simp only [go_sem]
        refine caG ⟨[],[(1001,1001)],[(1,1,0),(2,2,0)],[(1501,64144)],[],true⟩ (AJ _ _ _ _ _ _ _ z) (Z ?_)
        exact BH (AH a0 a1 a2 u y o _ h) [(1000000000,64144)] [(2,2),(1,1),(1000000500,1016),(1000000501,1017),(1000000502,4011)]
      ·refine AM s rfl (Z ?_)
       refine caG ⟨[],[(1001,1001)],[(1,1,0),(2,2,0)],[(1501,64144)],[],true⟩ (AJ _ _ _ _ _ _ _ z) (Z ?_)
       exact BH (AH a0 a1 a2 u y o _ h) [(1000000000,64144)] [(2,2),(1,1),(1000000500,1016),(1000000501,1017),(1000000502,4011)]
     ·try simp only [go_sem]
      refine BZ ?_ ?_
      ·try simp only [go_sem]
       refine AM s rfl ?_
       try simp only [go_sem]
       refine BZ ?_ ?_
       ·try simp only [go_sem]
        refine BZ ?_ ?_
        ·try simp only [go_sem]
         refine BZ (Z ?_) (Z ?_)
         ·refine caG ⟨[],[(1001,1001)],[(1,1,0),(2,2,0)],[(1501,64144)],[],true⟩ (AJ _ _ _ _ _ _ _ z) (Z ?_)
          exact BH (AH a0 a1 a2 u y o _ h) [(1000000000,64144)] [(2,2),(1,1),(1000000500,1016),(1000000501,1017),(1000000502,4011)]
         ·refine caG ⟨[],[(1001,1001)],[(1,1,0),(2,2,0)],[(1501,64144)],[],true⟩ (AJ _ _ _ _ _ _ _ z) (Z ?_)
          exact BH (AH a0 a1 a2 u y o _ h) [(1000000000,64144)] [(2,2),(1,1),(1000000500,1016),(1000000501,1017),(1000000502,4011)]
        ·try simp only [go_sem]
         refine caG ⟨[],[(1001,1001)],[(1,1,0),(2,2,0)],[(1501,64144)],[],true⟩ (AJ _ _ _ _ _ _ _ z) (Z ?_)
         exact BH (AH a0 a1 a2 u y o _ h) [(1000000000,64144)] [(2,2),(1,1),(1000000500,1016),(1000000501,1017),(1000000502,4011)]
       ·try simp only [go_sem]
        refine BZ ?_ ?_
        ·try simp only [go_sem]
         refine BZ ?_ ?_
         ·try simp only [go_sem]
          refine BZ (Z ?_) (Z ?_)
          ·refine caG ⟨[],[(1001,1001)],[(1,1,0),(2,2,0)],[(1501,64144)],[],true⟩ (AJ _ _ _ _ _ _ _ z) (Z ?_)
           exact BH (AH a0 a1 a2 u y o _ h) [(1000000000,64144)] [(2,2),(1,1),(1000000500,1016),(1000000501,1017),(1000000502,4011)]
          ·refine caG ⟨[],[(1001,1001)],[(1,1,0),(2,2,0)],[(1501,64144)],[],true⟩ (AJ _ _ _ _ _ _ _ z) (Z ?_)
           exact BH (AH a0 a1 a2 u y o _ h) [(1000000000,64144)] [(2,2),(1,1),(1000000500,1016),(1000000501,1017),(1000000502,4011)]
         ·try simp only [go_sem]
          refine caG ⟨[],[(1001,1001)],[(1,1,0),(2,2,0)],[(1501,64144)],[],true⟩ (AJ _ _ _ _ _ _ _ z) (Z ?_)
          exact BH (AH a0 a1 a2 u y o _ h) [(1000000000,64144)] [(2,2),(1,1),(1000000500,1016),(1000000501,1017),(1000000502,4011)]
        ·try simp only [go_sem]
         refine BZ (Z ?_) (Z ?_)
         ·refine caG ⟨[],[(1001,1001)],[(1,1,0),(2,2,0)],[(1501,64144)],[],true⟩ (AJ _ _ _ _ _ _ _ z) (Z ?_)
          exact BH (AH a0 a1 a2 u y o _ h) [(1000000000,64144)] [(2,2),(1,1),(1000000500,1016),(1000000501,1017),(1000000502,4011)]
         ·refine caG ⟨[],[(1001,1001)],[(1,1,0),(2,2,0)],[(1501,64144)],[],true⟩ (AJ _ _ _ _ _ _ _ z) (Z ?_)
          exact BH (AH a0 a1 a2 u y o _ h) [(1000000000,64144)] [(2,2),(1,1),(1000000500,1016),(1000000501,1017),(1000000502,4011)]
      ·try simp only [go_sem]
       refine BZ (Z ?_) (Z ?_)
       ·refine AM s rfl (Z ?_)
        refine caG ⟨[],[(1001,1001)],[(1,1,0),(2,2,0)],[(1501,64144)],[],true⟩ (AJ _ _ _ _ _ _ _ z) (Z ?_)
        exact BH (AH a0 a1 a2 u y o _ h) [(1000000000,64144)] [(2,2),(1,1),(1000000500,1016),(1000000501,1017),(1000000502,4011)]
       ·refine AM s rfl ?_
        try simp only [go_sem]
        refine BZ (Z ?_) (Z ?_)
        ·refine caG ⟨[],[(1001,1001)],[(1,1,0),(2,2,0)],[(1501,64144)],[],true⟩ (AJ _ _ _ _ _ _ _ z) (Z ?_)
         exact BH (AH a0 a1 a2 u y o _ h) [(1000000000,64144)] [(2,2),(1,1),(1000000500,1016),(1000000501,1017),(1000000502,4011)]
        ·refine caG ⟨[],[(1001,1001)],[(1,1,0),(2,2,0)],[(1501,64144)],[],true⟩ (AJ _ _ _ _ _ _ _ z) (Z ?_)
         exact BH (AH a0 a1 a2 u y o _ h) [(1000000000,64144)] [(2,2),(1,1),(1000000500,1016),(1000000501,1017),(1000000502,4011)]
    ·try simp only [go_sem]
     refine BZ ?_ ?_
     ·try simp only [go_sem]
      refine BZ (Z ?_) (Z ?_)
      ·refine AM s rfl (Z ?_)
       refine caG ⟨[],[(1001,1001)],[(1,1,0),(2,2,0)],[(1501,64144)],[],true⟩ (AJ _ _ _ _ _ _ _ z) (Z ?_)
       exact BH (AH a0 a1 a2 u y o _ h) [(1000000000,64144)] [(2,2),(1,1),(1000000500,1016),(1000000501,1017),(1000000502,4011)]
      ·refine AM s rfl (Z ?_)
       refine caG ⟨[],[(1001,1001)],[(1,1,0),(2,2,0)],[(1501,64144)],[],true⟩ (AJ _ _ _ _ _ _ _ z) (Z ?_)
       exact BH (AH a0 a1 a2 u y o _ h) [(1000000000,64144)] [(2,2),(1,1),(1000000500,1016),(1000000501,1017),(1000000502,4011)]
     ·try simp only [go_sem]
      refine BZ ?_ ?_
      ·try simp only [go_sem]
       refine BZ (Z ?_) (Z ?_)
       ·refine AM s rfl (Z ?_)
        refine caG ⟨[],[(1001,1001)],[(1,1,0),(2,2,0)],[(1501,64144)],[],true⟩ (AJ _ _ _ _ _ _ _ z) (Z ?_)
        exact BH (AH a0 a1 a2 u y o _ h) [(1000000000,64144)] [(2,2),(1,1),(1000000500,1016),(1000000501,1017),(1000000502,4011)]
       ·refine AM s rfl ?_
        try simp only [go_sem]
        refine BZ (Z ?_) (Z ?_)
        ·refine caG ⟨[],[(1001,1001)],[(1,1,0),(2,2,0)],[(1501,64144)],[],true⟩ (AJ _ _ _ _ _ _ _ z) (Z ?_)
         exact BH (AH a0 a1 a2 u y o _ h) [(1000000000,64144)] [(2,2),(1,1),(1000000500,1016),(1000000501,1017),(1000000502,4011)]
        ·refine caG ⟨[],[(1001,1001)],[(1,1,0),(2,2,0)],[(1501,64144)],[],true⟩ (AJ _ _ _ _ _ _ _ z) (Z ?_)
         exact BH (AH a0 a1 a2 u y o _ h) [(1000000000,64144)] [(2,2),(1,1),(1000000500,1016),(1000000501,1017),(1000000502,4011)]
      ·try simp only [go_sem]
       refine BZ (Z ?_) (Z ?_)
       ·refine AM s rfl (Z ?_)
        refine caG ⟨[],[(1001,1001)],[(1,1,0),(2,2,0)],[(1501,64144)],[],true⟩ (AJ _ _ _ _ _ _ _ z) (Z ?_)
        exact BH (AH a0 a1 a2 u y o _ h) [(1000000000,64144)] [(2,2),(1,1),(1000000500,1016),(1000000501,1017),(1000000502,4011)]
       ·refine AM s rfl ?_
        try simp only [go_sem]
        refine BZ (Z ?_) (Z ?_)
        ·refine caG ⟨[],[(1001,1001)],[(1,1,0),(2,2,0)],[(1501,64144)],[],true⟩ (AJ _ _ _ _ _ _ _ z) (Z ?_)
         exact BH (AH a0 a1 a2 u y o _ h) [(1000000000,64144)] [(2,2),(1,1),(1000000500,1016),(1000000501,1017),(1000000502,4011)]
        ·refine caG ⟨[],[(1001,1001)],[(1,1,0),(2,2,0)],[(1501,64144)],[],true⟩ (AJ _ _ _ _ _ _ _ z) (Z ?_)
         exact BH (AH a0 a1 a2 u y o _ h) [(1000000000,64144)] [(2,2),(1,1),(1000000500,1016),(1000000501,1017),(1000000502,4011)]
end Go.Proofs.YteckcjgpnegkjaaGreatDoor.Ab
