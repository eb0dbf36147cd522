/-
 The functions do what their models say. Printed by wip/ab/gen.py.
-/
import Derived.Test.YteckcjgpnegkjaaGreatModG
import Derived.Test.YteckcjgpnegkjaaGreatTi2
import Derived.Test.YteckcjgpnegkjaaGreatWlkD
import Derived.Test.YteckcjgpnegkjaaGreatWlkE
namespace Go.Proofs.YteckcjgpnegkjaaGreat.Ab
set_option linter.unusedVariables false
set_option linter.unusedSimpArgs false
set_option maxRecDepth 20000
set_option maxHeartbeats 4000000
open Go.RowKit
theorem Ba (a0:Rewriter) (u:Int × Int × Int × Int) (w:List (Int × Bool)) (y:List Agent) (r:Int × Rewriter) (h:Ah a0 u w y=some r):DB Tryz.prog Tryz.f32 [1,1,1,1,1] (.int .i64 r.1) [(1501,⟨List.map Agent.dm r.2.net.agents,some 5,0,true⟩)] [(1,[.own 1501,.ro (a0.book.map Net.ds),.mpr 2]),(2,[.mpc (.int .i64) (r.2.removed.map prB)])] ⟨[(0,.box 1 0),(6,.int .i64 u.2.1),(7,.int .i64 u.2.2.1)],[(1000002000,some ⟨List.map Agent.dm y,some 5,0,true⟩)],[(2,some [.mpc (.int .i64) (w.map prB)]),(1,some [.own 1000002000,.ro (a0.book.map Net.ds),.mpr 2])]⟩:=by
 unfold Ah at h
 refine Aq rfl rfl (Z ?_)
 replace h:=AD h; obtain⟨q,g,h⟩:=h
 refine YN [27003] ⟨[],[(1001,1000002000)],[(1,1,0),(2,2,0)],[(1501,432064)],[],true⟩ (by kernel_rfl) (IS _ _ _ g) (by kernel_rfl) (Z ?_)
 refine AF ?_
 cases h
 refine BJ (.done _) [(1501,432064)] [(2,2),(1,1)] ?_
 simp only [go_sem]
theorem Jv (n:Nat):(∀a0 u w y q r,Ao n a0 u w y q=some r→DB Tryz.prog Tryz.f32 [1,1,1,1,0,1,0,1,1,1,1,1,0,1,0] (.int .i64 r.1) [(1501,⟨List.map Agent.dm r.2.net.agents,some 5,0,true⟩)] [(1,[.own 1501,.ro (a0.book.map Net.ds),.mpr 2]),(2,[.mpc (.int .i64) (r.2.removed.map prB)])] ⟨[(0,.box 1 0),(6,.int .i64 u.2.1),(7,.int .i64 u.2.2.1),(9,.int .i64 q)],[(1000003000,some ⟨List.map Agent.dm y,some 5,0,true⟩)],[(2,some [.mpc (.int .i64) (w.map prB)]),(1,some [.own 1000003000,.ro (a0.book.map Net.ds),.mpr 2])]⟩):=by
 induction n with
 |zero=>exact((fun _ _ _ _ _ _ h=>by rw [Ao] at h; cases h))
 | succ n ih=>
  have ih0:=ih
  ·intro a0 u w y q r h
   rw [Ao] at h
   refine Aq rfl rfl (Z ?_)
   refine AY (Z ?_)
   replace h:=AD h; obtain⟨g,k,h⟩:=h
   refine AL k (Agent.dm_len _) (Z ?_)
   refine Aa (AS k) (Z ?_)
   refine Aa (Ec (sz:=5) (j:=4) (r:=List.map Port.ds g.ports) (AS (f:=Agent.dm) k) (Agent.dm_len _) (by rw [Agent.dm_eq]; rfl)) (Z ?_)
   refine AB h (fun h=>Z ?_) (fun h=>Z ?_)
   ·refine AF ?_
    replace h:=AD h; obtain⟨b,d,h⟩:=h
    refine caG ⟨[],[(1001,1000003000)],[(1,1,0),(2,2,0)],[(1501,288080)],[],true⟩ (AJ _ _ _ _ _ _ _ d) (Z ?_)
    replace h:=AD h; obtain⟨c,e,h⟩:=h
    refine caG ⟨[],[(1001,288080)],[(1,1,0),(2,2,0)],[(1501,288112)],[],true⟩ (Av _ _ _ _ e) (Z ?_)
    refine AF ?_
    exact lpG (ih0 a0 u c.removed c.net.agents (IntKind.i64.wrap (q+1)) _ h) [(1000003000,288112)] [(2,2),(1,1)]
   ·exact BB (Ba a0 u w y _ h) [(1000002000,1000003000)] [(2,2),(1,1)]
theorem GK (a0:Rewriter) (u:Int × Int × Int × Int) (w:Bool) (r:Int × Rewriter) (h:Bc a0 u w=some r):DB Tryz.prog Tryz.f32 [1,1,1,1,0,1,0,1] (.int .i64 r.1) [(1501,⟨List.map Agent.dm r.2.net.agents,some 5,0,true⟩)] [(1,[.own 1501,.ro (a0.book.map Net.ds),.mpr 2]),(2,[.mpc (.int .i64) (r.2.removed.map prB)])] ⟨[(0,.box 1 0),(6,.int .i64 u.2.1),(7,.int .i64 u.2.2.1),(30,.int .i64 u.1),(31,.bool w)],[(1000000000,some ⟨List.map Agent.dm a0.net.agents,some 5,0,true⟩)],[(2,some [.mpc (.int .i64) (a0.removed.map prB)]),(1,some [.own 1000000000,.ro (a0.book.map Net.ds),.mpr 2])]⟩:=by
 unfold Bc at h
 refine Aq rfl rfl (Z ?_)
 refine AB h (fun h=>Z ?_) (fun h=>Z ?_)
 ·replace h:=AD h; obtain⟨y,q,h⟩:=h
  refine caG ⟨[],[(1001,1000000000)],[(1,1,0),(2,2,0)],[(1501,160080)],[],true⟩ (Jk _ _ _ _ q) (Z ?_)
  refine AF ?_
  replace h:=AD h; obtain⟨g,j,h⟩:=h
  refine caG ⟨[],[(1001,160080)],[(1,1,0),(2,2,0)],[(1501,176080)],[],true⟩ (Jk _ _ _ _ j) (Z ?_)
  exact BB (Ba a0 u g.removed g.net.agents _ h) [(1000002000,176080)] [(2,2),(1,1)]
 ·refine AB h (fun h=>Z ?_) (fun h=>Z ?_)
  ·replace h:=AD h; obtain⟨k,b,h⟩:=h
   refine caG ⟨[],[(1001,1000000000)],[(1,1,0),(2,2,0)],[(1501,208048)],[],true⟩ (K1 _ _ _ _ b) (Z ?_)
   exact BB (Ba a0 u k.removed k.net.agents _ h) [(1000002000,208048)] [(2,2),(1,1)]
  ·refine AB h (fun h=>Z ?_) (fun h=>Z ?_)
   ·exact loG (Jv fuel a0 u a0.removed a0.net.agents 1 _ h) [(1000003000,1000000000)] [(2,2),(1,1)]
   ·refine AB h (fun h=>Z ?_) (fun h=>Z ?_)
    ·replace h:=AD h; obtain⟨d,c,h⟩:=h
     refine caG ⟨[],[(1001,1000000000)],[(1,1,0),(2,2,0)],[(1501,320048)],[],true⟩ (Ly _ _ _ _ c) (Z ?_)
     exact BB (Ba a0 u d.removed d.net.agents _ h) [(1000002000,320048)] [(2,2),(1,1)]
    ·refine AB h (fun h=>Z ?_) (fun h=>Z ?_)
     ·replace h:=AD h; obtain⟨e,i,h⟩:=h
      refine caG ⟨[],[(1001,1000000000)],[(1,1,0),(2,2,0)],[(1501,352048)],[],true⟩ (Mr _ _ _ _ i) (Z ?_)
      exact BB (Ba a0 u e.removed e.net.agents _ h) [(1000002000,352048)] [(2,2),(1,1)]
     ·refine AB h (fun h=>Z ?_) (fun h=>Z ?_)
      ·replace h:=AD h; obtain⟨l,t,h⟩:=h
       refine caG ⟨[],[(1001,1000000000)],[(1,1,0),(2,2,0)],[(1501,384048)],[],true⟩ (Ms _ _ _ _ t) (Z ?_)
       refine AF ?_
       replace h:=AD h; obtain⟨s,o,h⟩:=h
       refine YN [25002] ⟨[],[(1001,384048)],[(1,1,0),(2,2,0)],[(1501,400048)],[],true⟩ (by kernel_rfl) (IS _ _ _ o) (by kernel_rfl) (Z ?_)
       refine AF ?_
       cases h
       refine BJ (.done _) [(1501,400048)] [(2,2),(1,1)] ?_
       simp only [go_sem]
      ·exact BB (Ba a0 u a0.removed a0.net.agents _ h) [(1000002000,1000000000)] [(2,2),(1,1)]
theorem Lf (a0 a1 r) (h:Ac a0 a1=some r):AG Tryz.prog 32 [.box 1 0,.agg [.int .i64 a1.a,.int .i64 a1.b]] [(1001,⟨List.map Agent.dm a0.net.agents,some 5,0,true⟩)] [(2,[.mpc (.int .i64) (a0.removed.map prB)]),(1,[.own 1001,.ro (a0.book.map Net.ds),.mpr 2])] (.int .i64 r.1) [(1501,⟨List.map Agent.dm r.2.net.agents,some 5,0,true⟩)] [(1,[.own 1501,.ro (a0.book.map Net.ds),.mpr 2]),(2,[.mpc (.int .i64) (r.2.removed.map prB)])] :=by
 unfold Ac at h
 refine agF Tryz.func32 mixed (h:=Z ?_)
 replace h:=AD h; obtain⟨u,w,h⟩:=h
 refine caG ⟨[],[(1001,1001)],[(1,1,0),(2,2,0)],[(1501,32032)],[],true⟩ (Ii _ _ _ w) (Z ?_)
 refine AF ?_
 refine AB h (fun h=>Z ?_) (fun h=>Z ?_)
 ·cases h
  refine BJ (.done _) [(1501,32032)] [(2,2),(1,1)] ?_
  simp only [go_sem]
 ·refine AF ?_
  replace h:=AD h; obtain⟨y,q,h⟩:=h
  refine caG ⟨[],[(1001,32032)],[(1,1,0),(2,2,0)],[(1501,80016)],[],true⟩ (Na _ _ q) (Z ?_)
  replace h:=AD h; obtain⟨g,j,h⟩:=h
  refine caG ⟨[],[(1001,80016)],[(1,1,0),(2,2,0)],[(1501,80096)],[],true⟩ (Mq _ _ _ _ _ j) (Z ?_)
  refine AF ?_
  refine AB h (fun h=>Z ?_) (fun h=>Z ?_)
  ·cases h
   refine BJ (.done _) [(1501,80096)] [(2,2),(1,1)] ?_
   simp only [go_sem]
  ·refine AF ?_
   refine AB h (fun h=>Z ?_) (fun h=>Z ?_)
   ·exact BB (GK a0 u (decide (u.1 =1)) _ h) [(1000000000,80096)] [(2,2),(1,1)]
   ·exact BB (GK a0 u (decide (u.1 =2)) _ h) [(1000000000,80096)] [(2,2),(1,1)]
end Go.Proofs.YteckcjgpnegkjaaGreat.Ab
