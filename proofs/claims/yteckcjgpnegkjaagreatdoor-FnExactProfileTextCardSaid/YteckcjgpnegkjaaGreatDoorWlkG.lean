/-
 The functions do what their models say. Printed by wip/ab/gen.py.
-/
import Derived.Test.YteckcjgpnegkjaaGreatDoorModG
import Derived.Test.YteckcjgpnegkjaaGreatDoorTi2
import Derived.Test.YteckcjgpnegkjaaGreatDoorWlkC
import Derived.Test.YteckcjgpnegkjaaGreatDoorWlkD
namespace Go.Proofs.YteckcjgpnegkjaaGreatDoor.Ab
set_option linter.defProp false
set_option linter.unusedVariables false
set_option linter.unusedSimpArgs false
set_option maxRecDepth 20000
set_option maxHeartbeats 4000000
open Go.RowKit
theorem Iw (n:Nat):(∀a0 a2 u w y q g r,Ao n a0 a2 u w y q g=some r→DF Tryz.prog Tryz.f88 [1,1,1,0,1,0] (.tup []) [(1501,⟨List.map Agent.dm r.net.agents,some 5,0,true⟩)] [(1,[.own 1501,.ro (a0.book.map Net.ds),.mpr 2]),(2,[.mpc (.int .i64) (r.removed.map prB)])] ⟨[(0,.box 1 0),(2,.int .i64 a2),(8,.int .i64 (IntKind.i64.wrap ((a0.net.agents.length:Int) - 1))),(9,.box 1000005500 0),(52,.own 1000005001),(53,.int .i64 (w.length:Int)),(54,.int .i64 g)],[(1000005000,some ⟨List.map Agent.dm y,some 5,0,true⟩),(1000005001,some ⟨List.map HAgent.ds q,none,0,false⟩)],[(2,some [.mpc (.int .i64) (a0.removed.map prB)]),(1,some [.own 1000005000,.ro (a0.book.map Net.ds),.mpr 2]),(1000005500,some [.int .i64 u.agent,.int .i64 u.slot])]⟩)∧
    (∀a0 a2 y q g u w j k b r,BJ n a0 a2 y q g u w j k b=some r→DF Tryz.prog Tryz.f88 [1,1,1,0,1,0,0,1,1,0,0,1,0,1,0] (.tup []) [(1501,⟨List.map Agent.dm r.net.agents,some 5,0,true⟩)] [(1,[.own 1501,.ro (a0.book.map Net.ds),.mpr 2]),(2,[.mpc (.int .i64) (r.removed.map prB)])] ⟨[(0,.box 1 0),(2,.int .i64 a2),(8,.int .i64 (IntKind.i64.wrap ((a0.net.agents.length:Int) - 1))),(9,.box 1000009500 0),(11,.box 1000009501 0),(52,.own 1000009002),(53,.int .i64 (w.length:Int)),(54,.int .i64 g),(60,.int .i64 (j.ports.length:Int)),(61,.int .i64 b)],[(1000009000,some ⟨List.map Agent.dm y,some 5,0,true⟩),(1000009001,some ⟨List.map Port.ds k,none,0,false⟩),(1000009002,some ⟨List.map HAgent.ds (List.set q (Int.toNat g) (HAgent.gone j)),none,0,false⟩)],[(2,some [.mpc (.int .i64) (a0.removed.map prB)]),(1,some [.own 1000009000,.ro (a0.book.map Net.ds),.mpr 2]),(1000009500,some [.int .i64 u.agent,.int .i64 u.slot]),(1000009501,some [.int .i64 j.kind,.int .i64 j.level,.int .i64 j.value,.ro (j.data.map AS),.own 1000009001])]⟩):=by
 induction n with
 |zero=>exact⟨(fun _ _ _ _ _ _ _ _ h=>by rw [Ao] at h; cases h),(fun _ _ _ _ _ _ _ _ _ _ _ h=>by rw [BJ] at h; cases h)⟩
 | succ n ih=>
  obtain⟨ih0,ih1⟩:=ih
  refine⟨?_,?_⟩
  ·intro a0 a2 u w y q g r h
   rw [Ao] at h
   refine A5 rfl rfl (Z ?_)
   refine AZ (Z ?_)
   refine AD h (fun h=>Z ?_) (fun h=>Z ?_)
   ·refine AF ?_
    replace h:=AB h; obtain⟨c,e,h⟩:=h
    refine AM e (HAgent.ds_len _) (Z ?_)
    replace h:=AB h; obtain⟨j,i,h⟩:=h
    replace i:=HAgent.full_some i
    subst i
    have i:=e
    refine Ac (AX i) (Z ?_)
    refine Wo (.ctake 6002 3 1000005001 4000000800 0 _ [(5,Int.toNat g,3)] ⟨(q.map HAgent.ds),none,0,false⟩ (j.data.map AS) (by simp only [go_sem]; rfl) (by rfl) (by (first|rfl|(simp only [go_sem]; rfl))) rfl (E2 (r:=(j.data.map AS)) (AX (f:=HAgent.ds) i) (HAgent.ds_len _) (by rw [HAgent.ds_full]; rfl)) (by simp) (by decide) (by simp only [go_sem]) (.ctake 6002 4 1000005001 4000000801 0 _ [(5,Int.toNat g,4)] ⟨(putR [(5,Int.toNat g,3)] (q.map HAgent.ds) .gone),none,0,false⟩ (j.ports.map Port.ds) (by simp only [go_sem]; rfl) (by rfl) (by (first|rfl|(simp only [go_sem]; rfl))) rfl (E2 (r:=(j.ports.map Port.ds)) (fA (sz:=5) (d:=.gone) (AX (f:=HAgent.ds) i) (d':=.sl (j.data.map AS)) (by rw [HAgent.ds_full]; rfl)) (by simp only [List.length_set]; exact(HAgent.ds_len _)) (by rw [HAgent.ds_full]; rfl)) (by simp) (by decide) (by simp only [go_sem]) (.frzT 4000000800 [] [(6002,3)] _ _ _ (by (first|rfl|(simp only [go_sem]; rfl))) (by decide) (by (first|rfl|(simp only [go_sem]; rfl))) (by (first|rfl|(simp only [go_sem]; rfl))) (.done _)))) ?_
    try simp only [HAgent.puts i]
    try simp only [go_sem]
    all_goals try rfl
    exact loG (ih1 a0 a2 y q g u w j j.ports 0 _ h) [(1000009000,1000005000),(1000009001,4000000801),(1000009002,1000005001)] [(2,2),(1,1),(1000009500,1000005500),(1000009501,6002)]
   ·refine AF ?_
    refine Aa [false,false,false,false,false,false,false,false,false,false,false,false,true] (Tr.sq [12] .fin) (by kernel_rfl) (Z ?_)
    replace h:=AB h; obtain⟨l,t,h⟩:=h
    refine caG ⟨[],[(1001,1000005000)],[(1,1,0)],[(1501,224192)],[],true⟩ (Et _ _ _ _ t) (Z ?_)
    cases h
    refine BB (.done _) [(1501,224192)] [(2,2),(1,1)] ?_
    simp only [go_sem]
  ·intro a0 a2 y q g u w j k b r h
   rw [BJ] at h
   refine A5 rfl rfl (Z ?_)
   refine AZ (Z ?_)
   refine AD h (fun h=>Z ?_) (fun h=>Z ?_)
   ·refine AF ?_
    replace h:=AB h; obtain⟨s,o,h⟩:=h
    refine AM o (Port.ds_len _) (Z ?_)
    refine Ac (AX o) (Z ?_)
    replace h:=AB h; obtain⟨z,u1,h⟩:=h
    refine AM u1 (Port.ds_len _) (Z ?_)
    replace h:=AB h; obtain⟨u2,u3,h⟩:=h
    refine Ac (AX u1) (Z ?_)
    refine A6 (u2.map Port.ds) (by rw [← BW u3]; simp only [List.map_set,go_sem,Port.ds_eq]) (Z ?_)
    refine AF ?_
    exact lpG (ih1 a0 a2 y q g u w j u2 (IntKind.i64.wrap (b+1)) _ h) [(1000009000,1000009000),(1000009001,1000009001),(1000009002,1000009002)] [(2,2),(1,1),(1000009500,1000009500),(1000009501,1000009501)]
   ·refine AF ?_
    refine Aa [false,false,false,false,false,false,false,false,true,true,true,true,true] (Tr.sq [8,9,10,11,12] .fin) (by kernel_rfl) (Z ?_)
    replace h:=AB h; obtain⟨u4,u5,h⟩:=h
    have hq_:=Av u5
    obtain⟨hv12008a,hv12008b⟩:=hq_
    refine Cz true (Z ?_)
    refine Al (by refine⟨?_,?_⟩ <;> (try simp only [List.length_map,List.length_append,List.length_cons,List.length_nil] at*) <;> (try unfold maxLen) <;> omega) (Z ?_)
    refine A6 (u4.map Agent.dm) (by rw [← hv12008b]; simp only [List.map_append,List.map_cons,List.map_nil,List.nil_append,List.append_nil,go_sem,Agent.ds_eq,Agent.dm_eq]) (Z ?_)
    refine AF ?_
    exact lpG (ih0 a0 a2 u w u4 (List.set q (Int.toNat g) (HAgent.gone j)) (IntKind.i64.wrap (g+1)) _ h) [(1000005000,192128),(1000005001,1000009002)] [(2,2),(1,1),(1000005500,1000009500)]
def JO (n:Nat):=(Iw n).1
theorem Lp (a0 a1 a2 r) (h:Di a0 a1 a2=some r):AG Tryz.prog 88 [.box 1 0,.int .i64 a1,.int .i64 a2] [(1001,⟨List.map Agent.dm a0.net.agents,some 5,0,true⟩)] [(2,[.mpc (.int .i64) (a0.removed.map prB)]),(1,[.own 1001,.ro (a0.book.map Net.ds),.mpr 2])] (.tup []) [(1501,⟨List.map Agent.dm r.net.agents,some 5,0,true⟩)] [(1,[.own 1501,.ro (a0.book.map Net.ds),.mpr 2]),(2,[.mpc (.int .i64) (r.removed.map prB)])] :=by
 unfold Di at h
 refine agF Tryz.func88 mixed (h:=Z ?_)
 refine Aa [false,false,false,false,false,false,false,false,false,false,false,false,false,false,false,false,false,false,false,false,false,false,false,false,false,false,false,false,false,true,true] (Tr.sq [29,30] .fin) (by kernel_rfl) (Z ?_)
 replace h:=AB h; obtain⟨u,w,h⟩:=h
 refine AM w (Agent.dm_len _) (Z ?_)
 refine Ac (AX w) (Z ?_)
 replace h:=AB h; obtain⟨y,q,h⟩:=h
 refine AM q (Net.ds_len _) (Z ?_)
 replace h:=AB h; obtain⟨g,k,h⟩:=h
 refine AM k (Agent.dm_len _) (Z ?_)
 refine Ac (AX k) (Z ?_)
 replace h:=AB h; obtain⟨b,d,h⟩:=h
 refine AI (OH _ _ _ d) (Z ?_)
 refine AF ?_
 replace h:=AB h; obtain⟨c,e,h⟩:=h
 refine AI (Eu _ _ _ e) (Z ?_)
 refine AF ?_
 replace h:=AB h; obtain⟨l,t,h⟩:=h
 refine gB (i:=1) (j:=((List.length b.1.agents :Nat):Int)) (r:=List.map Agent.ds l) (by rfl) (by rfl) (by (first|(simp only [go_sem]; done)|(simp only [go_sem]; rfl)|rfl|(simp only [go_sem]; omega))) (by (first|(simp only [go_sem]; done)|(simp only [go_sem]; rfl)|rfl|(simp only [go_sem]; omega))) (by exact LL (by intro x; exact(Agent.ds_len _)) _) (by rfl) (by simp only [go_sem,List.length_map]) (TV t) (by rfl) (Z ?_)
 exact loG (JO fuel a0 a2 c l a0.net.agents (l.map HAgent.full) 0 _ h) [(1000005000,1001),(1000005001,64032)] [(2,2),(1,1),(1000005500,3002)]
theorem BR (a0:Rewriter) (u:Int × Int × Int × Int) (w:List (Int × Bool)) (y:List Agent) (r:Int × Rewriter) (h:Ae a0 u w y=some r):DF Tryz.prog Tryz.f35 [1,1,1,1,1] (.int .i64 r.1) [(1501,⟨List.map Agent.dm r.2.net.agents,some 5,0,true⟩)] [(1,[.own 1501,.ro (a0.book.map Net.ds),.mpr 2]),(2,[.mpc (.int .i64) (r.2.removed.map prB)])] ⟨[(0,.box 1 0),(6,.int .i64 u.2.1),(7,.int .i64 u.2.2.1)],[(1000002000,some ⟨List.map Agent.dm y,some 5,0,true⟩)],[(2,some [.mpc (.int .i64) (w.map prB)]),(1,some [.own 1000002000,.ro (a0.book.map Net.ds),.mpr 2])]⟩:=by
 unfold Ae at h
 refine A5 rfl rfl (Z ?_)
 replace h:=AB h; obtain⟨q,g,h⟩:=h
 refine W1 [27003] ⟨[],[(1001,1000002000)],[(1,1,0),(2,2,0)],[(1501,432064)],[],true⟩ (by kernel_rfl) (HQ _ _ _ g) (by kernel_rfl) (Z ?_)
 refine AF ?_
 cases h
 refine BB (.done _) [(1501,432064)] [(2,2),(1,1)] ?_
 simp only [go_sem]
theorem Ix (n:Nat):(∀a0 u w y q r,Ak n a0 u w y q=some r→DF Tryz.prog Tryz.f35 [1,1,1,1,0,1,0,1,1,1,1,1,0,1,0] (.int .i64 r.1) [(1501,⟨List.map Agent.dm r.2.net.agents,some 5,0,true⟩)] [(1,[.own 1501,.ro (a0.book.map Net.ds),.mpr 2]),(2,[.mpc (.int .i64) (r.2.removed.map prB)])] ⟨[(0,.box 1 0),(6,.int .i64 u.2.1),(7,.int .i64 u.2.2.1),(9,.int .i64 q)],[(1000003000,some ⟨List.map Agent.dm y,some 5,0,true⟩)],[(2,some [.mpc (.int .i64) (w.map prB)]),(1,some [.own 1000003000,.ro (a0.book.map Net.ds),.mpr 2])]⟩):=by
 induction n with
 |zero=>exact((fun _ _ _ _ _ _ h=>by rw [Ak] at h; cases h))
 | succ n ih=>
  have ih0:=ih
  ·intro a0 u w y q r h
   rw [Ak] at h
   refine A5 rfl rfl (Z ?_)
   refine AZ (Z ?_)
   replace h:=AB h; obtain⟨g,k,h⟩:=h
   refine AM k (Agent.dm_len _) (Z ?_)
   refine Ac (AX k) (Z ?_)
   refine Ac (E2 (sz:=5) (j:=4) (r:=List.map Port.ds g.ports) (AX (f:=Agent.dm) k) (Agent.dm_len _) (by rw [Agent.dm_eq]; rfl)) (Z ?_)
   refine AD h (fun h=>Z ?_) (fun h=>Z ?_)
   ·refine AF ?_
    replace h:=AB h; obtain⟨b,d,h⟩:=h
    refine caG ⟨[],[(1001,1000003000)],[(1,1,0),(2,2,0)],[(1501,288080)],[],true⟩ (AJ _ _ _ _ _ _ _ d) (Z ?_)
    replace h:=AB h; obtain⟨c,e,h⟩:=h
    refine caG ⟨[],[(1001,288080)],[(1,1,0),(2,2,0)],[(1501,288112)],[],true⟩ (Ap _ _ _ _ e) (Z ?_)
    refine AF ?_
    exact lpG (ih0 a0 u c.removed c.net.agents (IntKind.i64.wrap (q+1)) _ h) [(1000003000,288112)] [(2,2),(1,1)]
   ·exact BH (BR a0 u w y _ h) [(1000002000,1000003000)] [(2,2),(1,1)]
theorem FX (a0:Rewriter) (u:Int × Int × Int × Int) (w:Bool) (r:Int × Rewriter) (h:BU a0 u w=some r):DF Tryz.prog Tryz.f35 [1,1,1,1,0,1,0,1] (.int .i64 r.1) [(1501,⟨List.map Agent.dm r.2.net.agents,some 5,0,true⟩)] [(1,[.own 1501,.ro (a0.book.map Net.ds),.mpr 2]),(2,[.mpc (.int .i64) (r.2.removed.map prB)])] ⟨[(0,.box 1 0),(6,.int .i64 u.2.1),(7,.int .i64 u.2.2.1),(30,.int .i64 u.1),(31,.bool w)],[(1000000000,some ⟨List.map Agent.dm a0.net.agents,some 5,0,true⟩)],[(2,some [.mpc (.int .i64) (a0.removed.map prB)]),(1,some [.own 1000000000,.ro (a0.book.map Net.ds),.mpr 2])]⟩:=by
 unfold BU at h
 refine A5 rfl rfl (Z ?_)
 refine AD h (fun h=>Z ?_) (fun h=>Z ?_)
 ·replace h:=AB h; obtain⟨y,q,h⟩:=h
  refine caG ⟨[],[(1001,1000000000)],[(1,1,0),(2,2,0)],[(1501,160080)],[],true⟩ (Il _ _ _ _ q) (Z ?_)
  refine AF ?_
  replace h:=AB h; obtain⟨g,j,h⟩:=h
  refine caG ⟨[],[(1001,160080)],[(1,1,0),(2,2,0)],[(1501,176080)],[],true⟩ (Il _ _ _ _ j) (Z ?_)
  exact BH (BR a0 u g.removed g.net.agents _ h) [(1000002000,176080)] [(2,2),(1,1)]
 ·refine AD h (fun h=>Z ?_) (fun h=>Z ?_)
  ·replace h:=AB h; obtain⟨k,b,h⟩:=h
   refine caG ⟨[],[(1001,1000000000)],[(1,1,0),(2,2,0)],[(1501,208048)],[],true⟩ (J0 _ _ _ _ b) (Z ?_)
   exact BH (BR a0 u k.removed k.net.agents _ h) [(1000002000,208048)] [(2,2),(1,1)]
  ·refine AD h (fun h=>Z ?_) (fun h=>Z ?_)
   ·exact loG (Ix fuel a0 u a0.removed a0.net.agents 1 _ h) [(1000003000,1000000000)] [(2,2),(1,1)]
   ·refine AD h (fun h=>Z ?_) (fun h=>Z ?_)
    ·replace h:=AB h; obtain⟨d,c,h⟩:=h
     refine caG ⟨[],[(1001,1000000000)],[(1,1,0),(2,2,0)],[(1501,320048)],[],true⟩ (Ko _ _ _ _ c) (Z ?_)
     exact BH (BR a0 u d.removed d.net.agents _ h) [(1000002000,320048)] [(2,2),(1,1)]
    ·refine AD h (fun h=>Z ?_) (fun h=>Z ?_)
     ·replace h:=AB h; obtain⟨e,i,h⟩:=h
      refine caG ⟨[],[(1001,1000000000)],[(1,1,0),(2,2,0)],[(1501,352048)],[],true⟩ (Lo _ _ _ _ i) (Z ?_)
      exact BH (BR a0 u e.removed e.net.agents _ h) [(1000002000,352048)] [(2,2),(1,1)]
     ·refine AD h (fun h=>Z ?_) (fun h=>Z ?_)
      ·replace h:=AB h; obtain⟨l,t,h⟩:=h
       refine caG ⟨[],[(1001,1000000000)],[(1,1,0),(2,2,0)],[(1501,384048)],[],true⟩ (Lp _ _ _ _ t) (Z ?_)
       refine AF ?_
       replace h:=AB h; obtain⟨s,o,h⟩:=h
       refine W1 [25002] ⟨[],[(1001,384048)],[(1,1,0),(2,2,0)],[(1501,400048)],[],true⟩ (by kernel_rfl) (HQ _ _ _ o) (by kernel_rfl) (Z ?_)
       refine AF ?_
       cases h
       refine BB (.done _) [(1501,400048)] [(2,2),(1,1)] ?_
       simp only [go_sem]
      ·exact BH (BR a0 u a0.removed a0.net.agents _ h) [(1000002000,1000000000)] [(2,2),(1,1)]
theorem KZ (a0 a1 r) (h:Aj a0 a1=some r):AG Tryz.prog 35 [.box 1 0,.agg [.int .i64 a1.a,.int .i64 a1.b]] [(1001,⟨List.map Agent.dm a0.net.agents,some 5,0,true⟩)] [(2,[.mpc (.int .i64) (a0.removed.map prB)]),(1,[.own 1001,.ro (a0.book.map Net.ds),.mpr 2])] (.int .i64 r.1) [(1501,⟨List.map Agent.dm r.2.net.agents,some 5,0,true⟩)] [(1,[.own 1501,.ro (a0.book.map Net.ds),.mpr 2]),(2,[.mpc (.int .i64) (r.2.removed.map prB)])] :=by
 unfold Aj at h
 refine agF Tryz.func35 mixed (h:=Z ?_)
 replace h:=AB h; obtain⟨u,w,h⟩:=h
 refine caG ⟨[],[(1001,1001)],[(1,1,0),(2,2,0)],[(1501,32032)],[],true⟩ (MU _ _ _ w) (Z ?_)
 refine AF ?_
 refine AD h (fun h=>Z ?_) (fun h=>Z ?_)
 ·cases h
  refine BB (.done _) [(1501,32032)] [(2,2),(1,1)] ?_
  simp only [go_sem]
 ·refine AF ?_
  replace h:=AB h; obtain⟨y,q,h⟩:=h
  refine caG ⟨[],[(1001,32032)],[(1,1,0),(2,2,0)],[(1501,80016)],[],true⟩ (MT _ _ q) (Z ?_)
  replace h:=AB h; obtain⟨g,j,h⟩:=h
  refine caG ⟨[],[(1001,80016)],[(1,1,0),(2,2,0)],[(1501,80096)],[],true⟩ (Ln _ _ _ _ _ j) (Z ?_)
  refine AF ?_
  refine AD h (fun h=>Z ?_) (fun h=>Z ?_)
  ·cases h
   refine BB (.done _) [(1501,80096)] [(2,2),(1,1)] ?_
   simp only [go_sem]
  ·refine AF ?_
   refine AD h (fun h=>Z ?_) (fun h=>Z ?_)
   ·exact BH (FX a0 u (decide (u.1 =1)) _ h) [(1000000000,80096)] [(2,2),(1,1)]
   ·exact BH (FX a0 u (decide (u.1 =2)) _ h) [(1000000000,80096)] [(2,2),(1,1)]
end Go.Proofs.YteckcjgpnegkjaaGreatDoor.Ab
