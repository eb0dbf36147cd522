/-
 The functions do what their models say. Printed by wip/ab/gen.py.
-/
import Derived.Test.YteckcjgpnegkjaaGreatModG
import Derived.Test.YteckcjgpnegkjaaGreatTi2
import Derived.Test.YteckcjgpnegkjaaGreatWlkC
namespace Go.Proofs.YteckcjgpnegkjaaGreat.Ab
set_option linter.defProp false
set_option linter.unusedVariables false
set_option linter.unusedSimpArgs false
set_option maxRecDepth 20000
set_option maxHeartbeats 4000000
open Go.RowKit
theorem Ju (n:Nat):(∀a0 a2 u w y q g r,Au n a0 a2 u w y q g=some r→DB Tryz.prog Tryz.f78 [1,1,1,0,1,0] (.tup []) [(1501,⟨List.map Agent.dm r.net.agents,some 5,0,true⟩)] [(1,[.own 1501,.ro (a0.book.map Net.ds),.mpr 2]),(2,[.mpc (.int .i64) (r.removed.map prB)])] ⟨[(0,.box 1 0),(2,.int .i64 a2),(8,.int .i64 (IntKind.i64.wrap ((a0.net.agents.length:Int) - 1))),(9,.box 1000005500 0),(52,.own 1000005001),(53,.int .i64 (w.length:Int)),(54,.int .i64 g)],[(1000005000,some ⟨List.map Agent.dm y,some 5,0,true⟩),(1000005001,some ⟨List.map HAgent.ds q,none,0,false⟩)],[(2,some [.mpc (.int .i64) (a0.removed.map prB)]),(1,some [.own 1000005000,.ro (a0.book.map Net.ds),.mpr 2]),(1000005500,some [.int .i64 u.agent,.int .i64 u.slot])]⟩)∧
    (∀a0 a2 y q g u w j k b r,BK n a0 a2 y q g u w j k b=some r→DB Tryz.prog Tryz.f78 [1,1,1,0,1,0,0,1,1,0,0,1,0,1,0] (.tup []) [(1501,⟨List.map Agent.dm r.net.agents,some 5,0,true⟩)] [(1,[.own 1501,.ro (a0.book.map Net.ds),.mpr 2]),(2,[.mpc (.int .i64) (r.removed.map prB)])] ⟨[(0,.box 1 0),(2,.int .i64 a2),(8,.int .i64 (IntKind.i64.wrap ((a0.net.agents.length:Int) - 1))),(9,.box 1000009500 0),(11,.box 1000009501 0),(52,.own 1000009002),(53,.int .i64 (w.length:Int)),(54,.int .i64 g),(60,.int .i64 (j.ports.length:Int)),(61,.int .i64 b)],[(1000009000,some ⟨List.map Agent.dm y,some 5,0,true⟩),(1000009001,some ⟨List.map Port.ds k,none,0,false⟩),(1000009002,some ⟨List.map HAgent.ds (List.set q (Int.toNat g) (HAgent.gone j)),none,0,false⟩)],[(2,some [.mpc (.int .i64) (a0.removed.map prB)]),(1,some [.own 1000009000,.ro (a0.book.map Net.ds),.mpr 2]),(1000009500,some [.int .i64 u.agent,.int .i64 u.slot]),(1000009501,some [.int .i64 j.kind,.int .i64 j.level,.int .i64 j.value,.ro (j.data.map Ar),.own 1000009001])]⟩):=by
 induction n with
 |zero=>exact⟨(fun _ _ _ _ _ _ _ _ h=>by rw [Au] at h; cases h),(fun _ _ _ _ _ _ _ _ _ _ _ h=>by rw [BK] at h; cases h)⟩
 | succ n ih=>
  obtain⟨ih0,ih1⟩:=ih
  refine⟨?_,?_⟩
  ·intro a0 a2 u w y q g r h
   rw [Au] at h
   refine Aq rfl rfl (Z ?_)
   refine AY (Z ?_)
   refine AB h (fun h=>Z ?_) (fun h=>Z ?_)
   ·refine AF ?_
    replace h:=AD h; obtain⟨c,e,h⟩:=h
    refine AL e (HAgent.ds_len _) (Z ?_)
    replace h:=AD h; obtain⟨j,i,h⟩:=h
    replace i:=HAgent.full_some i
    subst i
    have i:=e
    refine Aa (AS i) (Z ?_)
    refine YC (.ctake 6002 3 1000005001 4000000800 0 _ [(5,Int.toNat g,3)] ⟨(q.map HAgent.ds),none,0,false⟩ (j.data.map Ar) (by simp only [go_sem]; rfl) (by rfl) (by (first|rfl|(simp only [go_sem]; rfl))) rfl (Ec (r:=(j.data.map Ar)) (AS (f:=HAgent.ds) i) (HAgent.ds_len _) (by rw [HAgent.ds_full]; rfl)) (by simp) (by decide) (by simp only [go_sem]) (.ctake 6002 4 1000005001 4000000801 0 _ [(5,Int.toNat g,4)] ⟨(putR [(5,Int.toNat g,3)] (q.map HAgent.ds) .gone),none,0,false⟩ (j.ports.map Port.ds) (by simp only [go_sem]; rfl) (by rfl) (by (first|rfl|(simp only [go_sem]; rfl))) rfl (Ec (r:=(j.ports.map Port.ds)) (gr (sz:=5) (d:=.gone) (AS (f:=HAgent.ds) i) (d':=.sl (j.data.map Ar)) (by rw [HAgent.ds_full]; rfl)) (by simp only [List.length_set]; exact(HAgent.ds_len _)) (by rw [HAgent.ds_full]; rfl)) (by simp) (by decide) (by simp only [go_sem]) (.frzT 4000000800 [] [(6002,3)] _ _ _ (by (first|rfl|(simp only [go_sem]; rfl))) (by decide) (by (first|rfl|(simp only [go_sem]; rfl))) (by (first|rfl|(simp only [go_sem]; rfl))) (.done _)))) ?_
    try simp only [HAgent.puts i]
    try simp only [go_sem]
    all_goals try rfl
    exact loG (ih1 a0 a2 y q g u w j j.ports 0 _ h) [(1000009000,1000005000),(1000009001,4000000801),(1000009002,1000005001)] [(2,2),(1,1),(1000009500,1000005500),(1000009501,6002)]
   ·refine AF ?_
    refine AX [false,false,false,false,false,false,false,false,false,false,false,false,true] (Tr.sq [12] .fin) (by kernel_rfl) (Z ?_)
    replace h:=AD h; obtain⟨l,t,h⟩:=h
    refine caG ⟨[],[(1001,1000005000)],[(1,1,0)],[(1501,224192)],[],true⟩ (FW _ _ _ _ t) (Z ?_)
    cases h
    refine BJ (.done _) [(1501,224192)] [(2,2),(1,1)] ?_
    simp only [go_sem]
  ·intro a0 a2 y q g u w j k b r h
   rw [BK] at h
   refine Aq rfl rfl (Z ?_)
   refine AY (Z ?_)
   refine AB h (fun h=>Z ?_) (fun h=>Z ?_)
   ·refine AF ?_
    replace h:=AD h; obtain⟨s,o,h⟩:=h
    refine AL o (Port.ds_len _) (Z ?_)
    refine Aa (AS o) (Z ?_)
    replace h:=AD h; obtain⟨z,u1,h⟩:=h
    refine AL u1 (Port.ds_len _) (Z ?_)
    replace h:=AD h; obtain⟨u2,u3,h⟩:=h
    refine Aa (AS u1) (Z ?_)
    refine Ag (u2.map Port.ds) (by rw [← Ai u3]; simp only [List.map_set,go_sem,Port.ds_eq]) (Z ?_)
    refine AF ?_
    exact lpG (ih1 a0 a2 y q g u w j u2 (IntKind.i64.wrap (b+1)) _ h) [(1000009000,1000009000),(1000009001,1000009001),(1000009002,1000009002)] [(2,2),(1,1),(1000009500,1000009500),(1000009501,1000009501)]
   ·refine AF ?_
    refine AX [false,false,false,false,false,false,false,false,true,true,true,true,true] (Tr.sq [8,9,10,11,12] .fin) (by kernel_rfl) (Z ?_)
    replace h:=AD h; obtain⟨u4,u5,h⟩:=h
    have hq_:=An u5
    obtain⟨hv12008a,hv12008b⟩:=hq_
    refine C3 true (Z ?_)
    refine Al (by refine⟨?_,?_⟩ <;> (try simp only [List.length_map,List.length_append,List.length_cons,List.length_nil] at*) <;> (try unfold maxLen) <;> omega) (Z ?_)
    refine Ag (u4.map Agent.dm) (by rw [← hv12008b]; simp only [List.map_append,List.map_cons,List.map_nil,List.nil_append,List.append_nil,go_sem,Agent.ds_eq,Agent.dm_eq]) (Z ?_)
    refine AF ?_
    exact lpG (ih0 a0 a2 u w u4 (List.set q (Int.toNat g) (HAgent.gone j)) (IntKind.i64.wrap (g+1)) _ h) [(1000005000,192128),(1000005001,1000009002)] [(2,2),(1,1),(1000005500,1000009500)]
def KL (n:Nat):=(Ju n).1
theorem Ms (a0 a1 a2 r) (h:ED a0 a1 a2=some r):AG Tryz.prog 78 [.box 1 0,.int .i64 a1,.int .i64 a2] [(1001,⟨List.map Agent.dm a0.net.agents,some 5,0,true⟩)] [(2,[.mpc (.int .i64) (a0.removed.map prB)]),(1,[.own 1001,.ro (a0.book.map Net.ds),.mpr 2])] (.tup []) [(1501,⟨List.map Agent.dm r.net.agents,some 5,0,true⟩)] [(1,[.own 1501,.ro (a0.book.map Net.ds),.mpr 2]),(2,[.mpc (.int .i64) (r.removed.map prB)])] :=by
 unfold ED at h
 refine agF Tryz.func78 mixed (h:=Z ?_)
 refine AX [false,false,false,false,false,false,false,false,false,false,false,false,false,false,false,false,false,false,false,false,false,false,false,false,false,false,false,false,false,true,true] (Tr.sq [29,30] .fin) (by kernel_rfl) (Z ?_)
 replace h:=AD h; obtain⟨u,w,h⟩:=h
 refine AL w (Agent.dm_len _) (Z ?_)
 refine Aa (AS w) (Z ?_)
 replace h:=AD h; obtain⟨y,q,h⟩:=h
 refine AL q (Net.ds_len _) (Z ?_)
 replace h:=AD h; obtain⟨g,k,h⟩:=h
 refine AL k (Agent.dm_len _) (Z ?_)
 refine Aa (AS k) (Z ?_)
 replace h:=AD h; obtain⟨b,d,h⟩:=h
 refine AH (PX _ _ _ d) (Z ?_)
 refine AF ?_
 replace h:=AD h; obtain⟨c,e,h⟩:=h
 refine AH (EU _ _ _ e) (Z ?_)
 refine AF ?_
 replace h:=AD h; obtain⟨l,t,h⟩:=h
 refine cn (i:=1) (j:=((List.length b.1.agents :Nat):Int)) (r:=List.map Agent.ds l) (by rfl) (by rfl) (by (first|(simp only [go_sem]; done)|(simp only [go_sem]; rfl)|rfl|(simp only [go_sem]; omega))) (by (first|(simp only [go_sem]; done)|(simp only [go_sem]; rfl)|rfl|(simp only [go_sem]; omega))) (by exact J2 (by intro x; exact(Agent.ds_len _)) _) (by rfl) (by simp only [go_sem,List.length_map]) (Ux t) (by rfl) (Z ?_)
 exact loG (KL fuel a0 a2 c l a0.net.agents (l.map HAgent.full) 0 _ h) [(1000005000,1001),(1000005001,64032)] [(2,2),(1,1),(1000005500,3002)]
end Go.Proofs.YteckcjgpnegkjaaGreat.Ab
