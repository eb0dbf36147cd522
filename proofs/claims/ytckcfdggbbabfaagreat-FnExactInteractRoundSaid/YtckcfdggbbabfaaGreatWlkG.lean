/-
 The functions do what their models say. Printed by wip/ab/gen.py.
-/
import Derived.Test.YtckcfdggbbabfaaGreatModK
import Derived.Test.YtckcfdggbbabfaaGreatTi2
import Derived.Test.YtckcfdggbbabfaaGreatWlkD
import Derived.Test.YtckcfdggbbabfaaGreatWlkE
namespace Go.Proofs.YtckcfdggbbabfaaGreat.Ab
set_option linter.unusedVariables false
set_option linter.unusedSimpArgs false
set_option maxRecDepth 20000
set_option maxHeartbeats 4000000
open Go.RowKit
theorem BR (a0:Rewriter) (u:Int × Int × Int × Int) (w:List (Int × Bool)) (y:List Agent) (r:Int × Rewriter) (h:Ah a0 u w y=some r):Dx Tryz.prog Tryz.f81 [1,1,1,1,1] (.int .i64 r.1) [(1501,⟨List.map Agent.dm r.2.net.agents,some 5,0,true⟩)] [(1,[.own 1501,.ro (List.map Net.ds a0.book),.mpr 2]),(2,[.mpc (.int .i64) (List.map prB r.2.removed)])] ⟨[(0,.box 1 0),(6,.int .i64 u.2.1),(7,.int .i64 u.2.2.1)],[(1000002000,some ⟨List.map Agent.dm y,some 5,0,true⟩)],[(2,some [.mpc (.int .i64) (List.map prB w)]),(1,some [.own 1000002000,.ro (List.map Net.ds a0.book),.mpr 2])]⟩:=by
 unfold Ah at h
 refine BB rfl rfl (Z ?_)
 replace h:=AF h; obtain⟨q,g,h⟩:=h
 refine Ur [27003] ⟨[],[(1001,1000002000)],[(1,1,0),(2,2,0)],[(1501,432064)],[],true⟩ (by kernel_rfl) (HB _ _ _ g) (by kernel_rfl) (Z ?_)
 refine AB (Z ?_)
 cases h
 refine Bb (.done _) [(1501,432064)] [(2,2),(1,1)] ?_
 simp only [go_sem]
theorem IU (n:Nat):(∀a0 u w y q r,Al n a0 u w y q=some r→Dx Tryz.prog Tryz.f81 [1,1,1,1,0,1,0,1,1,1,1,1,0,1,0] (.int .i64 r.1) [(1501,⟨List.map Agent.dm r.2.net.agents,some 5,0,true⟩)] [(1,[.own 1501,.ro (List.map Net.ds a0.book),.mpr 2]),(2,[.mpc (.int .i64) (List.map prB r.2.removed)])] ⟨[(0,.box 1 0),(6,.int .i64 u.2.1),(7,.int .i64 u.2.2.1),(9,.int .i64 q)],[(1000003000,some ⟨List.map Agent.dm y,some 5,0,true⟩)],[(2,some [.mpc (.int .i64) (List.map prB w)]),(1,some [.own 1000003000,.ro (List.map Net.ds a0.book),.mpr 2])]⟩):=by
 induction n with
 |zero=>exact((fun _ _ _ _ _ _ h=>by rw [Al] at h; cases h))
 | succ n ih=>
  have ih0:=ih
  ·intro a0 u w y q r h
   rw [Al] at h
   refine BB rfl rfl (Z ?_)
   refine Ag (Z ?_)
   replace h:=AF h; obtain⟨g,k,h⟩:=h
   refine AR k (Agent.dm_len _) (Z ?_)
   refine Ac (AU k) (Z ?_)
   refine Ac (D0 (sz:=5) (j:=4) (r:=List.map Port.ds g.ports) (AU (f:=Agent.dm) k) (Agent.dm_len _) (by rw [Agent.dm_eq]; rfl)) (Z ?_)
   refine AD h (fun h=>Z ?_) (fun h=>Z ?_)
   ·refine AB (Z ?_)
    replace h:=AF h; obtain⟨b,d,h⟩:=h
    refine AP ⟨[],[(1001,1000003000)],[(1,1,0),(2,2,0)],[(1501,288080)],[],true⟩ (by kernel_rfl) (AL _ _ _ _ _ _ _ d) (by kernel_rfl) (Z ?_)
    replace h:=AF h; obtain⟨c,e,h⟩:=h
    refine AP ⟨[],[(1001,288080)],[(1,1,0),(2,2,0)],[(1501,288112)],[],true⟩ (by kernel_rfl) (Aq _ _ _ _ e) (by kernel_rfl) (Z ?_)
    refine AB (Z ?_)
    refine Am (AN rfl rfl (ih0 a0 u c.removed c.net.agents (IntKind.i64.wrap (q+1)) _ h):) (.one ⟨_,.done _,[(1000003000,288112)],[(2,2),(1,1)],?_⟩)
    try simp only [go_sem]
   ·refine AJ (AN rfl rfl (BR a0 u w y _ h):) (.one ⟨_,.done _,[(1000002000,1000003000)],[(2,2),(1,1)],?_⟩)
    try simp only [go_sem]
theorem FB (a0:Rewriter) (u:Int × Int × Int × Int) (w:Bool) (r:Int × Rewriter) (h:BS a0 u w=some r):Dx Tryz.prog Tryz.f81 [1,1,1,1,0,1,0,1] (.int .i64 r.1) [(1501,⟨List.map Agent.dm r.2.net.agents,some 5,0,true⟩)] [(1,[.own 1501,.ro (List.map Net.ds a0.book),.mpr 2]),(2,[.mpc (.int .i64) (List.map prB r.2.removed)])] ⟨[(0,.box 1 0),(6,.int .i64 u.2.1),(7,.int .i64 u.2.2.1),(30,.int .i64 u.1),(31,.bool w)],[(1000000000,some ⟨List.map Agent.dm a0.net.agents,some 5,0,true⟩)],[(2,some [.mpc (.int .i64) (List.map prB a0.removed)]),(1,some [.own 1000000000,.ro (List.map Net.ds a0.book),.mpr 2])]⟩:=by
 unfold BS at h
 refine BB rfl rfl (Z ?_)
 refine AD h (fun h=>Z ?_) (fun h=>Z ?_)
 ·replace h:=AF h; obtain⟨y,q,h⟩:=h
  refine AP ⟨[],[(1001,1000000000)],[(1,1,0),(2,2,0)],[(1501,160080)],[],true⟩ (by kernel_rfl) (ID _ _ _ _ q) (by kernel_rfl) (Z ?_)
  refine AB (Z ?_)
  replace h:=AF h; obtain⟨g,j,h⟩:=h
  refine AP ⟨[],[(1001,160080)],[(1,1,0),(2,2,0)],[(1501,176080)],[],true⟩ (by kernel_rfl) (ID _ _ _ _ j) (by kernel_rfl) (Z ?_)
  refine AJ (AN rfl rfl (BR a0 u g.removed g.net.agents _ h):) (.one ⟨_,.done _,[(1000002000,176080)],[(2,2),(1,1)],?_⟩)
  try simp only [go_sem]
 ·refine AD h (fun h=>Z ?_) (fun h=>Z ?_)
  ·replace h:=AF h; obtain⟨k,b,h⟩:=h
   refine AP ⟨[],[(1001,1000000000)],[(1,1,0),(2,2,0)],[(1501,208048)],[],true⟩ (by kernel_rfl) (JR _ _ _ _ b) (by kernel_rfl) (Z ?_)
   refine AJ (AN rfl rfl (BR a0 u k.removed k.net.agents _ h):) (.one ⟨_,.done _,[(1000002000,208048)],[(2,2),(1,1)],?_⟩)
   try simp only [go_sem]
  ·refine AD h (fun h=>Z ?_) (fun h=>Z ?_)
   ·refine AZ (AN rfl rfl (IU fuel a0 u a0.removed a0.net.agents 1 _ h):) (.one ⟨_,.done _,[(1000003000,1000000000)],[(2,2),(1,1)],?_⟩)
    try simp only [go_sem]
   ·refine AD h (fun h=>Z ?_) (fun h=>Z ?_)
    ·replace h:=AF h; obtain⟨d,c,h⟩:=h
     refine AP ⟨[],[(1001,1000000000)],[(1,1,0),(2,2,0)],[(1501,320048)],[],true⟩ (by kernel_rfl) (J9 _ _ _ _ c) (by kernel_rfl) (Z ?_)
     refine AJ (AN rfl rfl (BR a0 u d.removed d.net.agents _ h):) (.one ⟨_,.done _,[(1000002000,320048)],[(2,2),(1,1)],?_⟩)
     try simp only [go_sem]
    ·refine AD h (fun h=>Z ?_) (fun h=>Z ?_)
     ·replace h:=AF h; obtain⟨e,i,h⟩:=h
      refine AP ⟨[],[(1001,1000000000)],[(1,1,0),(2,2,0)],[(1501,352048)],[],true⟩ (by kernel_rfl) (K3 _ _ _ _ i) (by kernel_rfl) (Z ?_)
      refine AJ (AN rfl rfl (BR a0 u e.removed e.net.agents _ h):) (.one ⟨_,.done _,[(1000002000,352048)],[(2,2),(1,1)],?_⟩)
      try simp only [go_sem]
     ·refine AD h (fun h=>Z ?_) (fun h=>Z ?_)
      ·replace h:=AF h; obtain⟨l,t,h⟩:=h
       refine AP ⟨[],[(1001,1000000000)],[(1,1,0),(2,2,0)],[(1501,384048)],[],true⟩ (by kernel_rfl) (K4 _ _ _ _ t) (by kernel_rfl) (Z ?_)
       refine AB (Z ?_)
       replace h:=AF h; obtain⟨s,o,h⟩:=h
       refine Ur [25002] ⟨[],[(1001,384048)],[(1,1,0),(2,2,0)],[(1501,400048)],[],true⟩ (by kernel_rfl) (HB _ _ _ o) (by kernel_rfl) (Z ?_)
       refine AB (Z ?_)
       cases h
       refine Bb (.done _) [(1501,400048)] [(2,2),(1,1)] ?_
       simp only [go_sem]
      ·refine AJ (AN rfl rfl (BR a0 u a0.removed a0.net.agents _ h):) (.one ⟨_,.done _,[(1000002000,1000000000)],[(2,2),(1,1)],?_⟩)
       try simp only [go_sem]
theorem Ju (a0 a1 r) (h:A6 a0 a1=some r):AG Tryz.prog 81 [.box 1 0,.agg [.int .i64 a1.a,.int .i64 a1.b]] [(1001,⟨List.map Agent.dm a0.net.agents,some 5,0,true⟩)] [(2,[.mpc (.int .i64) (List.map prB a0.removed)]),(1,[.own 1001,.ro (List.map Net.ds a0.book),.mpr 2])] (.int .i64 r.1) [(1501,⟨List.map Agent.dm r.2.net.agents,some 5,0,true⟩)] [(1,[.own 1501,.ro (List.map Net.ds a0.book),.mpr 2]),(2,[.mpc (.int .i64) (List.map prB r.2.removed)])] :=by
 unfold A6 at h
 refine Co mixed Tryz.func81 rfl rfl rfl (by kernel_rfl) (by kernel_rfl) (Z ?_)
 replace h:=AF h; obtain⟨u,w,h⟩:=h
 refine AP ⟨[],[(1001,1001)],[(1,1,0),(2,2,0)],[(1501,32032)],[],true⟩ (by kernel_rfl) (LX _ _ _ w) (by kernel_rfl) (Z ?_)
 refine AB (Z ?_)
 refine AD h (fun h=>Z ?_) (fun h=>Z ?_)
 ·cases h
  refine Bb (.done _) [(1501,32032)] [(2,2),(1,1)] ?_
  simp only [go_sem]
 ·refine AB (Z ?_)
  replace h:=AF h; obtain⟨y,q,h⟩:=h
  refine AP ⟨[],[(1001,32032)],[(1,1,0),(2,2,0)],[(1501,80016)],[],true⟩ (by kernel_rfl) (LW _ _ q) (by kernel_rfl) (Z ?_)
  replace h:=AF h; obtain⟨g,j,h⟩:=h
  refine AP ⟨[],[(1001,80016)],[(1,1,0),(2,2,0)],[(1501,80096)],[],true⟩ (by kernel_rfl) (K2 _ _ _ _ _ j) (by kernel_rfl) (Z ?_)
  refine AB (Z ?_)
  refine AD h (fun h=>Z ?_) (fun h=>Z ?_)
  ·cases h
   refine Bb (.done _) [(1501,80096)] [(2,2),(1,1)] ?_
   simp only [go_sem]
  ·refine AB (Z ?_)
   refine AD h (fun h=>Z ?_) (fun h=>Z ?_)
   ·refine AJ (AN rfl rfl (FB a0 u (decide (u.1 =1)) _ h):) (.one ⟨_,.done _,[(1000000000,80096)],[(2,2),(1,1)],?_⟩)
    try simp only [go_sem]
   ·refine AJ (AN rfl rfl (FB a0 u (decide (u.1 =2)) _ h):) (.one ⟨_,.done _,[(1000000000,80096)],[(2,2),(1,1)],?_⟩)
    try simp only [go_sem]
end Go.Proofs.YtckcfdggbbabfaaGreat.Ab
