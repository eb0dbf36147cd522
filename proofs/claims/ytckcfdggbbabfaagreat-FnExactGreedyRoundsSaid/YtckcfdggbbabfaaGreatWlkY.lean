/-
 The functions do what their models say. Printed by wip/ab/gen.py.
-/
import Derived.Test.YtckcfdggbbabfaaGreatModY
import Derived.Test.YtckcfdggbbabfaaGreatTi2
import Derived.Test.YtckcfdggbbabfaaGreatWlkR
namespace Go.Proofs.YtckcfdggbbabfaaGreat.Ab
set_option linter.unusedVariables false
set_option linter.unusedSimpArgs false
set_option maxRecDepth 20000
set_option maxHeartbeats 4000000
open Go.RowKit
theorem G8 (a0:List Net) (a1:Net) (a2:Int) (a3:Int) (u:Int) (r:Int × Int) (h:CF a0 a1 a2 a3 u=some r):Aw Tryz.prog Tryz.f35 [1,1,1] (.tup [.int .i64 r.1,.int .i64 r.2]) ⟨[(0,.ro (List.map Net.ds a0)),(2,.int .i64 a2),(3,.int .i64 a3),(5,.box 1000001500 0),(10,.int .i64 u)],[],[(1000001500,some [.ro (List.map Agent.ds a1.agents)])]⟩:=by
 unfold CF at h
 refine AN rfl rfl (Z ?_)
 refine AB h (fun h=>Z ?_) (fun h=>Z ?_)
 ·cases h
  simp only [go_sem]
 ·refine AF ?_
  replace h:=AD h; obtain⟨w,y,h⟩:=h
  refine AI (QG _ _ _ _ _ y) (Z ?_)
  refine AF ?_
  refine AB h (fun h=>Z ?_) (fun h=>Z ?_)
  ·cases h
   simp only [go_sem]
  ·refine AF ?_
   cases h
   simp only [go_sem]
theorem G9 (a0:List Net) (a1:Net) (a2:Int) (a3:Int) (u:Int) (w:Bool) (r:Int × Int) (h:CG a0 a1 a2 a3 u w=some r):Aw Tryz.prog Tryz.f35 [1,1,0,1] (.tup [.int .i64 r.1,.int .i64 r.2]) ⟨[(0,.ro (List.map Net.ds a0)),(2,.int .i64 a2),(3,.int .i64 a3),(5,.box 1000000500 0),(10,.int .i64 u),(21,.bool w)],[],[(1000000500,some [.ro (List.map Agent.ds a1.agents)])]⟩:=by
 unfold CG at h
 refine AN rfl rfl (Z ?_)
 refine AB h (fun h=>Z ?_) (fun h=>Z ?_)
 ·exact AT (G8 a0 a1 a2 a3 2 _ h) [] [(1000001500,1000000500)]
 ·exact AT (G8 a0 a1 a2 a3 u _ h) [] [(1000001500,1000000500)]
theorem NQ (a0 a1 a2 a3 r) (h:Ew a0 a1 a2 a3=some r):AC Tryz.prog 35 [.ro (List.map Net.ds a0),.agg (Net.avs a1),.int .i64 a2,.int .i64 a3] (.tup [.int .i64 r.1,.int .i64 r.2]):=by
 unfold Ew at h
 refine acF Tryz.func35 mixed (h:=Z ?_)
 replace h:=AD h; obtain⟨u,w,h⟩:=h
 refine AI (Ls _ _ _ _ _ w) (Z ?_)
 refine AF ?_
 refine AB h (fun h=>Z ?_) (fun h=>Z ?_)
 ·replace h:=AD h; obtain⟨y,q,h⟩:=h
  refine AI (BN _ _ _ _ q) (Z ?_)
  exact AT (G9 a0 a1 a2 a3 u (!y) _ h) [] [(1000000500,1000)]
 ·exact AT (G9 a0 a1 a2 a3 u false _ h) [] [(1000000500,1000)]
theorem Jz (n:Nat):(∀a0 a2 u w y q r,BC n a0 a2 u w y q=some r→DB Tryz.prog Tryz.f36 [1,1,1,1,0,1,0] (.tup [.int .i64 r.1,.int .i64 r.2]) [] [] ⟨[(0,.ro (List.map Net.ds a0)),(2,.int .i64 a2),(3,.int .i64 u),(5,.box 1000006500 0),(12,.int .i64 y),(13,.own 1000006000)],[(1000006000,some ⟨List.map Pair.ds q,some 2,0,false⟩)],[(1000006500,some [.ro (List.map Agent.ds w)])]⟩)∧
    (∀a0 a2 u w y g j k b d r,Bb n a0 a2 u w y g j k b d=some r→DB Tryz.prog Tryz.f36 [1,1,1,1,0,1,0,0,1,0,0,1,1,1,1,0,1,0] (.tup [.int .i64 r.1,.int .i64 r.2]) [] [] ⟨[(0,.ro (List.map Net.ds a0)),(2,.int .i64 a2),(3,.int .i64 (IntKind.i64.wrap (u - ((List.length g:Nat):Int)))),(5,.box 1000010500 0),(12,.int .i64 y),(14,.box 1000010501 0),(54,.ro (List.map Pair.ds g)),(55,.int .i64 ((List.length g:Nat):Int)),(56,.int .i64 d)],[(1000010000,some ⟨List.map Agent.dm k,some 5,0,true⟩)],[(1000010500,some [.ro (List.map Agent.ds w)]),(1000010501,some [.own 1000010000,.ro (List.map Net.ds j.book),.mpr 1000010502]),(1000010502,some [.mpc (.int .i64) (List.map prB b)])]⟩):=by
 induction n with
 |zero=>exact⟨(fun _ _ _ _ _ _ _ h=>by rw [BC] at h; cases h),(fun _ _ _ _ _ _ _ _ _ _ _ h=>by rw [Bb] at h; cases h)⟩
 | succ n ih=>
  obtain⟨ih0,ih1⟩:=ih
  refine⟨?_,?_⟩
  ·intro a0 a2 u w y q r h
   rw [BC] at h
   refine Ay rfl rfl (Z ?_)
   refine Ad (Z ?_)
   refine AB h (fun h=>Z ?_) (fun h=>Z ?_)
   ·refine Rx (.frzT 1000006000 [(13,[])] [] _ _ _ (by (first|rfl|(simp only [go_sem]; rfl))) (by decide) (by (first|rfl|(simp only [go_sem]; rfl))) (by (first|rfl|(simp only [go_sem]; rfl))) (.done _)) (Z ?_)
    all_goals try rfl
    replace h:=AD h; obtain⟨g,c,h⟩:=h
    refine BO (IW (by intro x; exact(Pair.ds_len _)) _) (Z ?_)
    refine Ai (Oj c) (Z ?_)
    refine AB h (fun h=>Z ?_) (fun h=>Z ?_)
    ·cases h
     refine BD (.done _) [] [] ?_
     simp only [go_sem]
    ·refine AF ?_
     replace h:=AD h; obtain⟨j,e,h⟩:=h
     refine caG ⟨[],[],[],[(1501,240033)],[(1601,240032),(1602,240034)],true⟩ (JK _ _ _ e) (Z ?_)
     refine AF ?_
     exact loG (ih1 a0 a2 u w y g j j.net.agents j.removed 0 _ h) [(1000010000,240033)] [(1000010500,1000006500),(1000010501,240032),(1000010502,240034)]
   ·refine AF ?_
    cases h
    refine BD (.done _) [] [] ?_
    simp only [go_sem]
  ·intro a0 a2 u w y g j k b d r h
   rw [Bb] at h
   refine Ay rfl rfl (Z ?_)
   refine Ad (Z ?_)
   refine AB h (fun h=>Z ?_) (fun h=>Z ?_)
   ·refine AF ?_
    replace h:=AD h; obtain⟨i,l,h⟩:=h
    refine AM l (Pair.ds_len _) (Z ?_)
    refine AF ?_
    replace h:=AD h; obtain⟨t,s,h⟩:=h
    refine caG ⟨[],[(1001,1000010000)],[(1,1000010501,0),(2,1000010502,0)],[(1501,304032)],[],true⟩ (Jw _ _ _ s) (Z ?_)
    refine AF ?_
    refine AB h (fun h=>Z ?_) (fun h=>Z ?_)
    ·cases h
     refine BD (.done _) [] [] ?_
     simp only [go_sem]
    ·refine AF ?_
     exact lpG (ih1 a0 a2 u w y g j t.2.net.agents t.2.removed (IntKind.i64.wrap (d+1)) _ h) [(1000010000,304032)] [(1000010500,1000010500),(1000010501,1000010501),(1000010502,1000010502)]
   ·refine AF ?_
    replace h:=AD h; obtain⟨o,z,h⟩:=h
    refine caG ⟨[],[(1001,1000010000)],[(1,1000010501,0),(2,1000010502,0)],[(1501,368016),(1502,368017)],[],true⟩ (K3 _ _ z) (Z ?_)
    refine AF ?_
    refine AF ?_
    replace h:=AD h; obtain⟨u1,u2,h⟩:=h
    refine AI (K0 _ _ u2) (Z ?_)
    refine RP (Gd rfl rfl (ih0 a0 a2 (IntKind.i64.wrap (u - ((List.length g:Nat):Int))) o.agents (IntKind.i64.wrap (y+1)) u1 _ h):) (.one ⟨_,.frzT 368016 [(68,[0])] [(1000010500,0)] _ _ _ (by (first|rfl|(simp only [go_sem]; rfl))) (by decide) (by (first|rfl|(simp only [go_sem]; rfl))) (by (first|rfl|(simp only [go_sem]; rfl))) (.done _),[(1000006000,160000)],[(1000006500,1000010500)],?_⟩)
    simp only [go_sem]
    all_goals try rfl
theorem KG (n:Nat):(∀a0 a2 u w y q r,BC n a0 a2 u w y q=some r→DB Tryz.prog Tryz.f36 [1,1,1,1,0,1,0] (.tup [.int .i64 r.1,.int .i64 r.2]) [] [] ⟨[(0,.ro (List.map Net.ds a0)),(2,.int .i64 a2),(3,.int .i64 u),(5,.box 1000006500 0),(12,.int .i64 y),(13,.own 1000006000)],[(1000006000,some ⟨List.map Pair.ds q,some 2,0,false⟩)],[(1000006500,some [.ro (List.map Agent.ds w)])]⟩):=(Jz n).1
theorem HA (a0:List Net) (a1:Net) (a2:Int) (a3:Int) (u:Bool) (r:Int × Int) (h:Da a0 a1 a2 a3 u=some r):DB Tryz.prog Tryz.f36 [1,1,0,1] (.tup [.int .i64 r.1,.int .i64 r.2]) [] [] ⟨[(0,.ro (List.map Net.ds a0)),(2,.int .i64 a2),(3,.int .i64 a3),(5,.box 1000000500 0),(33,.bool u)],[],[(1000000500,some [.ro (List.map Agent.ds a1.agents)])]⟩:=by
 unfold Da at h
 refine Ay rfl rfl (Z ?_)
 refine AB h (fun h=>Z ?_) (fun h=>Z ?_)
 ·cases h
  refine BD (.done _) [] [] ?_
  simp only [go_sem]
 ·refine AF ?_
  replace h:=AD h; obtain⟨w,y,h⟩:=h
  refine AI (K0 _ _ y) (Z ?_)
  refine AF ?_
  exact loG (KG fuel a0 a2 a3 a1.agents 0 w _ h) [(1000006000,128000)] [(1000006500,1000000500)]
theorem NR (a0 a1 a2 a3 r) (h:Ex a0 a1 a2 a3=some r):AG Tryz.prog 36 [.ro (List.map Net.ds a0),.agg [.ro (List.map Agent.ds a1.agents)],.int .i64 a2,.int .i64 a3] [] [] (.tup [.int .i64 r.1,.int .i64 r.2]) [] [] :=by
 unfold Ex at h
 refine agF Tryz.func36 mixed (h:=Z ?_)
 replace h:=AD h; obtain⟨u,w,h⟩:=h
 refine caG ⟨[],[],[],[],[],true⟩ (QH _ _ _ _ _ w) (Z ?_)
 refine AF ?_
 refine AB h (fun h=>Z ?_) (fun h=>Z ?_)
 ·cases h
  refine BD (.done _) [] [] ?_
  simp only [go_sem]
 ·refine AF ?_
  refine AB h (fun h=>Z ?_) (fun h=>Z ?_)
  ·exact A9 (HA a0 a1 a2 a3 true _ h) [] [(1000000500,1000)]
  ·exact A9 (HA a0 a1 a2 a3 (decide (64<a2)) _ h) [] [(1000000500,1000)]
theorem Eb (a0:List Net) (a1:Net) (u:(List Net)) (w:Net) (y:Bool) (r:Bool) (h:Bv a0 a1 u w y=some r):Aw Tryz.prog Tryz.f6 [1,1,1,1,1,1,1,1,1,1,0,1] (.bool r) ⟨[(0,.ro (List.map Net.ds a0)),(5,.box 1000000500 0),(12,.own 1000000000),(13,.box 1000000501 0),(55,.bool y)],[(1000000000,some ⟨List.map Net.ds u,some 1,0,false⟩),(1000000001,some ⟨List.map Agent.ds w.agents,some 5,0,false⟩)],[(1000000500,some [.ro (List.map Agent.ds a1.agents)]),(1000000501,some [.own 1000000001])]⟩:=by
 unfold Bv at h
 refine AN rfl rfl (Z ?_)
 refine AB h (fun h=>Z ?_) (fun h=>Z ?_)
 ·cases h
  simp only [go_sem]
 ·refine AF ?_
  replace h:=AD h; obtain⟨q,g,h⟩:=h
  refine AI (LG _ _ g) (Z ?_)
  replace h:=AD h; obtain⟨j,k,h⟩:=h
  refine AI (UP _ _ _ k) (Z ?_)
  refine AF ?_
  refine AB h (fun h=>Z ?_) (fun h=>Z ?_)
  ·cases h
   simp only [go_sem]
  ·refine AF ?_
   refine AX [] .fin (by kernel_rfl) (Z ?_)
   replace h:=AD h; obtain⟨b,d,h⟩:=h
   refine AI (Jy _ _ d) (Z ?_)
   replace h:=AD h; obtain⟨c,e,h⟩:=h
   refine AI (QL _ _ _ e) (Z ?_)
   refine AF ?_
   refine AB h (fun h=>Z ?_) (fun h=>Z ?_)
   ·cases h
    simp only [go_sem]
   ·refine AF ?_
    cases h
    simp only [go_sem]
theorem Il (a0 a1 a2 a3 r) (h:DL a0 a1 a2 a3=some r):AC Tryz.prog 6 [.ro (List.map Net.ds a0),.agg (Net.avs a1),.int .i64 a2,.int .i64 a3] (.bool r):=by
 unfold DL at h
 refine acF Tryz.func6 mixed (h:=Z ?_)
 replace h:=AD h; obtain⟨u,w,h⟩:=h
 refine AI (UM _ _ _ w) (Z ?_)
 refine AF ?_
 refine AB h (fun h=>Z ?_) (fun h=>Z ?_)
 ·cases h
  simp only [go_sem]
 ·refine AF ?_
  replace h:=AD h; obtain⟨y,q,h⟩:=h
  refine AI (QI _ _ _ q) (Z ?_)
  refine AF ?_
  refine AB h (fun h=>Z ?_) (fun h=>Z ?_)
  ·cases h
   simp only [go_sem]
  ·refine AF ?_
   refine AX [] .fin (by kernel_rfl) (Z ?_)
   replace h:=AD h; obtain⟨g,j,h⟩:=h
   refine AI (LG _ _ j) (Z ?_)
   replace h:=AD h; obtain⟨k,b,h⟩:=h
   refine AI (Jy _ _ b) (Z ?_)
   replace h:=AD h; obtain⟨d,c,h⟩:=h
   refine AI (NQ _ _ _ _ _ c) (Z ?_)
   refine AF ?_
   replace h:=AD h; obtain⟨e,i,h⟩:=h
   refine AI (LG _ _ i) (Z ?_)
   refine AF ?_
   replace h:=AD h; obtain⟨l,t,h⟩:=h
   refine AI (Jy _ _ t) (Z ?_)
   refine AF ?_
   replace h:=AD h; obtain⟨s,o,h⟩:=h
   refine caG ⟨[],[],[],[],[],false⟩ (NR _ _ _ _ _ o) (Z ?_)
   refine AF ?_
   refine AB h (fun h=>Z ?_) (fun h=>Z ?_)
   ·exact AT (Eb a0 a1 e l true _ h) [(1000000000,160016),(1000000001,176016)] [(1000000500,1000),(1000000501,11002)]
   ·exact AT (Eb a0 a1 e l (!decide (s.2 =d.2)) _ h) [(1000000000,160016),(1000000001,176016)] [(1000000500,1000),(1000000501,11002)]
end Go.Proofs.YtckcfdggbbabfaaGreat.Ab
