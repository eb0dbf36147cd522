/-
 The functions do what their models say. Printed by wip/ab/gen.py.
-/
import Derived.Test.YtckcfdggbbabfaaGreatModW
import Derived.Test.YtckcfdggbbabfaaGreatTi2
import Derived.Test.YtckcfdggbbabfaaGreatWlkV
namespace Go.Proofs.YtckcfdggbbabfaaGreat.Ab
set_option linter.unusedVariables false
set_option linter.unusedSimpArgs false
set_option maxRecDepth 20000
set_option maxHeartbeats 4000000
open Go.RowKit
theorem Qn (n:Nat):(∀a0 u w r,E3 n a0 u w=some r→Al Tryz.prog Tryz.f90 [1,1,0,1,0] (.int .i64 r) ⟨[(0,.ro (List.map (slD AO) a0)),(3,.int .i64 u),(4,.int .i64 w)],[],[]⟩):=by
 induction n with
 |zero=>exact((fun _ _ _ _ h=>by rw [E3] at h; cases h))
 | succ n ih=>
  have ih0:=ih
  ·intro a0 u w r h
   rw [E3] at h
   refine AN rfl rfl (Z ?_)
   refine AX (Z ?_)
   refine AD h (fun h=>Z ?_) (fun h=>Z ?_)
   ·refine AF ?_
    replace h:=AB h; obtain⟨y,q,h⟩:=h
    refine AM q rfl (Z ?_)
    refine AF ?_
    exact lpF (ih0 a0 (IntKind.i64.wrap (u+((List.length y:Nat):Int))) (IntKind.i64.wrap (w+1)) _ h) [] []
   ·refine AF ?_
    cases h
    simp only [go_sem]
theorem Uj (a0 r) (h:Mu a0=some r):AC Tryz.prog 90 [.ro (List.map (slD AO) a0)] (.int .i64 r):=by
 unfold Mu at h
 refine acF Tryz.func90 mixed (h:=Z ?_)
 exact loF (Qn fuel a0 0 0 _ h) [] []
theorem Pw (a0 a1 a2 r) (h:GH a0 a1 a2=some r):AC Tryz.prog 37 [.ro (List.map Net.ds a0),.agg (Net.avs a1),.int .i64 a2] (.tup [.int .i64 r.1,.int .i64 r.2.1,.int .i64 r.2.2]):=by
 unfold GH at h
 refine acF Tryz.func37 mixed (h:=Z ?_)
 replace h:=AB h; obtain⟨u,w,h⟩:=h
 refine AH (JV _ _ _ _ _ w) (Z ?_)
 refine AF ?_
 refine AD h (fun h=>Z ?_) (fun h=>Z ?_)
 ·cases h
  simp only [go_sem]
 ·refine AF ?_
  replace h:=AB h; obtain⟨y,q,h⟩:=h
  refine AH (Uj _ _ q) (Z ?_)
  refine AF ?_
  cases h
  simp only [go_sem]
theorem WN (n:Nat):(∀a0 u w r,JI n a0 u w=some r→Al Tryz.prog Tryz.f91 [1,1,0,1,0] (.int .i64 r) ⟨[(3,.int .i64 u),(6,.ro (List.map AO a0)),(7,.int .i64 ((List.length a0:Nat):Int)),(8,.int .i64 w)],[],[]⟩):=by
 induction n with
 |zero=>exact((fun _ _ _ _ h=>by rw [JI] at h; cases h))
 | succ n ih=>
  have ih0:=ih
  ·intro a0 u w r h
   rw [JI] at h
   refine AN rfl rfl (Z ?_)
   refine AX (Z ?_)
   refine AD h (fun h=>Z ?_) (fun h=>Z ?_)
   ·refine AF ?_
    replace h:=AB h; obtain⟨y,q,h⟩:=h
    refine AM q rfl (Z ?_)
    refine AF ?_
    exact lpF (ih0 a0 (IntKind.i64.wrap (u+y)) (IntKind.i64.wrap (w+1)) _ h) [] []
   ·refine AF ?_
    cases h
    simp only [go_sem]
theorem cH (a0 r) (h:X8 a0=some r):AC Tryz.prog 91 [.ro (List.map AO a0)] (.int .i64 r):=by
 unfold X8 at h
 refine acF Tryz.func91 mixed (h:=Z ?_)
 exact loF (WN fuel a0 0 0 _ h) [] []
theorem Px (a0 a1 a2 r) (h:GI a0 a1 a2=some r):AC Tryz.prog 38 [.ro (List.map Net.ds a0),.agg (Net.avs a1),.int .i64 a2] (.tup [.int .i64 r.1,.int .i64 r.2.1,.int .i64 r.2.2]):=by
 unfold GI at h
 refine acF Tryz.func38 mixed (h:=Z ?_)
 replace h:=AB h; obtain⟨u,w,h⟩:=h
 refine AH (IE _ _ _ _ w) (Z ?_)
 refine AF ?_
 replace h:=AB h; obtain⟨y,q,h⟩:=h
 refine AH (cH _ _ q) (Z ?_)
 refine AF ?_
 cases h
 simp only [go_sem]
theorem Ds (a0:List Net) (a1:Net) (u:(List Net)) (w:Net) (y:Bool) (r:Bool) (h:Bb a0 a1 u w y=some r):Al Tryz.prog Tryz.f7 [1,1,1,1,1,1,1,1,1,1,0,1] (.bool r) ⟨[(0,.ro (List.map Net.ds a0)),(4,.box 1000000500 0),(11,.own 1000000000),(12,.box 1000000501 0),(60,.bool y)],[(1000000000,some ⟨List.map Net.ds u,some 1,0,false⟩),(1000000001,some ⟨List.map Agent.ds w.agents,some 5,0,false⟩)],[(1000000500,some [.ro (List.map Agent.ds a1.agents)]),(1000000501,some [.own 1000000001])]⟩:=by
 unfold Bb at h
 refine AN rfl rfl (Z ?_)
 refine AD h (fun h=>Z ?_) (fun h=>Z ?_)
 ·cases h
  simp only [go_sem]
 ·refine AF ?_
  replace h:=AB h; obtain⟨q,g,h⟩:=h
  refine AH (C3 _ _ g) (Z ?_)
  replace h:=AB h; obtain⟨j,k,h⟩:=h
  refine AH (Ma _ _ _ k) (Z ?_)
  refine AF ?_
  refine AD h (fun h=>Z ?_) (fun h=>Z ?_)
  ·cases h
   simp only [go_sem]
  ·refine AF ?_
   refine AY [] .fin (by kernel_rfl) (Z ?_)
   replace h:=AB h; obtain⟨b,d,h⟩:=h
   refine AH (DE _ _ d) (Z ?_)
   replace h:=AB h; obtain⟨c,e,h⟩:=h
   refine AH (LK _ _ _ e) (Z ?_)
   refine AF ?_
   refine AD h (fun h=>Z ?_) (fun h=>Z ?_)
   ·cases h
    simp only [go_sem]
   ·refine AF ?_
    cases h
    simp only [go_sem]
theorem KJ (a0 a1 a2 r) (h:EC a0 a1 a2=some r):AC Tryz.prog 7 [.ro (List.map Net.ds a0),.agg (Net.avs a1),.int .i64 a2] (.bool r):=by
 unfold EC at h
 refine acF Tryz.func7 mixed (h:=Z ?_)
 replace h:=AB h; obtain⟨u,w,h⟩:=h
 refine AH (Mb _ _ _ w) (Z ?_)
 refine AF ?_
 refine AD h (fun h=>Z ?_) (fun h=>Z ?_)
 ·cases h
  simp only [go_sem]
 ·refine AF ?_
  replace h:=AB h; obtain⟨y,q,h⟩:=h
  refine AH (LL _ _ _ q) (Z ?_)
  refine AF ?_
  refine AD h (fun h=>Z ?_) (fun h=>Z ?_)
  ·cases h
   simp only [go_sem]
  ·refine AF ?_
   refine AY [] .fin (by kernel_rfl) (Z ?_)
   replace h:=AB h; obtain⟨g,j,h⟩:=h
   refine AH (C3 _ _ j) (Z ?_)
   replace h:=AB h; obtain⟨k,b,h⟩:=h
   refine AH (DE _ _ b) (Z ?_)
   replace h:=AB h; obtain⟨d,c,h⟩:=h
   refine AH (Pw _ _ _ _ c) (Z ?_)
   refine AF ?_
   replace h:=AB h; obtain⟨e,i,h⟩:=h
   refine AH (C3 _ _ i) (Z ?_)
   refine AF ?_
   replace h:=AB h; obtain⟨l,t,h⟩:=h
   refine AH (DE _ _ t) (Z ?_)
   refine AF ?_
   replace h:=AB h; obtain⟨s,o,h⟩:=h
   refine AH (Px _ _ _ _ o) (Z ?_)
   refine AF ?_
   refine AD h (fun h=>Z ?_) (fun h=>Z ?_)
   ·exact AW (Ds a0 a1 e l true _ h) [(1000000000,160016),(1000000001,176016)] [(1000000500,1000),(1000000501,11002)]
   ·refine AD h (fun h=>Z ?_) (fun h=>Z ?_)
    ·exact AW (Ds a0 a1 e l true _ h) [(1000000000,160016),(1000000001,176016)] [(1000000500,1000),(1000000501,11002)]
    ·exact AW (Ds a0 a1 e l (!decide (s.2.2 =d.2.2)) _ h) [(1000000000,160016),(1000000001,176016)] [(1000000500,1000),(1000000501,11002)]
end Go.Proofs.YtckcfdggbbabfaaGreat.Ab
