/-
 The functions do what their models say. Printed by wip/ab/gen.py.
-/
import Derived.Test.YtckcfdggbbabfaaGreatMod
import Derived.Test.YtckcfdggbbabfaaGreatTi2
namespace Go.Proofs.YtckcfdggbbabfaaGreat.Ab
set_option linter.unusedVariables false
set_option linter.unusedSimpArgs false
set_option maxRecDepth 20000
set_option maxHeartbeats 4000000
open Go.RowKit
theorem Qg (a0 a1 r) (h:Hy a0 a1=some r):AC Tryz.prog 174 [.ro (List.map AY a0),.int .i64 a1] (.int .i64 r):=by
 unfold Hy at h
 refine acF Tryz.func174 mixed (h:=Z ?_)
 refine AB h (fun h=>Z ?_) (fun h=>Z ?_)
 ·cases h
  simp only [go_sem]
 ·refine AF ?_
  cases h
  simp only [go_sem]
theorem Np (n:Nat):(∀a0 u w r,Cy n a0 u w=some r→Aw Tryz.prog Tryz.f19 [1,1,0,1,0] (.ow (some 1) (List.map AY r)) ⟨[(0,.ro (List.map AY a0)),(3,.own 1000001000),(4,.int .i64 w)],[(1000001000,some ⟨List.map AY u,some 1,0,false⟩)],[]⟩):=by
 induction n with
 |zero=>exact((fun _ _ _ _ h=>by rw [Cy] at h; cases h))
 | succ n ih=>
  have ih0:=ih
  ·intro a0 u w r h
   rw [Cy] at h
   refine AN rfl rfl (Z ?_)
   refine Ad (Z ?_)
   refine AB h (fun h=>Z ?_) (fun h=>Z ?_)
   ·refine AF ?_
    replace h:=AD h; obtain⟨y,q,h⟩:=h
    refine AM q rfl (Z ?_)
    replace h:=AD h; obtain⟨g,j,h⟩:=h
    refine AM j rfl (Z ?_)
    replace h:=AD h; obtain⟨k,b,h⟩:=h
    refine Ai (AW j) (Z ?_)
    refine BP (List.map AY k) (by rw [← Bo b]; simp only [List.map_set,go_sem,slD]) (Z ?_)
    refine AF ?_
    exact lpF (ih0 a0 k (IntKind.i64.wrap (w+1)) _ h) [(1000001000,1000001000)] []
   ·refine AF ?_
    cases h
    simp only [go_sem]
theorem Qh (a0 r) (h:Hz a0=some r):AC Tryz.prog 19 [.ro (List.map AY a0)] (.ow (some 1) (List.map AY r)):=by
 unfold Hz at h
 refine acF Tryz.func19 mixed (h:=Z ?_)
 replace h:=AD h; obtain⟨u,w,h⟩:=h
 have hq_:=Gs w
 obtain⟨hv2002a,hv2002b,hv2002c⟩:=hq_
 refine BO (by refine⟨?_,?_,?_⟩ <;> omega) (Z ?_)
 refine BP (List.map AY u) (by rw [← hv2002c]; simp only [List.map_replicate,go_sem,slD]) (Z ?_)
 refine AF ?_
 exact loF (Np fuel a0 u 0 _ h) [(1000001000,32032)] []
theorem Nq (n:Nat):(∀a0 a1 u r,Df n a0 a1 u=some r→Aw Tryz.prog Tryz.f24 [1,1,0,1,0] (.bool r) ⟨[(0,.ro (List.map AY a0)),(1,.ro (List.map AY a1)),(5,.int .i64 u)],[],[]⟩):=by
 induction n with
 |zero=>exact((fun _ _ _ _ h=>by rw [Df] at h; cases h))
 | succ n ih=>
  have ih0:=ih
  ·intro a0 a1 u r h
   rw [Df] at h
   refine AN rfl rfl (Z ?_)
   refine Ad (Z ?_)
   refine AB h (fun h=>Z ?_) (fun h=>Z ?_)
   ·refine AF ?_
    refine AX [] .fin (by kernel_rfl) (Z ?_)
    replace h:=AD h; obtain⟨w,y,h⟩:=h
    refine AM y rfl (Z ?_)
    replace h:=AD h; obtain⟨q,g,h⟩:=h
    refine AM g rfl (Z ?_)
    refine AF ?_
    refine AB h (fun h=>Z ?_) (fun h=>Z ?_)
    ·cases h
     simp only [go_sem]
    ·refine AF ?_
     exact lpF (ih0 a0 a1 (IntKind.i64.wrap (u+1)) _ h) [] []
   ·refine AF ?_
    cases h
    simp only [go_sem]
theorem Qi (a0 a1 r) (h:H0 a0 a1=some r):AC Tryz.prog 24 [.ro (List.map AY a0),.ro (List.map AY a1)] (.bool r):=by
 unfold H0 at h
 refine acF Tryz.func24 mixed (h:=Z ?_)
 refine AB h (fun h=>Z ?_) (fun h=>Z ?_)
 ·cases h
  simp only [go_sem]
 ·refine AF ?_
  exact loF (Nq fuel a0 a1 0 _ h) [] []
end Go.Proofs.YtckcfdggbbabfaaGreat.Ab
