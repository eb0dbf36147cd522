/-
 The functions do what their models say. Printed by wip/ab/gen.py.
-/
import Derived.Test.YtclmbjbbojdojaaGreatMod
import Derived.Test.YtclmbjbbojdojaaGreatTi2
namespace Go.Proofs.YtclmbjbbojdojaaGreat.Ab
set_option linter.unusedVariables false
set_option linter.unusedSimpArgs false
set_option maxRecDepth 20000
set_option maxHeartbeats 4000000
open Go.RowKit
theorem Qi (a0 a1 r) (h:Ho a0 a1=some r):AC Tryz.prog 100 [.ro (List.map AJ a0),.int .i64 a1] (.int .i64 r):=by
 unfold Ho at h
 refine acF Tryz.func100 mixed (h:=Z ?_)
 refine AD h (fun h=>Z ?_) (fun h=>Z ?_)
 ·cases h
  simp only [go_sem]
 ·refine AF ?_
  cases h
  simp only [go_sem]
theorem Np (n:Nat):(∀a0 u w r,C9 n a0 u w=some r→Ax Tryz.prog Tryz.f9 [1,1,0,1,0] (.ow (some 1) (List.map AJ r)) ⟨[(0,.ro (List.map AJ a0)),(3,.own 1000001000),(4,.int .i64 w)],[(1000001000,some ⟨List.map AJ u,some 1,0,.no⟩)],[]⟩):=by
 induction n with
 |zero=>exact((fun _ _ _ _ h=>by rw [C9] at h; cases h))
 | succ n ih=>
  have ih0:=ih
  ·intro a0 u w r h
   rw [C9] at h
   refine AS rfl rfl (Z ?_)
   refine AY (Z ?_)
   refine AD h (fun h=>Z ?_) (fun h=>Z ?_)
   ·refine AF ?_
    replace h:=AB h; obtain⟨y,q,h⟩:=h
    refine AL q rfl (Z ?_)
    replace h:=AB h; obtain⟨g,j,h⟩:=h
    refine AL j rfl (Z ?_)
    replace h:=AB h; obtain⟨k,b,h⟩:=h
    refine AW (AM j) (Z ?_)
    refine AT (List.map AJ k) (by rw [← AN b]; simp only [List.map_set,go_sem,slD]) (Z ?_)
    refine AF ?_
    exact lpF (ih0 a0 k (IntKind.i64.wrap (w+1)) _ h) [(1000001000,1000001000)] []
   ·refine AF ?_
    cases h
    simp only [go_sem]
theorem FX (a0 r) (h:Dl a0=some r):AC Tryz.prog 9 [.ro (List.map AJ a0)] (.ow (some 1) (List.map AJ r)):=by
 unfold Dl at h
 refine acF Tryz.func9 mixed (h:=Z ?_)
 replace h:=AB h; obtain⟨u,w,h⟩:=h
 have hq_:=CS w
 obtain⟨hv2002a,hv2002b,hv2002c⟩:=hq_
 refine Ad (by refine⟨?_,?_,?_⟩ <;> omega) (Z ?_)
 refine BN .no (Z ?_)
 refine AT (List.map AJ u) (by rw [← hv2002c]; simp only [List.map_replicate,go_sem,slD]) (Z ?_)
 refine AF ?_
 exact loF (Np fuel a0 u 0 _ h) [(1000001000,32032)] []
theorem Nq (n:Nat):(∀a0 a1 u r,Dm n a0 a1 u=some r→Ax Tryz.prog Tryz.f13 [1,1,0,1,0] (.bool r) ⟨[(0,.ro (List.map AJ a0)),(1,.ro (List.map AJ a1)),(5,.int .i64 u)],[],[]⟩):=by
 induction n with
 |zero=>exact((fun _ _ _ _ h=>by rw [Dm] at h; cases h))
 | succ n ih=>
  have ih0:=ih
  ·intro a0 a1 u r h
   rw [Dm] at h
   refine AS rfl rfl (Z ?_)
   refine AY (Z ?_)
   refine AD h (fun h=>Z ?_) (fun h=>Z ?_)
   ·refine AF ?_
    refine Aa [] .fin (by kernel_rfl) (Z ?_)
    replace h:=AB h; obtain⟨w,y,h⟩:=h
    refine AL y rfl (Z ?_)
    replace h:=AB h; obtain⟨q,g,h⟩:=h
    refine AL g rfl (Z ?_)
    refine AF ?_
    refine AD h (fun h=>Z ?_) (fun h=>Z ?_)
    ·cases h
     simp only [go_sem]
    ·refine AF ?_
     exact lpF (ih0 a0 a1 (IntKind.i64.wrap (u+1)) _ h) [] []
   ·refine AF ?_
    cases h
    simp only [go_sem]
theorem Ej (a0 a1 r) (h:Cs a0 a1=some r):AC Tryz.prog 13 [.ro (List.map AJ a0),.ro (List.map AJ a1)] (.bool r):=by
 unfold Cs at h
 refine acF Tryz.func13 mixed (h:=Z ?_)
 refine AD h (fun h=>Z ?_) (fun h=>Z ?_)
 ·cases h
  simp only [go_sem]
 ·refine AF ?_
  exact loF (Nq fuel a0 a1 0 _ h) [] []
theorem L7 (n:Nat):(∀u w y (z1:Option Nat) r,CI n u w y=some r→E4 Tryz.prog Tryz.f15 [1,0,1,0] (.int .i64 r.1) [(1,⟨List.map AJ r.2,z1,0,.no⟩)] [] ⟨[(0,.own 1),(1,.int .i64 w),(5,.int .i64 y)],[(1,some ⟨List.map AJ u,z1,0,.no⟩)],[]⟩):=by
 induction n with
 |zero=>exact((fun _ _ _ _ _ h=>by rw [CI] at h; cases h))
 | succ n ih=>
  have ih0:=ih
  ·intro u w y z1 r h
   rw [CI] at h
   refine Bo rfl rfl (Z ?_)
   refine AY (Z ?_)
   refine AD h (fun h=>Z ?_) (fun h=>Z ?_)
   ·refine AF ?_
    replace h:=AB h; obtain⟨q,g,h⟩:=h
    refine AL g rfl (Z ?_)
    replace h:=AB h; obtain⟨j,k,h⟩:=h
    refine AW (AM g) (Z ?_)
    refine AT (List.map AJ j) (by rw [← AN k]; simp only [List.map_set,go_sem,slD]) (Z ?_)
    refine AF ?_
    exact lpG (ih0 j (IntKind.i64.wrap (w+1)) (IntKind.i64.wrap (y+1)) z1 _ h) [(1,1)] []
   ·refine AF ?_
    cases h
    refine Cc (.done _) [(1,1)] [] ?_
    simp only [go_sem]
theorem Cz (a0 a1) (z1:Option Nat) (r) (h:Bp a0 a1=some r):AG Tryz.prog 15 [.own 1,.int .i64 a1] [(1,⟨List.map AJ a0,z1,0,.no⟩)] [] (.int .i64 r.1) [(1,⟨List.map AJ r.2,z1,0,.no⟩)] [] :=by
 unfold Bp at h
 refine agF Tryz.func15 mixed (h:=Z ?_)
 exact loG (L7 fuel a0 a1 0 z1 _ h) [(1,1)] []
theorem L8 (n:Nat):(∀a0 u w r,CJ n a0 u w=some r→Ax Tryz.prog Tryz.f95 [1,0,1,0] (.int .i64 r) ⟨[(0,.ro (List.map AJ a0)),(1,.int .i64 u),(5,.int .i64 w)],[],[]⟩):=by
 induction n with
 |zero=>exact((fun _ _ _ _ h=>by rw [CJ] at h; cases h))
 | succ n ih=>
  have ih0:=ih
  ·intro a0 u w r h
   rw [CJ] at h
   refine AS rfl rfl (Z ?_)
   refine AY (Z ?_)
   refine AD h (fun h=>Z ?_) (fun h=>Z ?_)
   ·refine AF ?_
    replace h:=AB h; obtain⟨y,q,h⟩:=h
    refine AL q rfl (Z ?_)
    refine AD h (fun h=>Z ?_) (fun h=>Z ?_)
    ·cases h
     simp only [go_sem]
    ·refine AF ?_
     refine AF ?_
     exact lpF (ih0 a0 (IntKind.i64.wrap (u+1)) (IntKind.i64.wrap (w+1)) _ h) [] []
   ·refine AF ?_
    cases h
    simp only [go_sem]
theorem Ec (a0 a1 r) (h:C5 a0 a1=some r):AC Tryz.prog 95 [.ro (List.map AJ a0),.int .i64 a1] (.int .i64 r):=by
 unfold C5 at h
 refine acF Tryz.func95 mixed (h:=Z ?_)
 exact loF (L8 fuel a0 a1 0 _ h) [] []
end Go.Proofs.YtclmbjbbojdojaaGreat.Ab
