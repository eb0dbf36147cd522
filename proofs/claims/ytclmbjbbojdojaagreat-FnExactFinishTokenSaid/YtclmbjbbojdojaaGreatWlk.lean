/-
 The functions do what their models say. Printed by wip/ab/gen.py.
-/
import Derived.Test.YtclmbjbbojdojaaGreatMod
import Derived.Test.YtclmbjbbojdojaaGreatTi2
namespace Go.Proofs.YtclmbjbbojdojaaGreat.Ab
set_option linter.unusedVariables false
set_option linter.unusedSimpArgs false
set_option maxRecDepth 20000
set_option maxHeartbeats 4000000
open Go.RowKit
theorem LC (a0 a1 r) (h:Ft a0 a1=some r):AC Tryz.prog 100 [.ro (a0.map AB),.int .i64 a1] (.int .i64 r):=by
 unfold Ft at h
 refine acF Tryz.func100 mixed (h:=Z ?_)
 exact AF trivial h
theorem R1 (n:Nat):(∀a0 u w r,EH n a0 u w=some r→Aa Tryz.prog Tryz.f9 [1,1,0,1,0] (.ow (some 1) (r.map AB)) ⟨[(0,.ro (a0.map AB)),(3,.own 1000001000),(4,.int .i64 w)],[(1000001000,some ⟨List.map AB u,some 1,0,.no⟩)],[]⟩):=by
 induction n with
 |zero=>exact((fun _ _ _ _ h=>by rw [EH] at h; cases h))
 | succ n ih=>
  have ih0:=ih
  ·intro a0 u w r h
   rw [EH] at h
   refine Ah rfl rfl (Z ?_)
   refine Ae (Z ?_)
   refine AJ h (fun h=>Z ?_) (fun h=>Z ?_)
   ·refine AW ?_
    replace h:=AD h; obtain⟨y,q,h⟩:=h
    refine AO q rfl (Z ?_)
    replace h:=AD h; obtain⟨g,j,h⟩:=h
    refine AO j rfl (Z ?_)
    replace h:=AD h; obtain⟨k,b,h⟩:=h
    refine Ai (AU j) (Z ?_)
    refine AP (k.map AB) (by rw [← AL b]; simp only [List.map_set,go_sem,slD]) (Z ?_)
    exact AF (k1 ih0) h
   ·exact AF trivial h
theorem LD (a0 r) (h:Fu a0=some r):AC Tryz.prog 9 [.ro (a0.map AB)] (.ow (some 1) (r.map AB)):=by
 unfold Fu at h
 refine acF Tryz.func9 mixed (h:=Z ?_)
 replace h:=AD h; obtain⟨u,w,h⟩:=h
 have hq_:=D6 w
 obtain⟨hv2002a,hv2002b,hv2002c⟩:=hq_
 refine Ad (by refine⟨?_,?_,?_⟩ <;> omega) (Z ?_)
 refine BW .no (Z ?_)
 refine AP (u.map AB) (by rw [← hv2002c]; simp only [List.map_replicate,go_sem,slD]) (Z ?_)
 exact AF (k1 R1) h
theorem R3 (n:Nat):(∀a0 a1 u r,FD n a0 a1 u=some r→Aa Tryz.prog Tryz.f13 [1,1,0,1,0] (.bool r) ⟨[(0,.ro (a0.map AB)),(1,.ro (a1.map AB)),(5,.int .i64 u)],[],[]⟩):=by
 induction n with
 |zero=>exact((fun _ _ _ _ h=>by rw [FD] at h; cases h))
 | succ n ih=>
  have ih0:=ih
  ·intro a0 a1 u r h
   rw [FD] at h
   exact AF (k1 ih0) h
theorem LG (a0 a1 r) (h:Fv a0 a1=some r):AC Tryz.prog 13 [.ro (a0.map AB),.ro (a1.map AB)] (.bool r):=by
 unfold Fv at h
 refine acF Tryz.func13 mixed (h:=Z ?_)
 exact AF (k1 R3) h
theorem PP (n:Nat):(∀u w y (z1:Option Nat) r,C3 n u w y=some r→Dl Tryz.prog Tryz.f15 [1,0,1,0] (.int .i64 r.1) [(1,⟨List.map AB r.2,z1,0,.no⟩)] [] ⟨[(0,.own 1),(1,.int .i64 w),(5,.int .i64 y)],[(1,some ⟨List.map AB u,z1,0,.no⟩)],[]⟩):=by
 induction n with
 |zero=>exact((fun _ _ _ _ _ h=>by rw [C3] at h; cases h))
 | succ n ih=>
  have ih0:=ih
  ·intro u w y z1 r h
   rw [C3] at h
   refine BO rfl rfl (Z ?_)
   refine Ae (Z ?_)
   refine AJ h (fun h=>Z ?_) (fun h=>Z ?_)
   ·refine AW ?_
    replace h:=AD h; obtain⟨q,g,h⟩:=h
    refine AO g rfl (Z ?_)
    replace h:=AD h; obtain⟨j,k,h⟩:=h
    refine Ai (AU g) (Z ?_)
    refine AP (j.map AB) (by rw [← AL k]; simp only [List.map_set,go_sem,slD]) (Z ?_)
    refine AW ?_
    exact Um (ih0 j (IntKind.i64.wrap (w+1)) (IntKind.i64.wrap (y+1)) z1 _ h)
   ·exact AF trivial h
theorem GL (a0 a1) (z1:Option Nat) (r) (h:D8 a0 a1=some r):AG Tryz.prog 15 [.own 1,.int .i64 a1] [(1,⟨List.map AB a0,z1,0,.no⟩)] [] (.int .i64 r.1) [(1,⟨List.map AB r.2,z1,0,.no⟩)] [] :=by
 unfold D8 at h
 refine agF Tryz.func15 mixed (h:=Z ?_)
 exact Sw (PP fuel a0 a1 0 z1 _ h)
theorem PQ (n:Nat):(∀a0 u w r,C4 n a0 u w=some r→Aa Tryz.prog Tryz.f95 [1,0,1,0] (.int .i64 r) ⟨[(0,.ro (a0.map AB)),(1,.int .i64 u),(5,.int .i64 w)],[],[]⟩):=by
 induction n with
 |zero=>exact((fun _ _ _ _ h=>by rw [C4] at h; cases h))
 | succ n ih=>
  have ih0:=ih
  ·intro a0 u w r h
   rw [C4] at h
   exact AF (k1 ih0) h
theorem Ha (a0 a1 r) (h:D9 a0 a1=some r):AC Tryz.prog 95 [.ro (a0.map AB),.int .i64 a1] (.int .i64 r):=by
 unfold D9 at h
 refine acF Tryz.func95 mixed (h:=Z ?_)
 exact AF (k1 PQ) h
end Go.Proofs.YtclmbjbbojdojaaGreat.Ab
