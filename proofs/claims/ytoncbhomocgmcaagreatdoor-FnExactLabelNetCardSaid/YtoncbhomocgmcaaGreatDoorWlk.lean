/-
 The functions do what their models say. Printed by wip/ab/gen.py.
-/
import Derived.Test.YtoncbhomocgmcaaGreatDoorMod
import Derived.Test.YtoncbhomocgmcaaGreatDoorTi2
namespace Go.Proofs.YtoncbhomocgmcaaGreatDoor.Ab
set_option linter.unusedVariables false
set_option linter.unusedSimpArgs false
set_option maxRecDepth 20000
set_option maxHeartbeats 4000000
open Go.RowKit
theorem Ot (a0 a1 r) (h:F5 a0 a1=some r):AC Tryz.prog 47 [.ro (a0.map AB),.int .i64 a1] (.int .i64 r):=by
 unfold F5 at h
 refine acF Tryz.func47 mixed (h:=Z ?_)
 exact AI trivial h
theorem Lo (n:Nat):(∀a0 u w r,CM n a0 u w=some r→BE Tryz.prog Tryz.f52 [1,1,0,1,0] (.ow (some 1) (r.map AB)) ⟨[(0,.ro (a0.map AB)),(3,.own 1000001000),(4,.int .i64 w)],[(1000001000,some ⟨List.map AB u,some 1,0,.no⟩)],[]⟩):=by
 induction n with
 |zero=>exact((fun _ _ _ _ h=>by rw [CM] at h; cases h))
 | succ n ih=>
  have ih0:=ih
  ·intro a0 u w r h
   rw [CM] at h
   refine Bn rfl rfl (Z ?_)
   refine Bw (Z ?_)
   refine AO h (fun h=>Z ?_) (fun h=>Z ?_)
   ·refine AS ?_
    replace h:=AJ h; obtain⟨y,q,h⟩:=h
    refine Aq q rfl (Z ?_)
    replace h:=AJ h; obtain⟨g,j,h⟩:=h
    refine Aq j rfl (Z ?_)
    replace h:=AJ h; obtain⟨k,b,h⟩:=h
    refine BN (A8 j) (Z ?_)
    refine AN (k.map AB) (by rw [← BG b]; simp only [List.map_set,go_sem,slD]) (Z ?_)
    exact AI (k1 ih0) h
   ·exact AI trivial h
theorem Ou (a0 r) (h:F6 a0=some r):AC Tryz.prog 52 [.ro (a0.map AB)] (.ow (some 1) (r.map AB)):=by
 unfold F6 at h
 refine acF Tryz.func52 mixed (h:=Z ?_)
 replace h:=AJ h; obtain⟨u,w,h⟩:=h
 have hq_:=Kw w
 obtain⟨hv2002a,hv2002b,hv2002c⟩:=hq_
 refine AK (by refine⟨?_,?_,?_⟩ <;> omega) (Z ?_)
 refine AP .no (Z ?_)
 refine AN (u.map AB) (by rw [← hv2002c]; simp only [List.map_replicate,go_sem,slD]) (Z ?_)
 exact AI (k1 Lo) h
theorem Lp (n:Nat):(∀a0 a1 u r,BZ n a0 a1 u=some r→BE Tryz.prog Tryz.f38 [1,1,0,1,0] (.bool r) ⟨[(0,.ro (a0.map AB)),(1,.ro (a1.map AB)),(5,.int .i64 u)],[],[]⟩):=by
 induction n with
 |zero=>exact((fun _ _ _ _ h=>by rw [BZ] at h; cases h))
 | succ n ih=>
  have ih0:=ih
  ·intro a0 a1 u r h
   rw [BZ] at h
   exact AI (k1 ih0) h
theorem JV (a0 a1 r) (h:Dm a0 a1=some r):AC Tryz.prog 38 [.ro (a0.map AB),.ro (a1.map AB)] (.bool r):=by
 unfold Dm at h
 refine acF Tryz.func38 mixed (h:=Z ?_)
 exact AI (k1 Lp) h
theorem J4 (n:Nat):(∀u w y (z1:Option Nat) r,Be n u w y=some r→CF Tryz.prog Tryz.f41 [1,0,1,0] (.int .i64 r.1) [(1,⟨List.map AB r.2,z1,0,.no⟩)] [] ⟨[(0,.own 1),(1,.int .i64 w),(5,.int .i64 y)],[(1,some ⟨List.map AB u,z1,0,.no⟩)],[]⟩):=by
 induction n with
 |zero=>exact((fun _ _ _ _ _ h=>by rw [Be] at h; cases h))
 | succ n ih=>
  have ih0:=ih
  ·intro u w y z1 r h
   rw [Be] at h
   refine Aj rfl rfl (Z ?_)
   refine Bw (Z ?_)
   refine AO h (fun h=>Z ?_) (fun h=>Z ?_)
   ·refine AS ?_
    replace h:=AJ h; obtain⟨q,g,h⟩:=h
    refine Aq g rfl (Z ?_)
    replace h:=AJ h; obtain⟨j,k,h⟩:=h
    refine BN (A8 g) (Z ?_)
    refine AN (j.map AB) (by rw [← BG k]; simp only [List.map_set,go_sem,slD]) (Z ?_)
    refine AS ?_
    exact V8 (ih0 j (IntKind.i64.wrap (w+1)) (IntKind.i64.wrap (y+1)) z1 _ h)
   ·exact AI trivial h
theorem FO (a0 a1) (z1:Option Nat) (r) (h:DG a0 a1=some r):AG Tryz.prog 41 [.own 1,.int .i64 a1] [(1,⟨List.map AB a0,z1,0,.no⟩)] [] (.int .i64 r.1) [(1,⟨List.map AB r.2,z1,0,.no⟩)] [] :=by
 unfold DG at h
 refine agF Tryz.func41 mixed (h:=Z ?_)
 exact SI (J4 fuel a0 a1 0 z1 _ h)
theorem J5 (n:Nat):(∀a0 u w r,Bf n a0 u w=some r→BE Tryz.prog Tryz.f45 [1,0,1,0] (.int .i64 r) ⟨[(0,.ro (a0.map AB)),(1,.int .i64 u),(5,.int .i64 w)],[],[]⟩):=by
 induction n with
 |zero=>exact((fun _ _ _ _ h=>by rw [Bf] at h; cases h))
 | succ n ih=>
  have ih0:=ih
  ·intro a0 u w r h
   rw [Bf] at h
   exact AI (k1 ih0) h
theorem Hx (a0 a1 r) (h:Du a0 a1=some r):AC Tryz.prog 45 [.ro (a0.map AB),.int .i64 a1] (.int .i64 r):=by
 unfold Du at h
 refine acF Tryz.func45 mixed (h:=Z ?_)
 exact AI (k1 J5) h
end Go.Proofs.YtoncbhomocgmcaaGreatDoor.Ab
