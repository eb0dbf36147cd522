/- The functions do what their models say. -/
import Derived.Test.YtjnifengdhcojaaGreatDoorMod
import Derived.Test.YtjnifengdhcojaaGreatDoorTi2
namespace Go.Proofs.YtjnifengdhcojaaGreatDoor.Ab
set_option linter.unusedVariables false
set_option linter.unusedSimpArgs false
set_option maxRecDepth 20000
set_option maxHeartbeats 4000000
open Go.RowKit _root_.Go.Proofs.Tryz
theorem Ny (a0 a1 r) (h:Hr a0 a1=some r):AC prog 112 [.ro (a0.map AD),.int .i64 a1] (.int .i64 r):=by
 unfold Hr at h
 refine acF func112 mixed (h:=Z ?_)
 exact AF trivial h
theorem RM (n:Nat):(∀p u w r,C8 n p u w=some r→AR prog f10 [1,1,0,1,0] (.ow (some 1) (r.map AD)) ⟨[(0,.ro (p.map AD)),(3,.own 1000001000),(4,.int .i64 w)],[(1000001000,some ⟨List.map AD u,some 1,0,.no⟩)],[]⟩):=by
 induction n with
 |zero=>exact((fun _ _ _ _ h=>by rw [C8] at h; cases h))
 | succ n ih=>
  have v:=ih
  ·intro p u w r h
   rw [C8] at h
   refine Am rfl rfl (Z ?_)
   refine A5 (Z ?_)
   refine AJ h (fun h=>Z ?_) (fun h=>Z ?_)
   ·refine AL ?_
    replace h:=AB h; obtain⟨y,q,h⟩:=h
    refine AS q rfl (Z ?_)
    replace h:=AB h; obtain⟨g,j,h⟩:=h
    refine AS j rfl (Z ?_)
    replace h:=AB h; obtain⟨k,b,h⟩:=h
    refine CM (Bq j) (Z ?_)
    refine A4 (k.map AD) (by rw [← BE b]; simp only [List.map_set,go_sem,slD]) (Z ?_)
    exact AF (k1 v) h
   ·exact AF trivial h
theorem Nz (a0 r) (h:Hs a0=some r):AC prog 10 [.ro (a0.map AD)] (.ow (some 1) (r.map AD)):=by
 unfold Hs at h
 refine acF func10 mixed (h:=Z ?_)
 replace h:=AB h; obtain⟨u,w,h⟩:=h
 have v:=Mg w
 obtain⟨q,p,j⟩:=v
 refine Bu (by refine⟨?_,?_,?_⟩ <;> omega) (Z ?_)
 refine Bp .no (Z ?_)
 refine A4 (u.map AD) (by rw [← j]; simp only [List.map_replicate,go_sem,slD]) (Z ?_)
 exact AF (k1 RM) h
theorem RN (n:Nat):(∀j p u r,B3 n j p u=some r→AR prog f12 [1,1,0,1,0] (.bool r) ⟨[(0,.ro (j.map AD)),(1,.ro (p.map AD)),(5,.int .i64 u)],[],[]⟩):=by
 induction n with
 |zero=>exact((fun _ _ _ _ h=>by rw [B3] at h; cases h))
 | succ n ih=>
  have q:=ih
  ·intro j p u r h
   rw [B3] at h
   exact AF (k1 q) h
theorem N0 (a0 a1 r) (h:Fl a0 a1=some r):AC prog 12 [.ro (a0.map AD),.ro (a1.map AD)] (.bool r):=by
 unfold Fl at h
 refine acF func12 mixed (h:=Z ?_)
 exact AF (k1 RN) h
theorem Og (n:Nat):(∀u w y (p:Option Nat) r,CC n u w y=some r→B2 prog f17 [1,0,1,0] (.int .i64 r.1) [(1,⟨List.map AD r.2,p,0,.no⟩)] [] ⟨[(0,.own 1),(1,.int .i64 w),(5,.int .i64 y)],[(1,some ⟨List.map AD u,p,0,.no⟩)],[]⟩):=by
 induction n with
 |zero=>exact((fun _ _ _ _ _ h=>by rw [CC] at h; cases h))
 | succ n ih=>
  have v:=ih
  ·intro u w y p r h
   rw [CC] at h
   refine Ae rfl rfl (Z ?_)
   refine A5 (Z ?_)
   refine AJ h (fun h=>Z ?_) (fun h=>Z ?_)
   ·refine AL ?_
    replace h:=AB h; obtain⟨q,g,h⟩:=h
    refine AS g rfl (Z ?_)
    replace h:=AB h; obtain⟨j,k,h⟩:=h
    refine CM (Bq g) (Z ?_)
    refine A4 (j.map AD) (by rw [← BE k]; simp only [List.map_set,go_sem,slD]) (Z ?_)
    refine AL ?_
    exact jN (v j (IntKind.i64.wrap (w+1)) (IntKind.i64.wrap (y+1)) p _ h)
   ·exact AF trivial h
theorem Ic (a0 a1) (z1:Option Nat) (r) (h:Eu a0 a1=some r):AG prog 17 [.own 1,.int .i64 a1] [(1,⟨List.map AD a0,z1,0,.no⟩)] [] (.int .i64 r.1) [(1,⟨List.map AD r.2,z1,0,.no⟩)] [] :=by
 unfold Eu at h
 refine agF func17 mixed (h:=Z ?_)
 exact bt (Og fuel a0 a1 0 z1 _ h)
theorem Oh (n:Nat):(∀j u w r,CD n j u w=some r→AR prog f18 [1,0,1,0] (.int .i64 r) ⟨[(0,.ro (j.map AD)),(1,.int .i64 u),(5,.int .i64 w)],[],[]⟩):=by
 induction n with
 |zero=>exact((fun _ _ _ _ h=>by rw [CD] at h; cases h))
 | succ n ih=>
  have p:=ih
  ·intro j u w r h
   rw [CD] at h
   exact AF (k1 p) h
theorem Lu (a0 a1 r) (h:F6 a0 a1=some r):AC prog 18 [.ro (a0.map AD),.int .i64 a1] (.int .i64 r):=by
 unfold F6 at h
 refine acF func18 mixed (h:=Z ?_)
 exact AF (k1 Oh) h
end Go.Proofs.YtjnifengdhcojaaGreatDoor.Ab
