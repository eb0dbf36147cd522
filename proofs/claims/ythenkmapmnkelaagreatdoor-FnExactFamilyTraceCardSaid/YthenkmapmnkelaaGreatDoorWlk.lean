/- The functions do what their models say. -/
import Derived.Test.YthenkmapmnkelaaGreatDoorMod
import Derived.Test.YthenkmapmnkelaaGreatDoorTi2
namespace Go.Proofs.YthenkmapmnkelaaGreatDoor.Ab
set_option linter.unusedVariables false
set_option linter.unusedSimpArgs false
set_option maxRecDepth 20000
set_option maxHeartbeats 4000000
open Go.RowKit _root_.Go.Proofs.Tryz
theorem VA (a0 a1 r) (h:JP a0 a1=some r):AC prog 78 [.ro (a0.map AD),.int .i64 a1] (.int .i64 r):=by
 unfold JP at h
 refine acF func78 mixed (h:=Z ?_)
 exact AF trivial h
theorem Q9 (n:Nat):(∀p u w r,Di n p u w=some r→Aa prog Tryz.f9 [1,1,0,1,0] (.ow (some 1) (r.map AD)) ⟨[(0,.ro (p.map AD)),(3,.own 1000001000),(4,.int .i64 w)],[(1000001000,some ⟨List.map AD u,some 1,0,.no⟩)],[]⟩):=by
 induction n with
 |zero=>exact((fun _ _ _ _ h=>by rw [Di] at h; cases h))
 | succ n ih=>
  have v:=ih
  ·intro p u w r h
   rw [Di] at h
   refine BL rfl rfl (Z ?_)
   refine Ai (Z ?_)
   refine AI h (fun h=>Z ?_) (fun h=>Z ?_)
   ·refine AK ?_
    replace h:=AB h; obtain⟨y,q,h⟩:=h
    refine AS q rfl (Z ?_)
    replace h:=AB h; obtain⟨g,j,h⟩:=h
    refine AS j rfl (Z ?_)
    replace h:=AB h; obtain⟨k,b,h⟩:=h
    refine AX (AP j) (Z ?_)
    refine Ar (k.map AD) (by rw [← Ah b]; simp only [List.map_set,go_sem,slD]) (Z ?_)
    exact AF (k1 v) h
   ·exact AF trivial h
theorem Ge (a0 r) (h:Ea a0=some r):AC prog 9 [.ro (a0.map AD)] (.ow (some 1) (r.map AD)):=by
 unfold Ea at h
 refine acF func9 mixed (h:=Z ?_)
 replace h:=AB h; obtain⟨u,w,h⟩:=h
 have v:=G7 w
 obtain⟨q,p,j⟩:=v
 refine BH (by refine⟨?_,?_,?_⟩ <;> omega) (Z ?_)
 refine BO .no (Z ?_)
 refine Ar (u.map AD) (by rw [← j]; simp only [List.map_replicate,go_sem,slD]) (Z ?_)
 exact AF (k1 Q9) h
theorem RA (n:Nat):(∀j p u r,Eb n j p u=some r→Aa prog f11 [1,1,0,1,0] (.bool r) ⟨[(0,.ro (j.map AD)),(1,.ro (p.map AD)),(5,.int .i64 u)],[],[]⟩):=by
 induction n with
 |zero=>exact((fun _ _ _ _ h=>by rw [Eb] at h; cases h))
 | succ n ih=>
  have q:=ih
  ·intro j p u r h
   rw [Eb] at h
   exact AF (k1 q) h
theorem Gf (a0 a1 r) (h:D0 a0 a1=some r):AC prog 11 [.ro (a0.map AD),.ro (a1.map AD)] (.bool r):=by
 unfold D0 at h
 refine acF func11 mixed (h:=Z ?_)
 exact AF (k1 RA) h
theorem Oj (n:Nat):(∀u w y (p:Option Nat) r,Cf n u w y=some r→BK prog f16 [1,0,1,0] (.int .i64 r.1) [(1,⟨List.map AD r.2,p,0,.no⟩)] [] ⟨[(0,.own 1),(1,.int .i64 w),(5,.int .i64 y)],[(1,some ⟨List.map AD u,p,0,.no⟩)],[]⟩):=by
 induction n with
 |zero=>exact((fun _ _ _ _ _ h=>by rw [Cf] at h; cases h))
 | succ n ih=>
  have v:=ih
  ·intro u w y p r h
   rw [Cf] at h
   refine AM rfl rfl (Z ?_)
   refine Ai (Z ?_)
   refine AI h (fun h=>Z ?_) (fun h=>Z ?_)
   ·refine AK ?_
    replace h:=AB h; obtain⟨q,g,h⟩:=h
    refine AS g rfl (Z ?_)
    replace h:=AB h; obtain⟨j,k,h⟩:=h
    refine AX (AP g) (Z ?_)
    refine Ar (j.map AD) (by rw [← Ah k]; simp only [List.map_set,go_sem,slD]) (Z ?_)
    refine AK ?_
    exact iK (v j (IntKind.i64.wrap (w+1)) (IntKind.i64.wrap (y+1)) p _ h)
   ·exact AF trivial h
theorem IZ (a0 a1) (z1:Option Nat) (r) (h:Da a0 a1=some r):AG prog 16 [.own 1,.int .i64 a1] [(1,⟨List.map AD a0,z1,0,.no⟩)] [] (.int .i64 r.1) [(1,⟨List.map AD r.2,z1,0,.no⟩)] [] :=by
 unfold Da at h
 refine agF func16 mixed (h:=Z ?_)
 exact Yq (Oj fuel a0 a1 0 z1 _ h)
theorem Ol (n:Nat):(∀j u w r,Cg n j u w=some r→Aa prog f17 [1,0,1,0] (.int .i64 r) ⟨[(0,.ro (j.map AD)),(1,.int .i64 u),(5,.int .i64 w)],[],[]⟩):=by
 induction n with
 |zero=>exact((fun _ _ _ _ h=>by rw [Cg] at h; cases h))
 | succ n ih=>
  have p:=ih
  ·intro j u w r h
   rw [Cg] at h
   exact AF (k1 p) h
theorem Ly (a0 a1 r) (h:FC a0 a1=some r):AC prog 17 [.ro (a0.map AD),.int .i64 a1] (.int .i64 r):=by
 unfold FC at h
 refine acF func17 mixed (h:=Z ?_)
 exact AF (k1 Ol) h
end Go.Proofs.YthenkmapmnkelaaGreatDoor.Ab
