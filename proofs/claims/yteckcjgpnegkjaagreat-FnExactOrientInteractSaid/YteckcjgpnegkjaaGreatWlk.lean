/-
 The functions do what their models say. Printed by wip/ab/gen.py.
-/
import Derived.Test.YteckcjgpnegkjaaGreatMod
import Derived.Test.YteckcjgpnegkjaaGreatTi2
namespace Go.Proofs.YteckcjgpnegkjaaGreat.Ab
set_option linter.unusedVariables false
set_option linter.unusedSimpArgs false
set_option maxRecDepth 20000
set_option maxHeartbeats 4000000
open Go.RowKit
theorem TO (a0 a1 r) (h:JS a0 a1=some r):AC Tryz.prog 85 [.ro (a0.map Ar),.int .i64 a1] (.int .i64 r):=by
 unfold JS at h
 refine acF Tryz.func85 mixed (h:=Z ?_)
 refine AB h (fun h=>Z ?_) (fun h=>Z ?_)
 ·cases h
  simp only [go_sem]
 ·refine AF ?_
  cases h
  simp only [go_sem]
theorem QH (n:Nat):(∀a0 u w r,Dd n a0 u w=some r→Af Tryz.prog Tryz.f101 [1,1,0,1,0] (.ow (some 1) (r.map Ar)) ⟨[(0,.ro (a0.map Ar)),(3,.own 1000001000),(4,.int .i64 w)],[(1000001000,some ⟨List.map Ar u,some 1,0,false⟩)],[]⟩):=by
 induction n with
 |zero=>exact((fun _ _ _ _ h=>by rw [Dd] at h; cases h))
 | succ n ih=>
  have ih0:=ih
  ·intro a0 u w r h
   rw [Dd] at h
   refine AN rfl rfl (Z ?_)
   refine AY (Z ?_)
   refine AB h (fun h=>Z ?_) (fun h=>Z ?_)
   ·refine AF ?_
    replace h:=AD h; obtain⟨y,q,h⟩:=h
    refine AL q rfl (Z ?_)
    replace h:=AD h; obtain⟨g,j,h⟩:=h
    refine AL j rfl (Z ?_)
    replace h:=AD h; obtain⟨k,b,h⟩:=h
    refine Aa (AS j) (Z ?_)
    refine Ag (k.map Ar) (by rw [← Ai b]; simp only [List.map_set,go_sem,slD]) (Z ?_)
    refine AF ?_
    exact lpF (ih0 a0 k (IntKind.i64.wrap (w+1)) _ h) [(1000001000,1000001000)] []
   ·refine AF ?_
    cases h
    simp only [go_sem]
theorem TP (a0 r) (h:JT a0=some r):AC Tryz.prog 101 [.ro (a0.map Ar)] (.ow (some 1) (r.map Ar)):=by
 unfold JT at h
 refine acF Tryz.func101 mixed (h:=Z ?_)
 replace h:=AD h; obtain⟨u,w,h⟩:=h
 have hq_:=G8 w
 obtain⟨hv2002a,hv2002b,hv2002c⟩:=hq_
 refine Al (by refine⟨?_,?_,?_⟩ <;> omega) (Z ?_)
 refine Ag (u.map Ar) (by rw [← hv2002c]; simp only [List.map_replicate,go_sem,slD]) (Z ?_)
 refine AF ?_
 exact loF (QH fuel a0 u 0 _ h) [(1000001000,32032)] []
theorem QI (n:Nat):(∀a0 a1 u r,EK n a0 a1 u=some r→Af Tryz.prog Tryz.f124 [1,1,0,1,0] (.bool r) ⟨[(0,.ro (a0.map Ar)),(1,.ro (a1.map Ar)),(5,.int .i64 u)],[],[]⟩):=by
 induction n with
 |zero=>exact((fun _ _ _ _ h=>by rw [EK] at h; cases h))
 | succ n ih=>
  have ih0:=ih
  ·intro a0 a1 u r h
   rw [EK] at h
   refine AN rfl rfl (Z ?_)
   refine AY (Z ?_)
   refine AB h (fun h=>Z ?_) (fun h=>Z ?_)
   ·refine AF ?_
    refine AX [] .fin (by kernel_rfl) (Z ?_)
    replace h:=AD h; obtain⟨w,y,h⟩:=h
    refine AL y rfl (Z ?_)
    replace h:=AD h; obtain⟨q,g,h⟩:=h
    refine AL g rfl (Z ?_)
    refine AF ?_
    refine AB h (fun h=>Z ?_) (fun h=>Z ?_)
    ·cases h
     simp only [go_sem]
    ·refine AF ?_
     exact lpF (ih0 a0 a1 (IntKind.i64.wrap (u+1)) _ h) [] []
   ·refine AF ?_
    cases h
    simp only [go_sem]
theorem TQ (a0 a1 r) (h:JU a0 a1=some r):AC Tryz.prog 124 [.ro (a0.map Ar),.ro (a1.map Ar)] (.bool r):=by
 unfold JU at h
 refine acF Tryz.func124 mixed (h:=Z ?_)
 refine AB h (fun h=>Z ?_) (fun h=>Z ?_)
 ·cases h
  simp only [go_sem]
 ·refine AF ?_
  exact loF (QI fuel a0 a1 0 _ h) [] []
theorem OV (n:Nat):(∀u w y (z1:Option Nat) r,Ch n u w y=some r→DB Tryz.prog Tryz.f83 [1,0,1,0] (.int .i64 r.1) [(1,⟨List.map Ar r.2,z1,0,false⟩)] [] ⟨[(0,.own 1),(1,.int .i64 w),(5,.int .i64 y)],[(1,some ⟨List.map Ar u,z1,0,false⟩)],[]⟩):=by
 induction n with
 |zero=>exact((fun _ _ _ _ _ h=>by rw [Ch] at h; cases h))
 | succ n ih=>
  have ih0:=ih
  ·intro u w y z1 r h
   rw [Ch] at h
   refine Aq rfl rfl (Z ?_)
   refine AY (Z ?_)
   refine AB h (fun h=>Z ?_) (fun h=>Z ?_)
   ·refine AF ?_
    replace h:=AD h; obtain⟨q,g,h⟩:=h
    refine AL g rfl (Z ?_)
    replace h:=AD h; obtain⟨j,k,h⟩:=h
    refine Aa (AS g) (Z ?_)
    refine Ag (j.map Ar) (by rw [← Ai k]; simp only [List.map_set,go_sem,slD]) (Z ?_)
    refine AF ?_
    exact lpG (ih0 j (IntKind.i64.wrap (w+1)) (IntKind.i64.wrap (y+1)) z1 _ h) [(1,1)] []
   ·refine AF ?_
    cases h
    refine BJ (.done _) [(1,1)] [] ?_
    simp only [go_sem]
theorem Qw (a0 a1) (z1:Option Nat) (r) (h:HA a0 a1=some r):AG Tryz.prog 83 [.own 1,.int .i64 a1] [(1,⟨List.map Ar a0,z1,0,false⟩)] [] (.int .i64 r.1) [(1,⟨List.map Ar r.2,z1,0,false⟩)] [] :=by
 unfold HA at h
 refine agF Tryz.func83 mixed (h:=Z ?_)
 exact loG (OV fuel a0 a1 0 z1 _ h) [(1,1)] []
end Go.Proofs.YteckcjgpnegkjaaGreat.Ab
