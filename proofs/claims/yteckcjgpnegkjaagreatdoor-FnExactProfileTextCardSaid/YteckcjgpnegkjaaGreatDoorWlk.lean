/-
 The functions do what their models say. Printed by wip/ab/gen.py.
-/
import Derived.Test.YteckcjgpnegkjaaGreatDoorMod
import Derived.Test.YteckcjgpnegkjaaGreatDoorTi2
namespace Go.Proofs.YteckcjgpnegkjaaGreatDoor.Ab
set_option linter.unusedVariables false
set_option linter.unusedSimpArgs false
set_option maxRecDepth 20000
set_option maxHeartbeats 4000000
open Go.RowKit
theorem Ry (a0 a1 r) (h:IT a0 a1=some r):AC Tryz.prog 101 [.ro (a0.map AS),.int .i64 a1] (.int .i64 r):=by
 unfold IT at h
 refine acF Tryz.func101 mixed (h:=Z ?_)
 refine AD h (fun h=>Z ?_) (fun h=>Z ?_)
 ·cases h
  simp only [go_sem]
 ·refine AF ?_
  cases h
  simp only [go_sem]
theorem O2 (n:Nat):(∀a0 u w r,C8 n a0 u w=some r→Aq Tryz.prog Tryz.f10 [1,1,0,1,0] (.ow (some 1) (r.map AS)) ⟨[(0,.ro (a0.map AS)),(3,.own 1000001000),(4,.int .i64 w)],[(1000001000,some ⟨List.map AS u,some 1,0,false⟩)],[]⟩):=by
 induction n with
 |zero=>exact((fun _ _ _ _ h=>by rw [C8] at h; cases h))
 | succ n ih=>
  have ih0:=ih
  ·intro a0 u w r h
   rw [C8] at h
   refine AO rfl rfl (Z ?_)
   refine AZ (Z ?_)
   refine AD h (fun h=>Z ?_) (fun h=>Z ?_)
   ·refine AF ?_
    replace h:=AB h; obtain⟨y,q,h⟩:=h
    refine AM q rfl (Z ?_)
    replace h:=AB h; obtain⟨g,j,h⟩:=h
    refine AM j rfl (Z ?_)
    replace h:=AB h; obtain⟨k,b,h⟩:=h
    refine Ac (AX j) (Z ?_)
    refine A6 (k.map AS) (by rw [← BW b]; simp only [List.map_set,go_sem,slD]) (Z ?_)
    refine AF ?_
    exact lpF (ih0 a0 k (IntKind.i64.wrap (w+1)) _ h) [(1000001000,1000001000)] []
   ·refine AF ?_
    cases h
    simp only [go_sem]
theorem Rz (a0 r) (h:IU a0=some r):AC Tryz.prog 10 [.ro (a0.map AS)] (.ow (some 1) (r.map AS)):=by
 unfold IU at h
 refine acF Tryz.func10 mixed (h:=Z ?_)
 replace h:=AB h; obtain⟨u,w,h⟩:=h
 have hq_:=Fc w
 obtain⟨hv2002a,hv2002b,hv2002c⟩:=hq_
 refine Al (by refine⟨?_,?_,?_⟩ <;> omega) (Z ?_)
 refine A6 (u.map AS) (by rw [← hv2002c]; simp only [List.map_replicate,go_sem,slD]) (Z ?_)
 refine AF ?_
 exact loF (O2 fuel a0 u 0 _ h) [(1000001000,32032)] []
theorem O3 (n:Nat):(∀a0 a1 u r,Dp n a0 a1 u=some r→Aq Tryz.prog Tryz.f12 [1,1,0,1,0] (.bool r) ⟨[(0,.ro (a0.map AS)),(1,.ro (a1.map AS)),(5,.int .i64 u)],[],[]⟩):=by
 induction n with
 |zero=>exact((fun _ _ _ _ h=>by rw [Dp] at h; cases h))
 | succ n ih=>
  have ih0:=ih
  ·intro a0 a1 u r h
   rw [Dp] at h
   refine AO rfl rfl (Z ?_)
   refine AZ (Z ?_)
   refine AD h (fun h=>Z ?_) (fun h=>Z ?_)
   ·refine AF ?_
    refine Aa [] .fin (by kernel_rfl) (Z ?_)
    replace h:=AB h; obtain⟨w,y,h⟩:=h
    refine AM y rfl (Z ?_)
    replace h:=AB h; obtain⟨q,g,h⟩:=h
    refine AM g rfl (Z ?_)
    refine AF ?_
    refine AD h (fun h=>Z ?_) (fun h=>Z ?_)
    ·cases h
     simp only [go_sem]
    ·refine AF ?_
     exact lpF (ih0 a0 a1 (IntKind.i64.wrap (u+1)) _ h) [] []
   ·refine AF ?_
    cases h
    simp only [go_sem]
theorem R0 (a0 a1 r) (h:IV a0 a1=some r):AC Tryz.prog 12 [.ro (a0.map AS),.ro (a1.map AS)] (.bool r):=by
 unfold IV at h
 refine acF Tryz.func12 mixed (h:=Z ?_)
 refine AD h (fun h=>Z ?_) (fun h=>Z ?_)
 ·cases h
  simp only [go_sem]
 ·refine AF ?_
  exact loF (O3 fuel a0 a1 0 _ h) [] []
end Go.Proofs.YteckcjgpnegkjaaGreatDoor.Ab
