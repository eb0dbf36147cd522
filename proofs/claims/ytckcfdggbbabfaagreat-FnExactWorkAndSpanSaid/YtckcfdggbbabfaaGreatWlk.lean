/-
 The functions do what their models say. Printed by wip/ab/gen.py.
-/
import Derived.Test.YtckcfdggbbabfaaGreatMod
import Derived.Test.YtckcfdggbbabfaaGreatTi2
namespace Go.Proofs.YtckcfdggbbabfaaGreat.Ab
set_option linter.unusedVariables false
set_option linter.unusedSimpArgs false
set_option maxRecDepth 20000
set_option maxHeartbeats 4000000
open Go.RowKit
theorem Sf (a0 a1 r) (h:I7 a0 a1=some r):AC Tryz.prog 174 [.ro (List.map AO a0),.int .i64 a1] (.int .i64 r):=by
 unfold I7 at h
 refine acF Tryz.func174 mixed (h:=Z ?_)
 refine AD h (fun h=>Z ?_) (fun h=>Z ?_)
 ·cases h
  simp only [go_sem]
 ·refine AF ?_
  cases h
  simp only [go_sem]
theorem Pi (n:Nat):(∀a0 u w r,DT n a0 u w=some r→Al Tryz.prog Tryz.f19 [1,1,0,1,0] (.ow (some 1) (List.map AO r)) ⟨[(0,.ro (List.map AO a0)),(3,.own 1000001000),(4,.int .i64 w)],[(1000001000,some ⟨List.map AO u,some 1,0,false⟩)],[]⟩):=by
 induction n with
 |zero=>exact((fun _ _ _ _ h=>by rw [DT] at h; cases h))
 | succ n ih=>
  have ih0:=ih
  ·intro a0 u w r h
   rw [DT] at h
   refine AN rfl rfl (Z ?_)
   refine AX (Z ?_)
   refine AD h (fun h=>Z ?_) (fun h=>Z ?_)
   ·refine AF ?_
    replace h:=AB h; obtain⟨y,q,h⟩:=h
    refine AM q rfl (Z ?_)
    replace h:=AB h; obtain⟨g,j,h⟩:=h
    refine AM j rfl (Z ?_)
    replace h:=AB h; obtain⟨k,b,h⟩:=h
    refine AZ (AP j) (Z ?_)
    refine An (List.map AO k) (by rw [← Ao b]; simp only [List.map_set,go_sem,slD]) (Z ?_)
    refine AF ?_
    exact lpF (ih0 a0 k (IntKind.i64.wrap (w+1)) _ h) [(1000001000,1000001000)] []
   ·refine AF ?_
    cases h
    simp only [go_sem]
theorem Sg (a0 r) (h:I8 a0=some r):AC Tryz.prog 19 [.ro (List.map AO a0)] (.ow (some 1) (List.map AO r)):=by
 unfold I8 at h
 refine acF Tryz.func19 mixed (h:=Z ?_)
 replace h:=AB h; obtain⟨u,w,h⟩:=h
 have hq_:=Gz w
 obtain⟨hv2002a,hv2002b,hv2002c⟩:=hq_
 refine BC (by refine⟨?_,?_,?_⟩ <;> omega) (Z ?_)
 refine An (List.map AO u) (by rw [← hv2002c]; simp only [List.map_replicate,go_sem,slD]) (Z ?_)
 refine AF ?_
 exact loF (Pi fuel a0 u 0 _ h) [(1000001000,32032)] []
theorem Pj (n:Nat):(∀a0 a1 u r,EI n a0 a1 u=some r→Al Tryz.prog Tryz.f24 [1,1,0,1,0] (.bool r) ⟨[(0,.ro (List.map AO a0)),(1,.ro (List.map AO a1)),(5,.int .i64 u)],[],[]⟩):=by
 induction n with
 |zero=>exact((fun _ _ _ _ h=>by rw [EI] at h; cases h))
 | succ n ih=>
  have ih0:=ih
  ·intro a0 a1 u r h
   rw [EI] at h
   refine AN rfl rfl (Z ?_)
   refine AX (Z ?_)
   refine AD h (fun h=>Z ?_) (fun h=>Z ?_)
   ·refine AF ?_
    refine AY [] .fin (by kernel_rfl) (Z ?_)
    replace h:=AB h; obtain⟨w,y,h⟩:=h
    refine AM y rfl (Z ?_)
    replace h:=AB h; obtain⟨q,g,h⟩:=h
    refine AM g rfl (Z ?_)
    refine AF ?_
    refine AD h (fun h=>Z ?_) (fun h=>Z ?_)
    ·cases h
     simp only [go_sem]
    ·refine AF ?_
     exact lpF (ih0 a0 a1 (IntKind.i64.wrap (u+1)) _ h) [] []
   ·refine AF ?_
    cases h
    simp only [go_sem]
theorem GK (a0 a1 r) (h:Dk a0 a1=some r):AC Tryz.prog 24 [.ro (List.map AO a0),.ro (List.map AO a1)] (.bool r):=by
 unfold Dk at h
 refine acF Tryz.func24 mixed (h:=Z ?_)
 refine AD h (fun h=>Z ?_) (fun h=>Z ?_)
 ·cases h
  simp only [go_sem]
 ·refine AF ?_
  exact loF (Pj fuel a0 a1 0 _ h) [] []
theorem Nt (n:Nat):(∀u w y (z1:Option Nat) r,CY n u w y=some r→DA Tryz.prog Tryz.f28 [1,0,1,0] (.int .i64 r.1) [(1,⟨List.map AO r.2,z1,0,false⟩)] [] ⟨[(0,.own 1),(1,.int .i64 w),(5,.int .i64 y)],[(1,some ⟨List.map AO u,z1,0,false⟩)],[]⟩):=by
 induction n with
 |zero=>exact((fun _ _ _ _ _ h=>by rw [CY] at h; cases h))
 | succ n ih=>
  have ih0:=ih
  ·intro u w y z1 r h
   rw [CY] at h
   refine Av rfl rfl (Z ?_)
   refine AX (Z ?_)
   refine AD h (fun h=>Z ?_) (fun h=>Z ?_)
   ·refine AF ?_
    replace h:=AB h; obtain⟨q,g,h⟩:=h
    refine AM g rfl (Z ?_)
    replace h:=AB h; obtain⟨j,k,h⟩:=h
    refine AZ (AP g) (Z ?_)
    refine An (List.map AO j) (by rw [← Ao k]; simp only [List.map_set,go_sem,slD]) (Z ?_)
    refine AF ?_
    exact lpG (ih0 j (IntKind.i64.wrap (w+1)) (IntKind.i64.wrap (y+1)) z1 _ h) [(1,1)] []
   ·refine AF ?_
    cases h
    refine A7 (.done _) [(1,1)] [] ?_
    simp only [go_sem]
theorem IC (a0 a1) (z1:Option Nat) (r) (h:D3 a0 a1=some r):AG Tryz.prog 28 [.own 1,.int .i64 a1] [(1,⟨List.map AO a0,z1,0,false⟩)] [] (.int .i64 r.1) [(1,⟨List.map AO r.2,z1,0,false⟩)] [] :=by
 unfold D3 at h
 refine agF Tryz.func28 mixed (h:=Z ?_)
 exact loG (Nt fuel a0 a1 0 z1 _ h) [(1,1)] []
theorem Nu (n:Nat):(∀a0 u w r,CZ n a0 u w=some r→Al Tryz.prog Tryz.f41 [1,0,1,0] (.int .i64 r) ⟨[(0,.ro (List.map AO a0)),(1,.int .i64 u),(5,.int .i64 w)],[],[]⟩):=by
 induction n with
 |zero=>exact((fun _ _ _ _ h=>by rw [CZ] at h; cases h))
 | succ n ih=>
  have ih0:=ih
  ·intro a0 u w r h
   rw [CZ] at h
   refine AN rfl rfl (Z ?_)
   refine AX (Z ?_)
   refine AD h (fun h=>Z ?_) (fun h=>Z ?_)
   ·refine AF ?_
    replace h:=AB h; obtain⟨y,q,h⟩:=h
    refine AM q rfl (Z ?_)
    refine AD h (fun h=>Z ?_) (fun h=>Z ?_)
    ·cases h
     simp only [go_sem]
    ·refine AF ?_
     refine AF ?_
     exact lpF (ih0 a0 (IntKind.i64.wrap (u+1)) (IntKind.i64.wrap (w+1)) _ h) [] []
   ·refine AF ?_
    cases h
    simp only [go_sem]
theorem ID (a0 a1 r) (h:D4 a0 a1=some r):AC Tryz.prog 41 [.ro (List.map AO a0),.int .i64 a1] (.int .i64 r):=by
 unfold D4 at h
 refine acF Tryz.func41 mixed (h:=Z ?_)
 exact loF (Nu fuel a0 a1 0 _ h) [] []
end Go.Proofs.YtckcfdggbbabfaaGreat.Ab
