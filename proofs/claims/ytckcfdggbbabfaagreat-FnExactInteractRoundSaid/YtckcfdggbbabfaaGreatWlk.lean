/-
 The functions do what their models say. Printed by wip/ab/gen.py.
-/
import Derived.Test.YtckcfdggbbabfaaGreatMod
import Derived.Test.YtckcfdggbbabfaaGreatTi2
namespace Go.Proofs.YtckcfdggbbabfaaGreat.Ab
set_option linter.unusedVariables false
set_option linter.unusedSimpArgs false
set_option maxRecDepth 20000
set_option maxHeartbeats 4000000
open Go.RowKit
theorem Qg (a0 a1 r) (h:Hy a0 a1=some r):AC Tryz.prog 174 [.ro (List.map Au a0),.int .i64 a1] (.int .i64 r):=by
 unfold Hy at h
 refine AY mixed Tryz.func174 rfl rfl rfl (by kernel_rfl) (by kernel_rfl) (Z ?_)
 refine AD h (fun h=>Z ?_) (fun h=>Z ?_)
 ·cases h
  simp only [go_sem]
 ·refine AB (Z ?_)
  cases h
  simp only [go_sem]
theorem Nq (n:Nat):(∀a0 u w r,DA n a0 u w=some r→A7 Tryz.prog Tryz.f19 [1,1,0,1,0] (.ow (some 1) (List.map Au r)) ⟨[(0,.ro (List.map Au a0)),(3,.own 1000001000),(4,.int .i64 w)],[(1000001000,some ⟨List.map Au u,some 1,0,false⟩)],[]⟩):=by
 induction n with
 |zero=>exact((fun _ _ _ _ h=>by rw [DA] at h; cases h))
 | succ n ih=>
  have ih0:=ih
  ·intro a0 u w r h
   rw [DA] at h
   refine AS rfl rfl (Z ?_)
   refine Ag (Z ?_)
   refine AD h (fun h=>Z ?_) (fun h=>Z ?_)
   ·refine AB (Z ?_)
    replace h:=AF h; obtain⟨y,q,h⟩:=h
    refine AR q rfl (Z ?_)
    replace h:=AF h; obtain⟨g,j,h⟩:=h
    refine AR j rfl (Z ?_)
    replace h:=AF h; obtain⟨k,b,h⟩:=h
    refine Ac (AU j) (Z ?_)
    refine BA (List.map Au k) (by rw [← Az b]; simp only [List.map_set,go_sem,slD]) (Z ?_)
    refine AB (Z ?_)
    refine Am (AH rfl rfl (ih0 a0 k (IntKind.i64.wrap (w+1)) _ h):) (.one ⟨_,.done _,[(1000001000,1000001000)],[],?_⟩)
    try simp only [go_sem]
   ·refine AB (Z ?_)
    cases h
    simp only [go_sem]
theorem Qh (a0 r) (h:Hz a0=some r):AC Tryz.prog 19 [.ro (List.map Au a0)] (.ow (some 1) (List.map Au r)):=by
 unfold Hz at h
 refine AY mixed Tryz.func19 rfl rfl rfl (by kernel_rfl) (by kernel_rfl) (Z ?_)
 replace h:=AF h; obtain⟨u,w,h⟩:=h
 have hq_:=Hx w
 obtain⟨hv2002a,hv2002b,hv2002c⟩:=hq_
 refine BW (by refine⟨?_,?_,?_⟩ <;> omega) (Z ?_)
 refine BA (List.map Au u) (by rw [← hv2002c]; simp only [List.map_replicate,go_sem,slD]) (Z ?_)
 refine AB (Z ?_)
 refine AZ (AH rfl rfl (Nq fuel a0 u 0 _ h):) (.one ⟨_,.done _,[(1000001000,32032)],[],?_⟩)
 try simp only [go_sem]
theorem Nr (n:Nat):(∀a0 a1 u r,Dn n a0 a1 u=some r→A7 Tryz.prog Tryz.f24 [1,1,0,1,0] (.bool r) ⟨[(0,.ro (List.map Au a0)),(1,.ro (List.map Au a1)),(5,.int .i64 u)],[],[]⟩):=by
 induction n with
 |zero=>exact((fun _ _ _ _ h=>by rw [Dn] at h; cases h))
 | succ n ih=>
  have ih0:=ih
  ·intro a0 a1 u r h
   rw [Dn] at h
   refine AS rfl rfl (Z ?_)
   refine Ag (Z ?_)
   refine AD h (fun h=>Z ?_) (fun h=>Z ?_)
   ·refine AB (Z ?_)
    refine Ae [] .fin (by kernel_rfl) (Z ?_)
    replace h:=AF h; obtain⟨w,y,h⟩:=h
    refine AR y rfl (Z ?_)
    replace h:=AF h; obtain⟨q,g,h⟩:=h
    refine AR g rfl (Z ?_)
    refine AB (Z ?_)
    refine AD h (fun h=>Z ?_) (fun h=>Z ?_)
    ·cases h
     simp only [go_sem]
    ·refine AB (Z ?_)
     refine Am (AH rfl rfl (ih0 a0 a1 (IntKind.i64.wrap (u+1)) _ h):) (.one ⟨_,.done _,[],[],?_⟩)
     try simp only [go_sem]
   ·refine AB (Z ?_)
    cases h
    simp only [go_sem]
theorem Qi (a0 a1 r) (h:H0 a0 a1=some r):AC Tryz.prog 24 [.ro (List.map Au a0),.ro (List.map Au a1)] (.bool r):=by
 unfold H0 at h
 refine AY mixed Tryz.func24 rfl rfl rfl (by kernel_rfl) (by kernel_rfl) (Z ?_)
 refine AD h (fun h=>Z ?_) (fun h=>Z ?_)
 ·cases h
  simp only [go_sem]
 ·refine AB (Z ?_)
  refine AZ (AH rfl rfl (Nr fuel a0 a1 0 _ h):) (.one ⟨_,.done _,[],[],?_⟩)
  try simp only [go_sem]
theorem MG (n:Nat):(∀u w y (z1:Option Nat) r,CM n u w y=some r→Dx Tryz.prog Tryz.f28 [1,0,1,0] (.int .i64 r.1) [(1,⟨List.map Au r.2,z1,0,false⟩)] [] ⟨[(0,.own 1),(1,.int .i64 w),(5,.int .i64 y)],[(1,some ⟨List.map Au u,z1,0,false⟩)],[]⟩):=by
 induction n with
 |zero=>exact((fun _ _ _ _ _ h=>by rw [CM] at h; cases h))
 | succ n ih=>
  have ih0:=ih
  ·intro u w y z1 r h
   rw [CM] at h
   refine BB rfl rfl (Z ?_)
   refine Ag (Z ?_)
   refine AD h (fun h=>Z ?_) (fun h=>Z ?_)
   ·refine AB (Z ?_)
    replace h:=AF h; obtain⟨q,g,h⟩:=h
    refine AR g rfl (Z ?_)
    replace h:=AF h; obtain⟨j,k,h⟩:=h
    refine Ac (AU g) (Z ?_)
    refine BA (List.map Au j) (by rw [← Az k]; simp only [List.map_set,go_sem,slD]) (Z ?_)
    refine AB (Z ?_)
    refine Am (AN rfl rfl (ih0 j (IntKind.i64.wrap (w+1)) (IntKind.i64.wrap (y+1)) z1 _ h):) (.one ⟨_,.done _,[(1,1)],[],?_⟩)
    try simp only [go_sem]
   ·refine AB (Z ?_)
    cases h
    refine Bb (.done _) [(1,1)] [] ?_
    simp only [go_sem]
theorem OS (a0 a1) (z1:Option Nat) (r) (h:Fy a0 a1=some r):AG Tryz.prog 28 [.own 1,.int .i64 a1] [(1,⟨List.map Au a0,z1,0,false⟩)] [] (.int .i64 r.1) [(1,⟨List.map Au r.2,z1,0,false⟩)] [] :=by
 unfold Fy at h
 refine Co mixed Tryz.func28 rfl rfl rfl (by kernel_rfl) (by kernel_rfl) (Z ?_)
 refine AZ (AN rfl rfl (MG fuel a0 a1 0 z1 _ h):) (.one ⟨_,.done _,[(1,1)],[],?_⟩)
 try simp only [go_sem]
theorem MH (n:Nat):(∀a0 u w r,CN n a0 u w=some r→A7 Tryz.prog Tryz.f41 [1,0,1,0] (.int .i64 r) ⟨[(0,.ro (List.map Au a0)),(1,.int .i64 u),(5,.int .i64 w)],[],[]⟩):=by
 induction n with
 |zero=>exact((fun _ _ _ _ h=>by rw [CN] at h; cases h))
 | succ n ih=>
  have ih0:=ih
  ·intro a0 u w r h
   rw [CN] at h
   refine AS rfl rfl (Z ?_)
   refine Ag (Z ?_)
   refine AD h (fun h=>Z ?_) (fun h=>Z ?_)
   ·refine AB (Z ?_)
    replace h:=AF h; obtain⟨y,q,h⟩:=h
    refine AR q rfl (Z ?_)
    refine AD h (fun h=>Z ?_) (fun h=>Z ?_)
    ·cases h
     simp only [go_sem]
    ·refine AB (Z ?_)
     refine AB (Z ?_)
     refine Am (AH rfl rfl (ih0 a0 (IntKind.i64.wrap (u+1)) (IntKind.i64.wrap (w+1)) _ h):) (.one ⟨_,.done _,[],[],?_⟩)
     try simp only [go_sem]
   ·refine AB (Z ?_)
    cases h
    simp only [go_sem]
theorem OT (a0 a1 r) (h:Fz a0 a1=some r):AC Tryz.prog 41 [.ro (List.map Au a0),.int .i64 a1] (.int .i64 r):=by
 unfold Fz at h
 refine AY mixed Tryz.func41 rfl rfl rfl (by kernel_rfl) (by kernel_rfl) (Z ?_)
 refine AZ (AH rfl rfl (MH fuel a0 a1 0 _ h):) (.one ⟨_,.done _,[],[],?_⟩)
 try simp only [go_sem]
end Go.Proofs.YtckcfdggbbabfaaGreat.Ab
