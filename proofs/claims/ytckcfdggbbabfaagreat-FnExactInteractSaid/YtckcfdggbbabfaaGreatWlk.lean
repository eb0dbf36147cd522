/-
 The functions do what their models say. Printed by wip/ab/gen.py.
-/
import Derived.Test.YtckcfdggbbabfaaGreatMod
import Derived.Test.YtckcfdggbbabfaaGreatTi2
namespace Go.Proofs.YtckcfdggbbabfaaGreat.Ab
set_option linter.unusedVariables false
set_option linter.unusedSimpArgs false
set_option maxRecDepth 20000
set_option maxHeartbeats 4000000
open Go.RowKit
theorem Qf (a0 a1 r) (h:Hw a0 a1=some r):AC Tryz.prog 174 [.ro (List.map Au a0),.int .i64 a1] (.int .i64 r):=by
 unfold Hw at h
 refine AZ mixed Tryz.func174 rfl rfl rfl (by kernel_rfl) (by kernel_rfl) (Z ?_)
 refine AD h (fun h=>Z ?_) (fun h=>Z ?_)
 ·cases h
  simp only [go_sem]
 ·refine AB (Z ?_)
  cases h
  simp only [go_sem]
theorem Nm (n:Nat):(∀a0 u w r,C4 n a0 u w=some r→BG Tryz.prog Tryz.f19 [1,1,0,1,0] (.ow (some 1) (List.map Au r)) ⟨[(0,.ro (List.map Au a0)),(3,.own 1000001000),(4,.int .i64 w)],[(1000001000,some ⟨List.map Au u,some 1,0,false⟩)],[]⟩):=by
 induction n with
 |zero=>exact((fun _ _ _ _ h=>by rw [C4] at h; cases h))
 | succ n ih=>
  have ih0:=ih
  ·intro a0 u w r h
   rw [C4] at h
   refine AT rfl rfl (Z ?_)
   refine Ah (Z ?_)
   refine AD h (fun h=>Z ?_) (fun h=>Z ?_)
   ·refine AB (Z ?_)
    replace h:=AF h; obtain⟨y,q,h⟩:=h
    refine AR q rfl (Z ?_)
    replace h:=AF h; obtain⟨g,j,h⟩:=h
    refine AR j rfl (Z ?_)
    replace h:=AF h; obtain⟨k,b,h⟩:=h
    refine Ac (AX j) (Z ?_)
    refine A9 (List.map Au k) (by rw [← Az b]; simp only [List.map_set,go_sem,slD]) (Z ?_)
    refine AB (Z ?_)
    refine An (AH rfl rfl (ih0 a0 k (IntKind.i64.wrap (w+1)) _ h):) (.one ⟨_,.done _,[(1000001000,1000001000)],[],?_⟩)
    try simp only [go_sem]
   ·refine AB (Z ?_)
    cases h
    simp only [go_sem]
theorem Qg (a0 r) (h:Hx a0=some r):AC Tryz.prog 19 [.ro (List.map Au a0)] (.ow (some 1) (List.map Au r)):=by
 unfold Hx at h
 refine AZ mixed Tryz.func19 rfl rfl rfl (by kernel_rfl) (by kernel_rfl) (Z ?_)
 replace h:=AF h; obtain⟨u,w,h⟩:=h
 have hq_:=Hv w
 obtain⟨hv2002a,hv2002b,hv2002c⟩:=hq_
 refine BR (by refine⟨?_,?_,?_⟩ <;> omega) (Z ?_)
 refine A9 (List.map Au u) (by rw [← hv2002c]; simp only [List.map_replicate,go_sem,slD]) (Z ?_)
 refine AB (Z ?_)
 refine Aa (AH rfl rfl (Nm fuel a0 u 0 _ h):) (.one ⟨_,.done _,[(1000001000,32032)],[],?_⟩)
 try simp only [go_sem]
theorem Nn (n:Nat):(∀a0 a1 u r,Df n a0 a1 u=some r→BG Tryz.prog Tryz.f24 [1,1,0,1,0] (.bool r) ⟨[(0,.ro (List.map Au a0)),(1,.ro (List.map Au a1)),(5,.int .i64 u)],[],[]⟩):=by
 induction n with
 |zero=>exact((fun _ _ _ _ h=>by rw [Df] at h; cases h))
 | succ n ih=>
  have ih0:=ih
  ·intro a0 a1 u r h
   rw [Df] at h
   refine AT rfl rfl (Z ?_)
   refine Ah (Z ?_)
   refine AD h (fun h=>Z ?_) (fun h=>Z ?_)
   ·refine AB (Z ?_)
    refine Af [] .fin (by kernel_rfl) (Z ?_)
    replace h:=AF h; obtain⟨w,y,h⟩:=h
    refine AR y rfl (Z ?_)
    replace h:=AF h; obtain⟨q,g,h⟩:=h
    refine AR g rfl (Z ?_)
    refine AB (Z ?_)
    refine AD h (fun h=>Z ?_) (fun h=>Z ?_)
    ·cases h
     simp only [go_sem]
    ·refine AB (Z ?_)
     refine An (AH rfl rfl (ih0 a0 a1 (IntKind.i64.wrap (u+1)) _ h):) (.one ⟨_,.done _,[],[],?_⟩)
     try simp only [go_sem]
   ·refine AB (Z ?_)
    cases h
    simp only [go_sem]
theorem Qh (a0 a1 r) (h:Hy a0 a1=some r):AC Tryz.prog 24 [.ro (List.map Au a0),.ro (List.map Au a1)] (.bool r):=by
 unfold Hy at h
 refine AZ mixed Tryz.func24 rfl rfl rfl (by kernel_rfl) (by kernel_rfl) (Z ?_)
 refine AD h (fun h=>Z ?_) (fun h=>Z ?_)
 ·cases h
  simp only [go_sem]
 ·refine AB (Z ?_)
  refine Aa (AH rfl rfl (Nn fuel a0 a1 0 _ h):) (.one ⟨_,.done _,[],[],?_⟩)
  try simp only [go_sem]
theorem MJ (n:Nat):(∀u w y (z1:Option Nat) r,CJ n u w y=some r→Dp Tryz.prog Tryz.f28 [1,0,1,0] (.int .i64 r.1) [(1,⟨List.map Au r.2,z1,0,false⟩)] [] ⟨[(0,.own 1),(1,.int .i64 w),(5,.int .i64 y)],[(1,some ⟨List.map Au u,z1,0,false⟩)],[]⟩):=by
 induction n with
 |zero=>exact((fun _ _ _ _ _ h=>by rw [CJ] at h; cases h))
 | succ n ih=>
  have ih0:=ih
  ·intro u w y z1 r h
   rw [CJ] at h
   refine BB rfl rfl (Z ?_)
   refine Ah (Z ?_)
   refine AD h (fun h=>Z ?_) (fun h=>Z ?_)
   ·refine AB (Z ?_)
    replace h:=AF h; obtain⟨q,g,h⟩:=h
    refine AR g rfl (Z ?_)
    replace h:=AF h; obtain⟨j,k,h⟩:=h
    refine Ac (AX g) (Z ?_)
    refine A9 (List.map Au j) (by rw [← Az k]; simp only [List.map_set,go_sem,slD]) (Z ?_)
    refine AB (Z ?_)
    refine An (AN rfl rfl (ih0 j (IntKind.i64.wrap (w+1)) (IntKind.i64.wrap (y+1)) z1 _ h):) (.one ⟨_,.done _,[(1,1)],[],?_⟩)
    try simp only [go_sem]
   ·refine AB (Z ?_)
    cases h
    refine BY (.done _) [(1,1)] [] ?_
    simp only [go_sem]
theorem OO (a0 a1) (z1:Option Nat) (r) (h:Fv a0 a1=some r):AG Tryz.prog 28 [.own 1,.int .i64 a1] [(1,⟨List.map Au a0,z1,0,false⟩)] [] (.int .i64 r.1) [(1,⟨List.map Au r.2,z1,0,false⟩)] [] :=by
 unfold Fv at h
 refine Cm mixed Tryz.func28 rfl rfl rfl (by kernel_rfl) (by kernel_rfl) (Z ?_)
 refine Aa (AN rfl rfl (MJ fuel a0 a1 0 z1 _ h):) (.one ⟨_,.done _,[(1,1)],[],?_⟩)
 try simp only [go_sem]
theorem MK (n:Nat):(∀a0 u w r,CK n a0 u w=some r→BG Tryz.prog Tryz.f41 [1,0,1,0] (.int .i64 r) ⟨[(0,.ro (List.map Au a0)),(1,.int .i64 u),(5,.int .i64 w)],[],[]⟩):=by
 induction n with
 |zero=>exact((fun _ _ _ _ h=>by rw [CK] at h; cases h))
 | succ n ih=>
  have ih0:=ih
  ·intro a0 u w r h
   rw [CK] at h
   refine AT rfl rfl (Z ?_)
   refine Ah (Z ?_)
   refine AD h (fun h=>Z ?_) (fun h=>Z ?_)
   ·refine AB (Z ?_)
    replace h:=AF h; obtain⟨y,q,h⟩:=h
    refine AR q rfl (Z ?_)
    refine AD h (fun h=>Z ?_) (fun h=>Z ?_)
    ·cases h
     simp only [go_sem]
    ·refine AB (Z ?_)
     refine AB (Z ?_)
     refine An (AH rfl rfl (ih0 a0 (IntKind.i64.wrap (u+1)) (IntKind.i64.wrap (w+1)) _ h):) (.one ⟨_,.done _,[],[],?_⟩)
     try simp only [go_sem]
   ·refine AB (Z ?_)
    cases h
    simp only [go_sem]
theorem OP (a0 a1 r) (h:Fw a0 a1=some r):AC Tryz.prog 41 [.ro (List.map Au a0),.int .i64 a1] (.int .i64 r):=by
 unfold Fw at h
 refine AZ mixed Tryz.func41 rfl rfl rfl (by kernel_rfl) (by kernel_rfl) (Z ?_)
 refine Aa (AH rfl rfl (MK fuel a0 a1 0 _ h):) (.one ⟨_,.done _,[],[],?_⟩)
 try simp only [go_sem]
end Go.Proofs.YtckcfdggbbabfaaGreat.Ab
