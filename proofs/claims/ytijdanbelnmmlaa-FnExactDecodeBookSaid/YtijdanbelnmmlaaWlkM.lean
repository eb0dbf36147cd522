/-
 The functions do what their models say. Printed by wip/ab/gen.py.
-/
import Derived.Test.YtijdanbelnmmlaaModM
import Derived.Test.YtijdanbelnmmlaaTi2
import Derived.Test.YtijdanbelnmmlaaWlk
namespace Go.Proofs.Ytijdanbelnmmlaa.Ab
set_option linter.unusedVariables false
set_option linter.unusedSimpArgs false
set_option maxRecDepth 20000
set_option maxHeartbeats 4000000
open Go.RowKit
theorem IZ (n:Nat):(∀u w y (z1:Option Nat) r,Bj n u w y=some r→Cy Try.prog Try.f37 [1,0,1,0] (.int .i64 r.1) [(1,⟨List.map BC r.2,z1,0,false⟩)] [] ⟨[(0,.own 1),(1,.int .i64 w),(5,.int .i64 y)],[(1,some ⟨List.map BC u,z1,0,false⟩)],[]⟩):=by
 induction n with
 |zero=>exact((fun _ _ _ _ _ h=>by rw [Bj] at h; cases h))
 | succ n ih=>
  have ih0:=ih
  ·intro u w y z1 r h
   rw [Bj] at h
   refine Av rfl rfl (Z ?_)
   refine A3 (Z ?_)
   refine AB h (fun h=>Z ?_) (fun h=>Z ?_)
   ·refine AF ?_
    replace h:=AH h; obtain⟨q,g,h⟩:=h
    refine Af g rfl (Z ?_)
    replace h:=AH h; obtain⟨j,k,h⟩:=h
    refine Br (Ba g) (Z ?_)
    refine AU (List.map BC j) (by rw [← AX k]; simp only [List.map_set,go_sem,slD]) (Z ?_)
    refine AF ?_
    exact lpG (ih0 j (IntKind.i64.wrap (w+1)) (IntKind.i64.wrap (y+1)) z1 _ h) [(1,1)] []
   ·refine AF ?_
    cases h
    refine CL (.done _) [(1,1)] [] ?_
    simp only [go_sem]
theorem KF (a0 a1) (z1:Option Nat) (r) (h:EO a0 a1=some r):AG Try.prog 37 [.own 1,.int .i64 a1] [(1,⟨List.map BC a0,z1,0,false⟩)] [] (.int .i64 r.1) [(1,⟨List.map BC r.2,z1,0,false⟩)] [] :=by
 unfold EO at h
 refine agF Try.func37 mixed (h:=Z ?_)
 exact loG (IZ fuel a0 a1 0 z1 _ h) [(1,1)] []
theorem KG (n:Nat):(∀a0 a1 (z1:Option Nat) r,Cl n a0 a1=some r→AG Try.prog 21 [.own 1,.int .i64 a1] [(1,⟨List.map Core.ds a0,z1,0,false⟩)] [] (.int .i64 r.1) [(1,⟨List.map Core.ds r.2,z1,0,false⟩)] [])∧
    (∀u w y (z1:Option Nat) r,Bw n u w y=some r→Cy Try.prog Try.f21 [1,0,1,0] (.int .i64 r.1) [(1,⟨List.map Core.ds r.2,z1,0,false⟩)] [] ⟨[(0,.own 1),(1,.int .i64 w),(5,.int .i64 y)],[(1,some ⟨List.map Core.ds u,z1,0,false⟩)],[]⟩):=by
 induction n with
 |zero=>exact⟨(fun _ _ _ _ h=>by rw [Cl] at h; cases h),(fun _ _ _ _ _ h=>by rw [Bw] at h; cases h)⟩
 | succ n ih=>
  obtain⟨ih0,ih1⟩:=ih
  refine⟨?_,?_⟩
  ·intro a0 a1 z1 r h
   rw [Cl] at h
   refine agF Try.func21 mixed (h:=Z ?_)
   exact loG (ih1 a0 a1 0 z1 _ h) [(1,1)] []
  ·intro u w y z1 r h
   rw [Bw] at h
   refine Av rfl rfl (Z ?_)
   refine A3 (Z ?_)
   refine AB h (fun h=>Z ?_) (fun h=>Z ?_)
   ·refine AF ?_
    replace h:=AH h; obtain⟨q,g,h⟩:=h
    refine Af g (Core.ds_len _) (Z ?_)
    replace h:=AH h; obtain⟨j,k,h⟩:=h
    refine Br (Ba g) (Z ?_)
    refine AU (List.map Core.ds j) (by rw [← AX k]; simp only [List.map_set,go_sem,Core.ds_eq]) (Z ?_)
    replace h:=AH h; obtain⟨b,d,h⟩:=h
    refine Af d (Core.ds_len _) (Z ?_)
    replace h:=AH h; obtain⟨c,e,h⟩:=h
    refine Br (Ba d) (Z ?_)
    refine AU (List.map Core.ds c) (by rw [← AX e]; simp only [List.map_set,go_sem,Core.ds_eq]) (Z ?_)
    replace h:=AH h; obtain⟨i,l,h⟩:=h
    refine Af l (Core.ds_len _) (Z ?_)
    refine Br (Ba l) (Z ?_)
    replace h:=AH h; obtain⟨t,s,h⟩:=h
    replace h:=AH h; obtain⟨o,z,h⟩:=h
    refine caG ⟨[(3000144096,.sub 1 0 [(4,Int.toNat y,2)],none)],[(1,3000144096)],[],[],[],true⟩ (KF _ _ none _ s) (Z ?_)
    refine Br (TC (r:=List.map BC i.data) (Ba l) (Core.ds_len _) (by simp only [go_sem,Core.ds_eq])) (Z ?_)
    refine AU ((List.map Core.ds c).set (Int.toNat y) [.int .i64 i.kind,.int .i64 i.value,.gone,.sl (List.map Core.ds i.kids)]) ((NF (Ba l) (d':=.sl (List.map BC i.data)) (by simp only [go_sem,Core.ds_eq])).trans (by simp only [go_sem,Core.ds_eq])) (Z ?_)
    refine Ak (TD (NE (Ba l)) rfl rfl) (Z ?_)
    refine AU (List.map Core.ds o) (((NF (NE (Ba l)) (d':=.gone) rfl).trans (List.set_set ..)).trans (by rw [← AX z]; simp only [List.map_set,go_sem,Core.ds_eq])) (Z ?_)
    refine AF ?_
    replace h:=AH h; obtain⟨u1,u2,h⟩:=h
    refine Af u2 (Core.ds_len _) (Z ?_)
    refine Br (Ba u2) (Z ?_)
    replace h:=AH h; obtain⟨u3,u4,h⟩:=h
    replace h:=AH h; obtain⟨u5,u6,h⟩:=h
    refine caG ⟨[(3000160096,.sub 1 0 [(4,Int.toNat y,3)],none)],[(1,3000160096)],[],[],[],true⟩ (ih0 _ _ none _ u4) (Z ?_)
    refine Br (TC (r:=List.map Core.ds u1.kids) (Ba u2) (Core.ds_len _) (by simp only [go_sem,Core.ds_eq])) (Z ?_)
    refine AU ((List.map Core.ds o).set (Int.toNat y) [.int .i64 u1.kind,.int .i64 u1.value,.sl (List.map BC u1.data),.gone]) ((NF (Ba u2) (d':=.sl (List.map Core.ds u1.kids)) (by simp only [go_sem,Core.ds_eq])).trans (by simp only [go_sem,Core.ds_eq])) (Z ?_)
    refine Ak (TD (NE (Ba u2)) rfl rfl) (Z ?_)
    refine AU (List.map Core.ds u5) (((NF (NE (Ba u2)) (d':=.gone) rfl).trans (List.set_set ..)).trans (by rw [← AX u6]; simp only [List.map_set,go_sem,Core.ds_eq])) (Z ?_)
    refine AF ?_
    exact lpG (ih1 u5 u3.1 (IntKind.i64.wrap (y+1)) z1 _ h) [(1,1)] []
   ·refine AF ?_
    cases h
    refine CL (.done _) [(1,1)] [] ?_
    simp only [go_sem]
theorem Lo (n:Nat):(∀a0 a1 (z1:Option Nat) r,Cl n a0 a1=some r→AG Try.prog 21 [.own 1,.int .i64 a1] [(1,⟨List.map Core.ds a0,z1,0,false⟩)] [] (.int .i64 r.1) [(1,⟨List.map Core.ds r.2,z1,0,false⟩)] []):=(KG n).1
theorem MA (a0 a1) (z1:Option Nat) (r) (h:EZ a0 a1=some r):AG Try.prog 10 [.agg [.own 1],.int .i64 a1] [(1,⟨List.map Core.ds a0.defs,z1,0,false⟩)] [] (.int .i64 r.1) [(1,⟨List.map Core.ds r.2,z1,0,false⟩)] [] :=by
 unfold EZ at h
 refine agF Try.func10 mixed (h:=Z ?_)
 replace h:=AH h; obtain⟨u,w,h⟩:=h
 refine caG ⟨[],[(1,1)],[],[],[],true⟩ (Lo fuel _ _ z1 _ w) (Z ?_)
 refine AF ?_
 cases h
 refine CL (.done _) [(1,1)] [] ?_
 simp only [go_sem]
theorem Ia (n:Nat):(∀a0 u w r,Bk n a0 u w=some r→BX Try.prog Try.f38 [1,0,1,0] (.int .i64 r) ⟨[(0,.ro (List.map BC a0)),(1,.int .i64 u),(5,.int .i64 w)],[],[]⟩):=by
 induction n with
 |zero=>exact((fun _ _ _ _ h=>by rw [Bk] at h; cases h))
 | succ n ih=>
  have ih0:=ih
  ·intro a0 u w r h
   rw [Bk] at h
   refine AP rfl rfl (Z ?_)
   refine A3 (Z ?_)
   refine AB h (fun h=>Z ?_) (fun h=>Z ?_)
   ·refine AF ?_
    replace h:=AH h; obtain⟨y,q,h⟩:=h
    refine Af q rfl (Z ?_)
    refine AB h (fun h=>Z ?_) (fun h=>Z ?_)
    ·cases h
     simp only [go_sem]
    ·refine AF ?_
     refine AF ?_
     exact lpF (ih0 a0 (IntKind.i64.wrap (u+1)) (IntKind.i64.wrap (w+1)) _ h) [] []
   ·refine AF ?_
    cases h
    simp only [go_sem]
theorem KH (a0 a1 r) (h:EP a0 a1=some r):AC Try.prog 38 [.ro (List.map BC a0),.int .i64 a1] (.int .i64 r):=by
 unfold EP at h
 refine acF Try.func38 mixed (h:=Z ?_)
 exact loF (Ia fuel a0 a1 0 _ h) [] []
theorem KI (n:Nat):(∀a0 a1 r,CG n a0 a1=some r→AC Try.prog 22 [.ro (List.map Core.ds a0),.int .i64 a1] (.int .i64 r))∧
    (∀a0 u w r,Bx n a0 u w=some r→BX Try.prog Try.f22 [1,0,1,0] (.int .i64 r) ⟨[(0,.ro (List.map Core.ds a0)),(1,.int .i64 u),(5,.int .i64 w)],[],[]⟩):=by
 induction n with
 |zero=>exact⟨(fun _ _ _ h=>by rw [CG] at h; cases h),(fun _ _ _ _ h=>by rw [Bx] at h; cases h)⟩
 | succ n ih=>
  obtain⟨ih0,ih1⟩:=ih
  refine⟨?_,?_⟩
  ·intro a0 a1 r h
   rw [CG] at h
   refine acF Try.func22 mixed (h:=Z ?_)
   exact loF (ih1 a0 a1 0 _ h) [] []
  ·intro a0 u w r h
   rw [Bx] at h
   refine AP rfl rfl (Z ?_)
   refine A3 (Z ?_)
   refine AB h (fun h=>Z ?_) (fun h=>Z ?_)
   ·refine AF ?_
    replace h:=AH h; obtain⟨y,q,h⟩:=h
    refine Af q (Core.ds_len _) (Z ?_)
    refine AB h (fun h=>Z ?_) (fun h=>Z ?_)
    ·cases h
     simp only [go_sem]
    ·refine AF ?_
     replace h:=AH h; obtain⟨g,j,h⟩:=h
     refine Af j (Core.ds_len _) (Z ?_)
     refine AB h (fun h=>Z ?_) (fun h=>Z ?_)
     ·cases h
      simp only [go_sem]
     ·refine AF ?_
      replace h:=AH h; obtain⟨k,b,h⟩:=h
      refine Af b (Core.ds_len _) (Z ?_)
      replace h:=AH h; obtain⟨d,c,h⟩:=h
      refine AK (KH _ _ _ c) (Z ?_)
      refine AF ?_
      refine AB h (fun h=>Z ?_) (fun h=>Z ?_)
      ·cases h
       simp only [go_sem]
      ·refine AF ?_
       replace h:=AH h; obtain⟨e,i,h⟩:=h
       refine Af i (Core.ds_len _) (Z ?_)
       replace h:=AH h; obtain⟨l,t,h⟩:=h
       refine AK (ih0 _ _ _ t) (Z ?_)
       refine AF ?_
       refine AB h (fun h=>Z ?_) (fun h=>Z ?_)
       ·cases h
        simp only [go_sem]
       ·refine AF ?_
        exact lpF (ih1 a0 l (IntKind.i64.wrap (w+1)) _ h) [] []
   ·refine AF ?_
    cases h
    simp only [go_sem]
theorem Lp (n:Nat):(∀a0 a1 r,CG n a0 a1=some r→AC Try.prog 22 [.ro (List.map Core.ds a0),.int .i64 a1] (.int .i64 r)):=(KI n).1
theorem H3 (a0 a1 r) (h:Dx a0 a1=some r):AC Try.prog 11 [.agg (Book.avs a0),.int .i64 a1] (.int .i64 r):=by
 unfold Dx at h
 refine acF Try.func11 mixed (h:=Z ?_)
 replace h:=AH h; obtain⟨u,w,h⟩:=h
 refine AK (Lp fuel _ _ _ w) (Z ?_)
 refine AF ?_
 refine AB h (fun h=>Z ?_) (fun h=>Z ?_)
 ·cases h
  simp only [go_sem]
 ·refine AF ?_
  cases h
  simp only [go_sem]
end Go.Proofs.Ytijdanbelnmmlaa.Ab
