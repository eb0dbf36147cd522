/- The functions do what their models say. -/
import Derived.Test.YthenkmapmnkelaaGreatDoorModU
import Derived.Test.YthenkmapmnkelaaGreatDoorTi2
import Derived.Test.YthenkmapmnkelaaGreatDoorWlk
namespace Go.Proofs.YthenkmapmnkelaaGreatDoor.Ab
set_option linter.defProp false
set_option linter.unusedVariables false
set_option linter.unusedSimpArgs false
set_option maxRecDepth 20000
set_option maxHeartbeats 4000000
open Go.RowKit _root_.Go.Proofs.Tryz
theorem QV (n:Nat):(∀u w y (p:Option Nat) r,DG n u w y=some r→BK prog f77 [1,0,1,0] (.int .i64 r.1) [(1,⟨List.map Port.ds r.2,p,0,.no⟩)] [] ⟨[(0,.own 1),(1,.int .i64 w),(5,.int .i64 y)],[(1,some ⟨List.map Port.ds u,p,0,.no⟩)],[]⟩):=by
 induction n with
 |zero=>exact((fun _ _ _ _ _ h=>by rw [DG] at h; cases h))
 | succ n ih=>
  have v:=ih
  ·intro u w y p r h
   rw [DG] at h
   refine AM rfl rfl (Z ?_)
   refine Ai (Z ?_)
   refine AI h (fun h=>Z ?_) (fun h=>Z ?_)
   ·refine AK ?_
    replace h:=AB h; obtain⟨q,g,h⟩:=h
    refine AS g (Port.ds_len _) (Z ?_)
    replace h:=AB h; obtain⟨j,k,h⟩:=h
    refine AX (AP g) (Z ?_)
    refine Ar (j.map Port.ds) (by rw [← Ah k]; simp only [List.map_set,go_sem,Port.ds_eq]) (Z ?_)
    replace h:=AB h; obtain⟨b,d,h⟩:=h
    refine AS d (Port.ds_len _) (Z ?_)
    replace h:=AB h; obtain⟨c,e,h⟩:=h
    refine AX (AP d) (Z ?_)
    refine Ar (c.map Port.ds) (by rw [← Ah e]; simp only [List.map_set,go_sem,Port.ds_eq]) (Z ?_)
    refine AK ?_
    exact iK (v c (IntKind.i64.wrap ((IntKind.i64.wrap (w+1))+1)) (IntKind.i64.wrap (y+1)) p _ h)
   ·exact AF trivial h
theorem Up (a0 a1) (z1:Option Nat) (r) (h:IP a0 a1=some r):AG prog 77 [.own 1,.int .i64 a1] [(1,⟨List.map Port.ds a0,z1,0,.no⟩)] [] (.int .i64 r.1) [(1,⟨List.map Port.ds r.2,z1,0,.no⟩)] [] :=by
 unfold IP at h
 refine agF func77 mixed (h:=Z ?_)
 exact Yq (QV fuel a0 a1 0 z1 _ h)
theorem O3 (n:Nat):(∀u w y (C:Option Nat) r,Ck n u w y=some r→BK prog f35 [1,0,1,0] (.int .i64 r.1) [(1,⟨List.map Agent.ds r.2,C,0,.no⟩)] [] ⟨[(0,.own 1),(1,.int .i64 w),(5,.int .i64 y)],[(1,some ⟨List.map Agent.ds u,C,0,.no⟩)],[]⟩):=by
 induction n with
 |zero=>exact((fun _ _ _ _ _ h=>by rw [Ck] at h; cases h))
 | succ n ih=>
  have F:=ih
  ·intro u w y C r h
   rw [Ck] at h
   refine AM rfl rfl (Z ?_)
   refine Ai (Z ?_)
   refine AI h (fun h=>Z ?_) (fun h=>Z ?_)
   ·refine AK ?_
    replace h:=AB h; obtain⟨q,g,h⟩:=h
    refine AS g (Agent.ds_len _) (Z ?_)
    replace h:=AB h; obtain⟨j,k,h⟩:=h
    refine AX (AP g) (Z ?_)
    refine Ar (j.map Agent.ds) (by rw [← Ah k]; simp only [List.map_set,go_sem,Agent.ds_eq]) (Z ?_)
    replace h:=AB h; obtain⟨b,d,h⟩:=h
    refine AS d (Agent.ds_len _) (Z ?_)
    replace h:=AB h; obtain⟨c,e,h⟩:=h
    refine AX (AP d) (Z ?_)
    refine Ar (c.map Agent.ds) (by rw [← Ah e]; simp only [List.map_set,go_sem,Agent.ds_eq]) (Z ?_)
    replace h:=AB h; obtain⟨i,l,h⟩:=h
    refine AS l (Agent.ds_len _) (Z ?_)
    replace h:=AB h; obtain⟨t,s,h⟩:=h
    refine AX (AP l) (Z ?_)
    refine Ar (t.map Agent.ds) (by rw [← Ah s]; simp only [List.map_set,go_sem,Agent.ds_eq]) (Z ?_)
    replace h:=AB h; obtain⟨o,z,h⟩:=h
    refine AS z (Agent.ds_len _) (Z ?_)
    refine AX (AP z) (Z ?_)
    replace h:=AB h; obtain⟨u1,O,h⟩:=h
    replace h:=AB h; obtain⟨J,U,h⟩:=h
    refine caG ⟨[(3000176096,.sub 1 0 [(5,Int.toNat y,3)],none)],[(1,3000176096)],[],[],[],true⟩ (IZ _ _ none _ O) (Z ?_)
    refine AX (Es (r:=List.map AD o.data) (AP z) (Agent.ds_len _) (by simp only [go_sem,Agent.ds_eq])) (Z ?_)
    refine Ar ((t.map Agent.ds).set (Int.toNat y) [.int .i64 o.kind,.int .i64 o.level,.int .i64 o.value,.gone,.sl (o.ports.map Port.ds)]) ((Hs (AP z) (d':=.sl (o.data.map AD)) (by simp only [go_sem,Agent.ds_eq])).trans (by simp only [go_sem,Agent.ds_eq])) (Z ?_)
    refine BH (aU (OZ (AP z)) rfl rfl) (Z ?_)
    refine Ar (J.map Agent.ds) (((Hs (OZ (AP z)) (d':=.gone) rfl).trans (List.set_set ..)).trans (by rw [← Ah U]; simp only [List.map_set,go_sem,Agent.ds_eq])) (Z ?_)
    refine AK ?_
    replace h:=AB h; obtain⟨v,p,h⟩:=h
    refine AS p (Agent.ds_len _) (Z ?_)
    refine AX (AP p) (Z ?_)
    replace h:=AB h; obtain⟨W,Y,h⟩:=h
    replace h:=AB h; obtain⟨I,G,h⟩:=h
    refine caG ⟨[(3000192096,.sub 1 0 [(5,Int.toNat y,4)],none)],[(1,3000192096)],[],[],[],true⟩ (Up _ _ none _ Y) (Z ?_)
    refine AX (Es (r:=List.map Port.ds v.ports) (AP p) (Agent.ds_len _) (by simp only [go_sem,Agent.ds_eq])) (Z ?_)
    refine Ar ((J.map Agent.ds).set (Int.toNat y) [.int .i64 v.kind,.int .i64 v.level,.int .i64 v.value,.sl (v.data.map AD),.gone]) ((Hs (AP p) (d':=.sl (v.ports.map Port.ds)) (by simp only [go_sem,Agent.ds_eq])).trans (by simp only [go_sem,Agent.ds_eq])) (Z ?_)
    refine BH (aU (OZ (AP p)) rfl rfl) (Z ?_)
    refine Ar (I.map Agent.ds) (((Hs (OZ (AP p)) (d':=.gone) rfl).trans (List.set_set ..)).trans (by rw [← Ah G]; simp only [List.map_set,go_sem,Agent.ds_eq])) (Z ?_)
    refine AK ?_
    exact iK (F I W.1 (IntKind.i64.wrap (y+1)) C _ h)
   ·exact AF trivial h
theorem L0 (a0 a1) (z1:Option Nat) (r) (h:GK a0 a1=some r):AG prog 35 [.own 1,.int .i64 a1] [(1,⟨List.map Agent.ds a0,z1,0,.no⟩)] [] (.int .i64 r.1) [(1,⟨List.map Agent.ds r.2,z1,0,.no⟩)] [] :=by
 unfold GK at h
 refine agF func35 mixed (h:=Z ?_)
 exact Yq (O3 fuel a0 a1 0 z1 _ h)
theorem XZ (a0 a1) (z1:Option Nat) (r) (h:It a0 a1=some r):AG prog 15 [.agg [.own 1],.int .i64 a1] [(1,⟨List.map Agent.ds a0.agents,z1,0,.no⟩)] [] (.int .i64 r.1) [(1,⟨List.map Agent.ds r.2,z1,0,.no⟩)] [] :=by
 unfold It at h
 refine agF func15 mixed (h:=Z ?_)
 replace h:=AB h; obtain⟨u,w,h⟩:=h
 refine caG ⟨[],[(1,1)],[],[],[],true⟩ (L0 _ _ z1 _ w) (Z ?_)
 exact AF trivial h
theorem RS (n:Nat):(∀u w y (p:Option Nat) r,Do n u w y=some r→BK prog f14 [1,0,1,0] (.int .i64 r.1) [(1,⟨List.map Net.ds r.2,p,0,.no⟩)] [] ⟨[(0,.own 1),(1,.int .i64 w),(5,.int .i64 y)],[(1,some ⟨List.map Net.ds u,p,0,.no⟩)],[]⟩):=by
 induction n with
 |zero=>exact((fun _ _ _ _ _ h=>by rw [Do] at h; cases h))
 | succ n ih=>
  have v:=ih
  ·intro u w y p r h
   rw [Do] at h
   refine AM rfl rfl (Z ?_)
   refine Ai (Z ?_)
   refine AI h (fun h=>Z ?_) (fun h=>Z ?_)
   ·refine AK ?_
    replace h:=AB h; obtain⟨q,g,h⟩:=h
    refine AS g (Net.ds_len _) (Z ?_)
    refine AX (AP g) (Z ?_)
    replace h:=AB h; obtain⟨j,k,h⟩:=h
    replace h:=AB h; obtain⟨b,d,h⟩:=h
    refine caG ⟨[(3000080096,.sub 1 0 [(1,Int.toNat y,0)],none)],[(1,3000080096)],[],[],[],true⟩ (L0 _ _ none _ k) (Z ?_)
    refine AX (Es (r:=List.map Agent.ds q.agents) (AP g) (Net.ds_len _) (by simp only [go_sem,Net.ds_eq])) (Z ?_)
    refine Ar ((u.map Net.ds).set (Int.toNat y) [.gone]) ((Hs (AP g) (d':=.sl (q.agents.map Agent.ds)) (by simp only [go_sem,Net.ds_eq])).trans (by simp only [go_sem,Net.ds_eq])) (Z ?_)
    refine BH (aU (OZ (AP g)) rfl rfl) (Z ?_)
    refine Ar (b.map Net.ds) (((Hs (OZ (AP g)) (d':=.gone) rfl).trans (List.set_set ..)).trans (by rw [← Ah d]; simp only [List.map_set,go_sem,Net.ds_eq])) (Z ?_)
    refine AK ?_
    exact iK (v b j.1 (IntKind.i64.wrap (y+1)) p _ h)
   ·exact AF trivial h
theorem VF (a0 a1) (z1:Option Nat) (r) (h:Hu a0 a1=some r):AG prog 14 [.own 1,.int .i64 a1] [(1,⟨List.map Net.ds a0,z1,0,.no⟩)] [] (.int .i64 r.1) [(1,⟨List.map Net.ds r.2,z1,0,.no⟩)] [] :=by
 unfold Hu at h
 refine agF func14 mixed (h:=Z ?_)
 exact Yq (RS fuel a0 a1 0 z1 _ h)
theorem Xj (a0 a1 r) (h:Kt a0 a1=some r):AC prog 79 [.ro (a0.map Port.ds),.int .i64 a1] (.int .i64 r):=by
 unfold Kt at h
 refine acF func79 mixed (h:=Z ?_)
 exact AF trivial h
theorem Xk (a0 a1 r) (h:Iz a0 a1=some r):AC prog 36 [.agg (Agent.avs a0),.int .i64 a1] (.int .i64 r):=by
 unfold Iz at h
 refine acF func36 mixed (h:=Z ?_)
 exact AF (k2 VA Xj) h
theorem RT (n:Nat):(∀j u w r,Eh n j u w=some r→Aa prog f18 [1,1,1,0,1,0] (.int .i64 r) ⟨[(0,.ro (j.map Agent.ds)),(1,.int .i64 u),(5,.int .i64 w)],[],[]⟩):=by
 induction n with
 |zero=>exact((fun _ _ _ _ h=>by rw [Eh] at h; cases h))
 | succ n ih=>
  have p:=ih
  ·intro j u w r h
   rw [Eh] at h
   exact AF (k2 Xk p) h
theorem VJ (a0 a1 r) (h:JT a0 a1=some r):AC prog 18 [.ro (a0.map Agent.ds),.int .i64 a1] (.int .i64 r):=by
 unfold JT at h
 refine acF func18 mixed (h:=Z ?_)
 exact AF (k1 RT) h
theorem Ud (a0 a1 r) (h:Ld a0 a1=some r):AC prog 5 [.agg (Net.avs a0),.int .i64 a1] (.int .i64 r):=by
 unfold Ld at h
 refine acF func5 mixed (h:=Z ?_)
 exact AF (k1 VJ) h
theorem Uq (n:Nat):(∀j u w r,F9 n j u w=some r→Aa prog Tryz.f4 [1,1,1,0,1,0] (.int .i64 r) ⟨[(0,.ro (j.map Net.ds)),(1,.int .i64 u),(5,.int .i64 w)],[],[]⟩):=by
 induction n with
 |zero=>exact((fun _ _ _ _ h=>by rw [F9] at h; cases h))
 | succ n ih=>
  have p:=ih
  ·intro j u w r h
   rw [F9] at h
   exact AF (k2 Ud p) h
theorem Ze (a0 a1 r) (h:Mu a0 a1=some r):AC prog 4 [.ro (a0.map Net.ds),.int .i64 a1] (.int .i64 r):=by
 unfold Mu at h
 refine acF func4 mixed (h:=Z ?_)
 exact AF (k1 Uq) h
theorem Zh (a0 r) (h:Ku a0=some r):AC prog 129 [.agg (Port.avs a0)] (.agg (Port.rv r)):=by
 unfold Ku at h
 refine acF func129 mixed (h:=Z ?_)
 exact AF trivial h
theorem Sl (n:Nat):(∀p u w r,FI n p u w=some r→Aa prog f93 [1,1,0,1,0] (.ow (some 2) (r.map Port.ds)) ⟨[(0,.ro (p.map Port.ds)),(3,.own 1000001000),(4,.int .i64 w)],[(1000001000,some ⟨List.map Port.ds u,some 2,0,.no⟩)],[]⟩):=by
 induction n with
 |zero=>exact((fun _ _ _ _ h=>by rw [FI] at h; cases h))
 | succ n ih=>
  have v:=ih
  ·intro p u w r h
   rw [FI] at h
   refine BL rfl rfl (Z ?_)
   refine Ai (Z ?_)
   refine AI h (fun h=>Z ?_) (fun h=>Z ?_)
   ·refine AK ?_
    replace h:=AB h; obtain⟨y,q,h⟩:=h
    refine AS q (Port.ds_len _) (Z ?_)
    replace h:=AB h; obtain⟨g,j,h⟩:=h
    refine AL (Zh _ _ j) (Z ?_)
    replace h:=AB h; obtain⟨k,b,h⟩:=h
    refine AS b (Port.ds_len _) (Z ?_)
    replace h:=AB h; obtain⟨d,c,h⟩:=h
    refine AX (AP b) (Z ?_)
    refine Ar (d.map Port.ds) (by rw [← Ah c]; simp only [List.map_set,go_sem,Port.ds_eq]) (Z ?_)
    exact AF (k1 v) h
   ·exact AF trivial h
theorem Xl (a0 r) (h:Kv a0=some r):AC prog 93 [.ro (a0.map Port.ds)] (.ow (some 2) (r.map Port.ds)):=by
 unfold Kv at h
 refine acF func93 mixed (h:=Z ?_)
 replace h:=AB h; obtain⟨u,w,h⟩:=h
 have v:=G7 w
 obtain⟨q,p,j⟩:=v
 refine BH (by refine⟨?_,?_,?_⟩ <;> omega) (Z ?_)
 refine BO .no (Z ?_)
 refine Ar (u.map Port.ds) (by rw [← j]; simp only [List.map_replicate,go_sem,Port.ds_eq]) (Z ?_)
 exact AF (k1 Sl) h
theorem Xm (a0 r) (h:I0 a0=some r):AC prog 56 [.agg (Agent.avs a0)] (.agg (Agent.rv r)):=by
 unfold I0 at h
 refine acF func56 mixed (h:=Z ?_)
 exact AF (k2 Ge Xl) h
theorem RU (n:Nat):(∀p u w r,Ei n p u w=some r→Aa prog f26 [1,1,0,1,0] (.ow (some 5) (r.map Agent.ds)) ⟨[(0,.ro (p.map Agent.ds)),(3,.own 1000001000),(4,.int .i64 w)],[(1000001000,some ⟨List.map Agent.ds u,some 5,0,.no⟩)],[]⟩):=by
 induction n with
 |zero=>exact((fun _ _ _ _ h=>by rw [Ei] at h; cases h))
 | succ n ih=>
  have v:=ih
  ·intro p u w r h
   rw [Ei] at h
   refine BL rfl rfl (Z ?_)
   refine Ai (Z ?_)
   refine AI h (fun h=>Z ?_) (fun h=>Z ?_)
   ·refine AK ?_
    replace h:=AB h; obtain⟨y,q,h⟩:=h
    refine AS q (Agent.ds_len _) (Z ?_)
    replace h:=AB h; obtain⟨g,j,h⟩:=h
    refine AL (Xm _ _ j) (Z ?_)
    replace h:=AB h; obtain⟨k,b,h⟩:=h
    refine AS b (Agent.ds_len _) (Z ?_)
    replace h:=AB h; obtain⟨d,c,h⟩:=h
    refine AX (AP b) (Z ?_)
    refine Ar (d.map Agent.ds) (by rw [← Ah c]; simp only [List.map_set,go_sem,Agent.ds_eq]) (Z ?_)
    exact AF (k1 v) h
   ·exact AF trivial h
theorem VK (a0 r) (h:JU a0=some r):AC prog 26 [.ro (a0.map Agent.ds)] (.ow (some 5) (r.map Agent.ds)):=by
 unfold JU at h
 refine acF func26 mixed (h:=Z ?_)
 replace h:=AB h; obtain⟨u,w,h⟩:=h
 have v:=G7 w
 obtain⟨q,p,j⟩:=v
 refine BH (by refine⟨?_,?_,?_⟩ <;> omega) (Z ?_)
 refine BO .no (Z ?_)
 refine Ar (u.map Agent.ds) (by rw [← j]; simp only [List.map_replicate,go_sem,Agent.ds_eq]) (Z ?_)
 exact AF (k1 RU) h
theorem Jh (a0 r) (h:HC a0=some r):AC prog 8 [.agg (Net.avs a0)] (.agg (Net.rv r)):=by
 unfold HC at h
 refine acF func8 mixed (h:=Z ?_)
 exact AF (k1 VK) h
theorem Ur (n:Nat):(∀p u w r,GA n p u w=some r→Aa prog Tryz.f7 [1,1,0,1,0] (.ow (some 1) (r.map Net.ds)) ⟨[(0,.ro (p.map Net.ds)),(3,.own 1000001000),(4,.int .i64 w)],[(1000001000,some ⟨List.map Net.ds u,some 1,0,.no⟩)],[]⟩):=by
 induction n with
 |zero=>exact((fun _ _ _ _ h=>by rw [GA] at h; cases h))
 | succ n ih=>
  have v:=ih
  ·intro p u w r h
   rw [GA] at h
   refine BL rfl rfl (Z ?_)
   refine Ai (Z ?_)
   refine AI h (fun h=>Z ?_) (fun h=>Z ?_)
   ·refine AK ?_
    replace h:=AB h; obtain⟨y,q,h⟩:=h
    refine AS q (Net.ds_len _) (Z ?_)
    replace h:=AB h; obtain⟨g,j,h⟩:=h
    refine AL (Jh _ _ j) (Z ?_)
    replace h:=AB h; obtain⟨k,b,h⟩:=h
    refine AS b (Net.ds_len _) (Z ?_)
    replace h:=AB h; obtain⟨d,c,h⟩:=h
    refine AX (AP b) (Z ?_)
    refine Ar (d.map Net.ds) (by rw [← Ah c]; simp only [List.map_set,go_sem,Net.ds_eq]) (Z ?_)
    exact AF (k1 v) h
   ·exact AF trivial h
theorem J9 (a0 r) (h:HA a0=some r):AC prog 7 [.ro (a0.map Net.ds)] (.ow (some 1) (r.map Net.ds)):=by
 unfold HA at h
 refine acF func7 mixed (h:=Z ?_)
 replace h:=AB h; obtain⟨u,w,h⟩:=h
 have v:=G7 w
 obtain⟨q,p,j⟩:=v
 refine BH (by refine⟨?_,?_,?_⟩ <;> omega) (Z ?_)
 refine BO .no (Z ?_)
 refine Ar (u.map Net.ds) (by rw [← j]; simp only [List.map_replicate,go_sem,Net.ds_eq]) (Z ?_)
 exact AF (k1 Ur) h
theorem Zi (a0 a1 r) (h:Kw a0 a1=some r):AC prog 145 [.agg (Port.avs a0),.agg (Port.avs a1)] (.bool r):=by
 unfold Kw at h
 refine acF func145 mixed (h:=Z ?_)
 exact AF trivial h
theorem Sm (n:Nat):(∀j p u r,FJ n j p u=some r→Aa prog f113 [1,1,0,1,0] (.bool r) ⟨[(0,.ro (j.map Port.ds)),(1,.ro (p.map Port.ds)),(5,.int .i64 u)],[],[]⟩):=by
 induction n with
 |zero=>exact((fun _ _ _ _ h=>by rw [FJ] at h; cases h))
 | succ n ih=>
  have q:=ih
  ·intro j p u r h
   rw [FJ] at h
   exact AF (k2 Zi q) h
theorem Xn (a0 a1 r) (h:Kx a0 a1=some r):AC prog 113 [.ro (a0.map Port.ds),.ro (a1.map Port.ds)] (.bool r):=by
 unfold Kx at h
 refine acF func113 mixed (h:=Z ?_)
 exact AF (k1 Sm) h
theorem Xo (a0 a1 r) (h:I1 a0 a1=some r):AC prog 76 [.agg (Agent.avs a0),.agg (Agent.avs a1)] (.bool r):=by
 unfold I1 at h
 refine acF func76 mixed (h:=Z ?_)
 exact AF (k2 Gf Xn) h
theorem RW (n:Nat):(∀j p u r,Ej n j p u=some r→Aa prog f34 [1,1,0,1,0] (.bool r) ⟨[(0,.ro (j.map Agent.ds)),(1,.ro (p.map Agent.ds)),(5,.int .i64 u)],[],[]⟩):=by
 induction n with
 |zero=>exact((fun _ _ _ _ h=>by rw [Ej] at h; cases h))
 | succ n ih=>
  have q:=ih
  ·intro j p u r h
   rw [Ej] at h
   exact AF (k2 Xo q) h
theorem VL (a0 a1 r) (h:JV a0 a1=some r):AC prog 34 [.ro (a0.map Agent.ds),.ro (a1.map Agent.ds)] (.bool r):=by
 unfold JV at h
 refine acF func34 mixed (h:=Z ?_)
 exact AF (k1 RW) h
theorem Uc (a0 a1 r) (h:J2 a0 a1=some r):AC prog 13 [.agg (Net.avs a0),.agg (Net.avs a1)] (.bool r):=by
 unfold J2 at h
 refine acF func13 mixed (h:=Z ?_)
 exact AF (k1 VL) h
theorem Us (n:Nat):(∀j p u r,GB n j p u=some r→Aa prog f12 [1,1,0,1,0] (.bool r) ⟨[(0,.ro (j.map Net.ds)),(1,.ro (p.map Net.ds)),(5,.int .i64 u)],[],[]⟩):=by
 induction n with
 |zero=>exact((fun _ _ _ _ h=>by rw [GB] at h; cases h))
 | succ n ih=>
  have q:=ih
  ·intro j p u r h
   rw [GB] at h
   exact AF (k2 Uc q) h
theorem Zd (a0 a1 r) (h:Kj a0 a1=some r):AC prog 12 [.ro (a0.map Net.ds),.ro (a1.map Net.ds)] (.bool r):=by
 unfold Kj at h
 refine acF func12 mixed (h:=Z ?_)
 exact AF (k1 Us) h
theorem IU (a0 r) (h:FZ a0=some r):AC prog 82 [.ro (a0.map AD)] (.ow (some 1) (r.map AD)):=by
 unfold FZ at h
 refine acF func82 mixed (h:=Z ?_)
 replace h:=AB h; obtain⟨u,w,h⟩:=h
 have q:=AT w
 obtain⟨p,j⟩:=q
 refine BO .no (Z ?_)
 refine BH (G8 (by intro x; exact⟨rfl,by simp [go_sem,D.flat]⟩) _) (Z ?_)
 refine By (Z ?_)
 refine F0 AD j (Z ?_)
 exact AF trivial h
theorem Dt (a0 r) (h:CE a0=some r):AC prog 41 [.rop (Agent.avs a0) 0] (.agg (Agent.rv r)):=by
 unfold CE at h
 refine acF func41 mixed (h:=Z ?_)
 refine AK ?_
 refine AW [false,false,false,false,false,false,false,false,false,false,false,false,false,false,false,false,false,false,false,false,false,false,false,false,true] (Tr.sq [24] .fin) (by kernel_rfl) (Z ?_)
 replace h:=AB h; obtain⟨u,w,h⟩:=h
 refine AL (IU _ _ w) (Z ?_)
 replace h:=AB h; obtain⟨y,q,h⟩:=h
 have v:=AT q
 obtain⟨p,j⟩:=v
 refine BH (by rfl) (Z ?_)
 refine BO .no (Z ?_)
 refine BH (G8 (by intro x; exact⟨(Port.ds_len _),by simp [Port.ds_eq,D.flat]⟩) _) (Z ?_)
 refine By (Z ?_)
 refine Ar (y.map Port.ds) (by rw [← j]; simp only [List.nil_append]) (Z ?_)
 exact AF trivial h
theorem KQ (n:Nat):(∀ (F:List Int) (u:Int) (I:(Int→Option Bool)) (G:FuncId) (C:List AV) (v:Still C) (h1:∀ (y0:Int) (q:Bool),I y0=some q→AC prog G (fnA C [.int .i64 y0]) (.bool q)) (r:Int),Bi n F u I=some r→Aa prog f133 [1,0,1,0] (.int .i64 r) ⟨[(0,.ro (F.map AD)),(1,.fn G C),(7,.int .i64 (F.length:Int)),(8,.int .i64 u)],[],[]⟩):=by
 induction n with
 |zero=>exact((fun _ _ _ _ _ _ _ _ h=>by rw [Bi] at h; cases h))
 | succ n ih=>
  have J:=ih
  ·intro F u I G C v h1 r h
   rw [Bi] at h
   refine BL rfl rfl ?_
   try simp only [go_sem,v.k,v.r,v.c,v.p,v.o,v.f]
   refine Ai ?_
   try simp only [go_sem,v.k,v.r,v.c,v.p,v.o,v.f]
   refine AI h (fun h=>?_) (fun h=>?_)
   ·try simp only [go_sem,v.k,v.r,v.c,v.p,v.o,v.f]
    refine GT ?_
    try simp only [go_sem,v.k,v.r,v.c,v.p,v.o,v.f]
    replace h:=AB h; obtain⟨w,y,h⟩:=h
    refine AS y rfl ?_
    try simp only [go_sem,v.k,v.r,v.c,v.p,v.o,v.f]
    replace h:=AB h; obtain⟨g,j,h⟩:=h
    refine AL (h1 _ _ j) ?_
    try simp only [go_sem,v.k,v.r,v.c,v.p,v.o,v.f]
    refine GT ?_
    try simp only [go_sem,v.k,v.r,v.c,v.p,v.o,v.f]
    refine AI h (fun h=>?_) (fun h=>?_)
    ·try simp only [go_sem,v.k,v.r,v.c,v.p,v.o,v.f]
     cases h
     simp only [go_sem,v.k,v.r,v.c,v.p,v.o,v.f]
    ·try simp only [go_sem,v.k,v.r,v.c,v.p,v.o,v.f]
     refine GT ?_
     try simp only [go_sem,v.k,v.r,v.c,v.p,v.o,v.f]
     refine V9 (DZ rfl rfl (J F (IntKind.i64.wrap (u+1)) I G C v h1 _ h):) (.one ⟨_,.done _,[],[],?_⟩)
     try simp only [go_sem,v.k,v.r,v.c,v.p,v.o,v.f]
   ·try simp only [go_sem,v.k,v.r,v.c,v.p,v.o,v.f]
    refine GT ?_
    try simp only [go_sem,v.k,v.r,v.c,v.p,v.o,v.f]
    cases h
    simp only [go_sem,v.k,v.r,v.c,v.p,v.o,v.f]
theorem MK (a0:List Int) (f1:(Int→Option Bool)) (g1:FuncId) (c1:List AV) (s1:Still c1) (h1:∀ (y0:Int) (q:Bool),f1 y0=some q→AC prog g1 (fnA c1 [.int .i64 y0]) (.bool q)) (r:Int) (h:FK a0 f1=some r):AC prog 133 [.ro (a0.map AD),.fn g1 c1] (.int .i64 r):=by
 unfold FK at h
 refine acF func133 mixed (h:=?_)
 try simp only [go_sem,s1.k,s1.r,s1.c,s1.p,s1.o,s1.f]
 refine CH (DZ rfl rfl (KQ fuel a0 0 f1 g1 c1 s1 h1 _ h):) (.one ⟨_,.done _,[],[],?_⟩)
 try simp only [go_sem,s1.k,s1.r,s1.c,s1.p,s1.o,s1.f]
theorem Gg (a0:List Int) (f1:(Int→Option Bool)) (g1:FuncId) (c1:List AV) (s1:Still c1) (h1:∀ (y0:Int) (q:Bool),f1 y0=some q→AC prog g1 (fnA c1 [.int .i64 y0]) (.bool q)) (r:Bool) (h:Bg a0 f1=some r):AC prog 102 [.ro (a0.map AD),.fn g1 c1] (.bool r):=by
 unfold Bg at h
 refine acF func102 mixed (h:=?_)
 try simp only [go_sem,s1.k,s1.r,s1.c,s1.p,s1.o,s1.f]
 replace h:=AB h; obtain⟨u,w,h⟩:=h
 refine AL (MK _ _ g1 c1 s1 h1 _ w) ?_
 try simp only [go_sem,s1.k,s1.r,s1.c,s1.p,s1.o,s1.f]
 refine GT ?_
 try simp only [go_sem,s1.k,s1.r,s1.c,s1.p,s1.o,s1.f]
 cases h
 simp only [go_sem,s1.k,s1.r,s1.c,s1.p,s1.o,s1.f]
theorem NP (a0 r) (h:JW a0=some r):AC prog 164 [.int .i64 a0] (.bool r):=by
 unfold JW at h
 refine acF func164 mixed (h:=Z ?_)
 exact AF trivial h
theorem Sn (a0:Int) (u:Bool) (r:Int) (h:FL a0 u=some r):Aa prog f152 [1,0,0,1,1,1] (.int .i64 r) ⟨[(0,.int .i64 a0),(18,.bool u)],[],[]⟩:=by
 unfold FL at h
 refine BL rfl rfl (Z ?_)
 refine AI h (fun h=>Z ?_) (fun h=>Z ?_)
 ·exact AF trivial h
 ·refine AK ?_
  replace h:=AB h; obtain⟨w,y,h⟩:=h
  refine AX y (Z ?_)
  exact AF trivial h
theorem So (a0:Int) (a1:Int) (u:Bool) (r:Int) (h:FM a0 a1 u=some r):Aa prog f152 [1,0,0,1] (.int .i64 r) ⟨[(0,.int .i64 a0),(1,.int .i64 a1),(5,.bool u)],[],[]⟩:=by
 unfold FM at h
 exact AF (k2 NP Sn) h
theorem Xp (a0 a1 r) (h:I2 a0 a1=some r):AC prog 152 [.int .i64 a0,.int .i64 a1] (.int .i64 r):=by
 unfold I2 at h
 refine acF func152 mixed (h:=Z ?_)
 exact AF (k1 So) h
theorem VM (a0 a1 r) (h:JX a0 a1=some r):AC prog 153 [.int .i64 a0,.int .i64 a1] (.int .i64 r):=by
 unfold JX at h
 refine acF func153 mixed (h:=Z ?_)
 exact AF trivial h
theorem KG (a0 r) (h:FD a0=some r):AC prog 143 [.int .i64 a0] (.bool r):=by
 unfold FD at h
 refine acF func143 mixed (h:=Z ?_)
 exact AF (k1 NP) h
theorem P9 (a0 r) (h:Hv a0=some r):AC prog 168 [.int .i64 a0] (.bool r):=by
 unfold Hv at h
 refine acF func168 mixed (h:=Z ?_)
 exact AF trivial h
theorem Jd (a0 a1 r) (h:EN a0 a1=some r):AC prog 154 [.int .i64 a0,.int .i64 a1] (.bool r):=by
 unfold EN at h
 refine acF func154 mixed (h:=Z ?_)
 exact AF (k3 NP KG P9) h
theorem L4 (a0 r) (h:GL a0=some r):AC prog 156 [.int .i64 a0] (.bool r):=by
 unfold GL at h
 refine acF func156 mixed (h:=Z ?_)
 exact AF trivial h
theorem QW (a0 r) (h:GC a0=some r):AC prog 155 [.int .i64 a0] (.bool r):=by
 unfold GC at h
 refine acF func155 mixed (h:=Z ?_)
 exact AF (k1 L4) h
theorem bM (a0 r) (h:Ni a0=some r):AC prog 157 [.int .i64 a0] (.bool r):=by
 unfold Ni at h
 refine acF func157 mixed (h:=Z ?_)
 exact AF trivial h
theorem Sp (a0 r) (h:GM a0=some r):AC prog 158 [.int .i64 a0] (.bool r):=by
 unfold GM at h
 refine acF func158 mixed (h:=Z ?_)
 exact AF trivial h
theorem O4 (u:Bool) (w:Bool) (r:Bool) (h:Ap u w=some r):Aa prog f131 [1,1,1,1,1] (.bool r) ⟨[(3,.bool u),(4,.bool w)],[],[]⟩:=by
 unfold Ap at h
 exact AF trivial h
theorem O5 (a0:Agent) (u:Bool) (r:Bool) (h:Cl a0 u=some r):Aa prog f131 [1,0,1] (.bool r) ⟨[(1,.box 1000000500 0),(32,.bool u)],[],[(1000000500,some (Agent.avs a0))]⟩:=by
 unfold Cl at h
 refine BL rfl rfl (Z ?_)
 refine AI h (fun h=>Z ?_) (fun h=>Z ?_)
 ·exact AF trivial h
 ·refine AK ?_
  refine AW [] .fin (by kernel_rfl) (Z ?_)
  refine AK ?_
  replace h:=AB h; obtain⟨w,y,h⟩:=h
  refine AL (Gg _ _ 155 [] (Still.of rfl) (fun j q p=>QW j  q p) _ y) (Z ?_)
  exact AF (k4 bM O4 Sp L4) h
theorem Sq (a0 r) (h:HY a0=some r):AC prog 131 [.agg (Agent.avs a0)] (.bool r):=by
 unfold HY at h
 refine acF func131 mixed (h:=Z ?_)
 exact AF (k4 O5 VM Xp Jd) h
theorem O6 (n:Nat):(∀j u r,CY n j u=some r→Aa prog f96 [1,1,0,1,0] (.bool r) ⟨[(13,.ro (j.map Agent.ds)),(14,.int .i64 (j.length:Int)),(15,.int .i64 u)],[],[]⟩)∧
    (∀j u w r,ED n j u w=some r→Aa prog f96 [1,1,0,1,0,0,1,1,0,0,1,1] (.bool r) ⟨[(13,.ro (j.map Agent.ds)),(14,.int .i64 (j.length:Int)),(15,.int .i64 u),(30,.bool w)],[],[]⟩):=by
 induction n with
 |zero=>exact⟨(fun _ _ _ h=>by rw [CY] at h; cases h),(fun _ _ _ _ h=>by rw [ED] at h; cases h)⟩
 | succ n ih=>
  obtain⟨q,p⟩:=ih
  refine⟨?_,?_⟩
  ·intro j u r h
   rw [CY] at h
   exact AF (k2 Sq p) h
  ·intro j u w r h
   rw [ED] at h
   exact AF (k1 q) h
def QX (n:Nat):=(O6 n).1
theorem QY (a0:List Agent) (u:Bool) (r:Bool) (h:GD a0 u=some r):Aa prog f96 [1,0,1] (.bool r) ⟨[(0,.ro (a0.map Agent.ds)),(12,.bool u)],[],[]⟩:=by
 unfold GD at h
 exact AF (k1 QX) h
theorem Ut (a0 r) (h:IQ a0=some r):AC prog 96 [.ro (a0.map Agent.ds)] (.bool r):=by
 unfold IQ at h
 refine acF func96 mixed (h:=Z ?_)
 exact AF (k1 QY) h
theorem Ia (n:Nat):(∀ (F:List Port) (u:Int) (I:(Port→Option Bool)) (G:FuncId) (C:List AV) (v:Still C) (h1:∀ (y0:Port) (q:Bool),I y0=some q→AC prog G (fnA C [.agg (Port.avs y0)]) (.bool q)) (r:Int),A7 n F u I=some r→Aa prog f132 [1,0,1,0] (.int .i64 r) ⟨[(0,.ro (F.map Port.ds)),(1,.fn G C),(7,.int .i64 (F.length:Int)),(8,.int .i64 u)],[],[]⟩):=by
 induction n with
 |zero=>exact((fun _ _ _ _ _ _ _ _ h=>by rw [A7] at h; cases h))
 | succ n ih=>
  have J:=ih
  ·intro F u I G C v h1 r h
   rw [A7] at h
   refine BL rfl rfl ?_
   try simp only [go_sem,v.k,v.r,v.c,v.p,v.o,v.f]
   refine Ai ?_
   try simp only [go_sem,v.k,v.r,v.c,v.p,v.o,v.f]
   refine AI h (fun h=>?_) (fun h=>?_)
   ·try simp only [go_sem,v.k,v.r,v.c,v.p,v.o,v.f]
    refine GT ?_
    try simp only [go_sem,v.k,v.r,v.c,v.p,v.o,v.f]
    replace h:=AB h; obtain⟨w,y,h⟩:=h
    refine AS y (Port.ds_len _) ?_
    try simp only [go_sem,v.k,v.r,v.c,v.p,v.o,v.f]
    replace h:=AB h; obtain⟨g,j,h⟩:=h
    refine AL (h1 _ _ j) ?_
    try simp only [go_sem,v.k,v.r,v.c,v.p,v.o,v.f]
    refine GT ?_
    try simp only [go_sem,v.k,v.r,v.c,v.p,v.o,v.f]
    refine AI h (fun h=>?_) (fun h=>?_)
    ·try simp only [go_sem,v.k,v.r,v.c,v.p,v.o,v.f]
     cases h
     simp only [go_sem,v.k,v.r,v.c,v.p,v.o,v.f]
    ·try simp only [go_sem,v.k,v.r,v.c,v.p,v.o,v.f]
     refine GT ?_
     try simp only [go_sem,v.k,v.r,v.c,v.p,v.o,v.f]
     refine V9 (DZ rfl rfl (J F (IntKind.i64.wrap (u+1)) I G C v h1 _ h):) (.one ⟨_,.done _,[],[],?_⟩)
     try simp only [go_sem,v.k,v.r,v.c,v.p,v.o,v.f]
   ·try simp only [go_sem,v.k,v.r,v.c,v.p,v.o,v.f]
    refine GT ?_
    try simp only [go_sem,v.k,v.r,v.c,v.p,v.o,v.f]
    cases h
    simp only [go_sem,v.k,v.r,v.c,v.p,v.o,v.f]
theorem Jt (a0:List Port) (f1:(Port→Option Bool)) (g1:FuncId) (c1:List AV) (s1:Still c1) (h1:∀ (y0:Port) (q:Bool),f1 y0=some q→AC prog g1 (fnA c1 [.agg (Port.avs y0)]) (.bool q)) (r:Int) (h:Dg a0 f1=some r):AC prog 132 [.ro (a0.map Port.ds),.fn g1 c1] (.int .i64 r):=by
 unfold Dg at h
 refine acF func132 mixed (h:=?_)
 try simp only [go_sem,s1.k,s1.r,s1.c,s1.p,s1.o,s1.f]
 refine CH (DZ rfl rfl (Ia fuel a0 0 f1 g1 c1 s1 h1 _ h):) (.one ⟨_,.done _,[],[],?_⟩)
 try simp only [go_sem,s1.k,s1.r,s1.c,s1.p,s1.o,s1.f]
theorem Ib (a0:List Port) (f1:(Port→Option Bool)) (g1:FuncId) (c1:List AV) (s1:Still c1) (h1:∀ (y0:Port) (q:Bool),f1 y0=some q→AC prog g1 (fnA c1 [.agg (Port.avs y0)]) (.bool q)) (r:Bool) (h:B5 a0 f1=some r):AC prog 97 [.ro (a0.map Port.ds),.fn g1 c1] (.bool r):=by
 unfold B5 at h
 refine acF func97 mixed (h:=?_)
 try simp only [go_sem,s1.k,s1.r,s1.c,s1.p,s1.o,s1.f]
 replace h:=AB h; obtain⟨u,w,h⟩:=h
 refine AL (Jt _ _ g1 c1 s1 h1 _ w) ?_
 try simp only [go_sem,s1.k,s1.r,s1.c,s1.p,s1.o,s1.f]
 refine GT ?_
 try simp only [go_sem,s1.k,s1.r,s1.c,s1.p,s1.o,s1.f]
 cases h
 simp only [go_sem,s1.k,s1.r,s1.c,s1.p,s1.o,s1.f]
theorem O7 (n:Nat):(∀p u w r,CF n p u w=some r→Aa prog f98 [1,1,0,1,0] (.ow (some 2) (r.map Port.ds)) ⟨[(3,.own 1000000000),(10,.ro (p.agents.map Agent.ds)),(11,.int .i64 (p.agents.length:Int)),(12,.int .i64 w)],[(1000000000,some ⟨List.map Port.ds u,some 2,0,.no⟩)],[]⟩)∧
    (∀p w y q g r,DH n p w y q g=some r→Aa prog f98 [1,1,0,1,0,0,1,1,0,0,1,1,0] (.ow (some 2) (r.map Port.ds)) ⟨[(3,.own 1000004000),(4,.int .i64 w),(10,.ro (p.agents.map Agent.ds)),(11,.int .i64 (p.agents.length:Int)),(12,.int .i64 w),(19,.int .i64 (y.ports.length:Int)),(20,.int .i64 g)],[(1000004000,some ⟨List.map Port.ds q,some 2,0,.no⟩)],[]⟩):=by
 induction n with
 |zero=>exact⟨(fun _ _ _ _ h=>by rw [CF] at h; cases h),(fun _ _ _ _ _ _ h=>by rw [DH] at h; cases h)⟩
 | succ n ih=>
  obtain⟨F,C⟩:=ih
  refine⟨?_,?_⟩
  ·intro p u w r h
   rw [CF] at h
   exact AF (k1 C) h
  ·intro p w y q g r h
   rw [DH] at h
   refine BL rfl rfl (Z ?_)
   refine Ai (Z ?_)
   refine AI h (fun h=>Z ?_) (fun h=>Z ?_)
   ·refine AK ?_
    replace h:=AB h; obtain⟨k,b,h⟩:=h
    have G:=AT b
    obtain⟨v,j⟩:=G
    refine BO .no (Z ?_)
    refine By (Z ?_)
    refine Ar (k.map Port.ds) (by rw [← j]; simp only [List.map_append,List.map_cons,List.map_nil,List.nil_append,List.append_nil,go_sem,Port.ds_eq]) (Z ?_)
    exact AF (k1 C) h
   ·exact AF (k1 F) h
def QZ (n:Nat):=(O7 n).1
theorem Uu (a0 r) (h:IR a0=some r):AC prog 98 [.rop (Net.avs a0) 0] (.ow (some 2) (r.map Port.ds)):=by
 unfold IR at h
 refine acF func98 mixed (h:=Z ?_)
 refine CH (DZ rfl rfl (QZ fuel a0 [] 0 _ h):) (.one ⟨_,.slot 3 2000000000 (some 2) .no (by simp only [go_sem]) (by simp only [go_sem]) (.done _),[(1000000000,2000000000)],[],?_⟩)
 simp only [go_sem]
 all_goals try rfl
theorem C5 (a0 a1 r) (h:Bf a0 a1=some r):AC prog 100 [.rop (Net.avs a0) 0,.agg (Port.avs a1)] (.agg (Port.rv r)):=by
 unfold Bf at h
 refine acF func100 mixed (h:=Z ?_)
 refine AK ?_
 refine AW [false,false,false,false,false,false,false,false,false,false,false,false,false,true] (Tr.sq [13] .fin) (by kernel_rfl) (Z ?_)
 exact AF trivial h
theorem Xq (a0 a1 r) (h:Ky a0 a1=some r):AC prog 101 [.ro (a0.map Agent.ds),.agg (Port.avs a1)] (.bool r):=by
 unfold Ky at h
 refine acF func101 mixed (h:=Z ?_)
 exact AF trivial h
theorem Sr (a0 a1 r) (h:HZ a0 a1=some r):AC prog 99 [.agg (Port.avs a0),.rop (Net.avs a1) 0] (.bool r):=by
 unfold HZ at h
 refine acF func99 mixed (h:=Z ?_)
 exact AF (k2 C5 Xq) h
theorem H6 (a0 r) (h:EA a0=some r):AC prog 58 [.agg (Net.avs a0)] (.bool r):=by
 unfold EA at h
 refine acF func58 mixed (h:=Z ?_)
 replace h:=AB h; obtain⟨u,w,h⟩:=h
 refine AL (Ut _ _ w) (Z ?_)
 refine AK ?_
 refine AI h (fun h=>Z ?_) (fun h=>Z ?_)
 ·exact AF trivial h
 ·refine AK ?_
  replace h:=AB h; obtain⟨y,g,h⟩:=h
  refine AL (Uu _ _ g) (Z ?_)
  replace h:=AB h; obtain⟨j,k,h⟩:=h
  refine AL (Ib _ _ 99 [.agg [],.rop [.ro (a0.agents.map Agent.ds)] 0] (Still.of (by simp only [Cp,CC,Bool.and_true,Bool.true_and,Bool.and_self])) (fun p q v=>Sr p _ q v) _ k) (Z ?_)
  exact AF trivial h
theorem DU (a0 a1 a2 r) (h:CU a0 a1 a2=some r):AC prog 40 [.int .i64 a0,.int .i64 a1,.int .i64 a2] (.bool r):=by
 unfold CU at h
 refine acF func40 mixed (h:=Z ?_)
 exact AF trivial h
theorem Jl (a0 r) (h:Dm a0=some r):AC prog 86 [.rop (Agent.avs a0) 0] (.int .i64 r):=by
 unfold Dm at h
 refine acF func86 mixed (h:=Z ?_)
 exact AF trivial h
theorem Ss (u:Bool) (r:Int) (h:FN u=some r):Aa prog f146 [1,1,1,0,1,0,1,1,1,1,1] (.int .i64 r) ⟨[(23,.bool u)],[],[]⟩:=by
 unfold FN at h
 exact AF trivial h
theorem Su (a0:Int) (u:Bool) (r:Int) (h:GN a0 u=some r):Aa prog f146 [1,1,1,0,1,0,1,1,1] (.int .i64 r) ⟨[(13,.int .i64 a0),(19,.bool u)],[],[]⟩:=by
 unfold GN at h
 exact AF (k1 Ss) h
theorem Sv (a0:Int) (u:Bool) (r:Int) (h:FO a0 u=some r):Aa prog f146 [1,1,1,0,1,0,1] (.int .i64 r) ⟨[(13,.int .i64 a0),(14,.bool u)],[],[]⟩:=by
 unfold FO at h
 exact AF (k1 Su) h
theorem Xr (a0 a1 r) (h:I3 a0 a1=some r):AC prog 146 [.int .i64 a0,.int .i64 a1] (.int .i64 r):=by
 unfold I3 at h
 refine acF func146 mixed (h:=Z ?_)
 exact AF (k2 DU Sv) h
theorem RX (u:Bool) (r:Bool) (h:BF u=some r):Aa prog f92 [1,0,1,0,1] (.bool r) ⟨[(4,.bool u)],[],[]⟩:=by
 unfold BF at h
 exact AF trivial h
theorem KO (a0 r) (h:Ee a0=some r):AC prog 92 [.int .i64 a0] (.bool r):=by
 unfold Ee at h
 refine acF func92 mixed (h:=Z ?_)
 exact AF (k1 RX) h
theorem Xs (a0 r) (h:Kz a0=some r):AC prog 165 [.int .i64 a0] (.bool r):=by
 unfold Kz at h
 refine acF func165 mixed (h:=Z ?_)
 exact AF (k1 DU) h
theorem KN (a0 a1 r) (h:FF a0 a1=some r):AC prog 147 [.int .i64 a0,.int .i64 a1] (.bool r):=by
 unfold FF at h
 refine acF func147 mixed (h:=Z ?_)
 exact AF (k3 KO DU Xs) h
theorem R9 (a0 r) (h:JY a0=some r):AC prog 166 [.int .i64 a0] (.bool r):=by
 unfold JY at h
 refine acF func166 mixed (h:=Z ?_)
 exact AF (k1 DU) h
theorem O8 (n:Nat):(∀j u r,Cm n j u=some r→Aa prog f148 [1,0,1,0,1,1,1,1,1,1,1,1,1,1,1,0,1,0,1,0] (.bool r) ⟨[(0,.rop (Agent.avs j) 0),(3,.int .i64 u)],[],[]⟩):=by
 induction n with
 |zero=>exact((fun _ _ _ h=>by rw [Cm] at h; cases h))
 | succ n ih=>
  have p:=ih
  ·intro j u r h
   rw [Cm] at h
   exact AF (k2 R9 p) h
theorem O9 (a0:Agent) (u:Bool) (r:Bool) (h:CJ a0 u=some r):Aa prog f148 [1,0,1,0,1,1,1,1,1,1,1,1,1,1,1,0,0,1] (.bool r) ⟨[(0,.rop (Agent.avs a0) 0),(130,.bool u)],[],[]⟩:=by
 unfold CJ at h
 exact AF (k1 O8) h
theorem PA (a0:Agent) (u:Bool) (r:Bool) (h:Fb a0 u=some r):Aa prog f148 [1,0,1,0,1,1,1,1,1,1,1,1,1,1,1] (.bool r) ⟨[(0,.rop (Agent.avs a0) 0),(92,.bool u)],[],[]⟩:=by
 unfold Fb at h
 exact AF (k2 O9 DU) h
theorem Sw (a0 r) (h:Ha a0=some r):AC prog 148 [.rop (Agent.avs a0) 0] (.bool r):=by
 unfold Ha at h
 refine acF func148 mixed (h:=Z ?_)
 exact AF (k3 DU R9 PA) h
theorem VN (a0 r) (h:JZ a0=some r):AC prog 114 [.rop (Agent.avs a0) 0] (.bool r):=by
 unfold JZ at h
 refine acF func114 mixed (h:=Z ?_)
 exact AF (k4 Jl Xr KN Sw) h
theorem PB (n:Nat):(∀j u r,CZ n j u=some r→Aa prog f80 [1,1,0,1,0] (.bool r) ⟨[(0,.ro (j.map Agent.ds)),(3,.int .i64 u)],[],[]⟩)∧
    (∀j u w r,EE n j u w=some r→Aa prog f80 [1,1,0,1,0,0,1,0,0,1] (.bool r) ⟨[(0,.ro (j.map Agent.ds)),(3,.int .i64 u),(29,.bool w)],[],[]⟩):=by
 induction n with
 |zero=>exact⟨(fun _ _ _ h=>by rw [CZ] at h; cases h),(fun _ _ _ _ h=>by rw [EE] at h; cases h)⟩
 | succ n ih=>
  obtain⟨q,p⟩:=ih
  refine⟨?_,?_⟩
  ·intro j u r h
   rw [CZ] at h
   exact AF (k2 VN p) h
  ·intro j u w r h
   rw [EE] at h
   exact AF (k1 q) h
def Qa (n:Nat):=(PB n).1
theorem Uv (a0 r) (h:IS a0=some r):AC prog 80 [.ro (a0.map Agent.ds)] (.bool r):=by
 unfold IS at h
 refine acF func80 mixed (h:=Z ?_)
 exact AF (k2 DU Qa) h
theorem Xt (a0 a1 r) (h:K0 a0 a1=some r):AC prog 81 [.ro (a0.map Agent.ds),.agg (Port.avs a1)] (.bool r):=by
 unfold K0 at h
 refine acF func81 mixed (h:=Z ?_)
 exact AF (k1 DU) h
theorem Uw (n:Nat):(∀j u r,Ek n j u=some r→Aa prog f38 [1,1,0,1,0] (.bool r) ⟨[(0,.rop [.ro (j.agents.map Agent.ds)] 0),(3,.int .i64 u)],[],[]⟩)∧
    (∀j u w y r,E9 n j u w y=some r→Aa prog f38 [1,1,0,1,0,0,1,0,0,1,1,0] (.bool r) ⟨[(0,.rop [.ro (j.agents.map Agent.ds)] 0),(3,.int .i64 u),(4,.rop (Agent.avs w) 0),(5,.int .i64 y)],[],[]⟩)∧
    (∀j u y w q r,FA n j u y w q=some r→Aa prog f38 [1,1,0,1,0,0,1,0,0,1,1,0,0,1,0,0,1,1,1] (.bool r) ⟨[(0,.rop [.ro (j.agents.map Agent.ds)] 0),(3,.int .i64 u),(4,.rop (Agent.avs w) 0),(5,.int .i64 y),(76,.bool q)],[],[]⟩):=by
 induction n with
 |zero=>exact⟨(fun _ _ _ h=>by rw [Ek] at h; cases h),(fun _ _ _ _ _ h=>by rw [E9] at h; cases h),(fun _ _ _ _ _ _ h=>by rw [FA] at h; cases h)⟩
 | succ n ih=>
  obtain⟨C,p,v⟩:=ih
  refine⟨?_,?_,?_⟩
  ·intro j u r h
   rw [Ek] at h
   exact AF (k1 p) h
  ·intro j u w y r h
   rw [E9] at h
   exact AF (k3 v Xt C) h
  ·intro j u y w q r h
   rw [FA] at h
   exact AF (k1 p) h
def VO (n:Nat):=(Uw n).1
theorem Uo (a0 r) (h:Lf a0=some r):AC prog 38 [.rop (Net.avs a0) 0] (.bool r):=by
 unfold Lf at h
 refine acF func38 mixed (h:=Z ?_)
 exact AF (k2 Uv VO) h
theorem Im (n:Nat):(∀ (F:List Net) (u:Int) (I:(Net→Option Bool)) (G:FuncId) (C:List AV) (v:Still C) (h1:∀ (y0:Net) (q:Bool),I y0=some q→AC prog G (fnA C [.agg (Net.avs y0)]) (.bool q)) (r:Int),BG n F u I=some r→Aa prog f130 [1,0,1,0] (.int .i64 r) ⟨[(0,.ro (F.map Net.ds)),(1,.fn G C),(7,.int .i64 (F.length:Int)),(8,.int .i64 u)],[],[]⟩):=by
 induction n with
 |zero=>exact((fun _ _ _ _ _ _ _ _ h=>by rw [BG] at h; cases h))
 | succ n ih=>
  have J:=ih
  ·intro F u I G C v h1 r h
   rw [BG] at h
   refine BL rfl rfl ?_
   try simp only [go_sem,v.k,v.r,v.c,v.p,v.o,v.f]
   refine Ai ?_
   try simp only [go_sem,v.k,v.r,v.c,v.p,v.o,v.f]
   refine AI h (fun h=>?_) (fun h=>?_)
   ·try simp only [go_sem,v.k,v.r,v.c,v.p,v.o,v.f]
    refine GT ?_
    try simp only [go_sem,v.k,v.r,v.c,v.p,v.o,v.f]
    replace h:=AB h; obtain⟨w,y,h⟩:=h
    refine AS y (Net.ds_len _) ?_
    try simp only [go_sem,v.k,v.r,v.c,v.p,v.o,v.f]
    replace h:=AB h; obtain⟨g,j,h⟩:=h
    refine AL (h1 _ _ j) ?_
    try simp only [go_sem,v.k,v.r,v.c,v.p,v.o,v.f]
    refine GT ?_
    try simp only [go_sem,v.k,v.r,v.c,v.p,v.o,v.f]
    refine AI h (fun h=>?_) (fun h=>?_)
    ·try simp only [go_sem,v.k,v.r,v.c,v.p,v.o,v.f]
     cases h
     simp only [go_sem,v.k,v.r,v.c,v.p,v.o,v.f]
    ·try simp only [go_sem,v.k,v.r,v.c,v.p,v.o,v.f]
     refine GT ?_
     try simp only [go_sem,v.k,v.r,v.c,v.p,v.o,v.f]
     refine V9 (DZ rfl rfl (J F (IntKind.i64.wrap (u+1)) I G C v h1 _ h):) (.one ⟨_,.done _,[],[],?_⟩)
     try simp only [go_sem,v.k,v.r,v.c,v.p,v.o,v.f]
   ·try simp only [go_sem,v.k,v.r,v.c,v.p,v.o,v.f]
    refine GT ?_
    try simp only [go_sem,v.k,v.r,v.c,v.p,v.o,v.f]
    cases h
    simp only [go_sem,v.k,v.r,v.c,v.p,v.o,v.f]
theorem KR (a0:List Net) (f1:(Net→Option Bool)) (g1:FuncId) (c1:List AV) (s1:Still c1) (h1:∀ (y0:Net) (q:Bool),f1 y0=some q→AC prog g1 (fnA c1 [.agg (Net.avs y0)]) (.bool q)) (r:Int) (h:EG a0 f1=some r):AC prog 130 [.ro (a0.map Net.ds),.fn g1 c1] (.int .i64 r):=by
 unfold EG at h
 refine acF func130 mixed (h:=?_)
 try simp only [go_sem,s1.k,s1.r,s1.c,s1.p,s1.o,s1.f]
 refine CH (DZ rfl rfl (Im fuel a0 0 f1 g1 c1 s1 h1 _ h):) (.one ⟨_,.done _,[],[],?_⟩)
 try simp only [go_sem,s1.k,s1.r,s1.c,s1.p,s1.o,s1.f]
theorem In (a0:List Net) (f1:(Net→Option Bool)) (g1:FuncId) (c1:List AV) (s1:Still c1) (h1:∀ (y0:Net) (q:Bool),f1 y0=some q→AC prog g1 (fnA c1 [.agg (Net.avs y0)]) (.bool q)) (r:Bool) (h:CG a0 f1=some r):AC prog 94 [.ro (a0.map Net.ds),.fn g1 c1] (.bool r):=by
 unfold CG at h
 refine acF func94 mixed (h:=?_)
 try simp only [go_sem,s1.k,s1.r,s1.c,s1.p,s1.o,s1.f]
 replace h:=AB h; obtain⟨u,w,h⟩:=h
 refine AL (KR _ _ g1 c1 s1 h1 _ w) ?_
 try simp only [go_sem,s1.k,s1.r,s1.c,s1.p,s1.o,s1.f]
 refine GT ?_
 try simp only [go_sem,s1.k,s1.r,s1.c,s1.p,s1.o,s1.f]
 cases h
 simp only [go_sem,s1.k,s1.r,s1.c,s1.p,s1.o,s1.f]
theorem ML (a0 r) (h:FP a0=some r):AC prog 95 [.agg (Net.avs a0)] (.bool r):=by
 unfold FP at h
 refine acF func95 mixed (h:=Z ?_)
 exact AF (k1 H6) h
theorem N0 (a0 r) (h:Ey a0=some r):AC prog 57 [.ro (a0.map Net.ds)] (.bool r):=by
 unfold Ey at h
 refine acF func57 mixed (h:=Z ?_)
 refine AI h (fun h=>Z ?_) (fun h=>Z ?_)
 ·replace h:=AB h; obtain⟨u,w,h⟩:=h
  refine AL (In _ _ 95 [] (Still.of rfl) (fun j q p=>ML j  q p) _ w) (Z ?_)
  exact AF trivial h
 ·exact AF trivial h
theorem Sx (n:Nat):(∀j u r,FQ n j u=some r→Aa prog f37 [1,1,0,1,0] (.bool r) ⟨[(0,.ro (j.map Net.ds)),(3,.int .i64 u)],[],[]⟩):=by
 induction n with
 |zero=>exact((fun _ _ _ h=>by rw [FQ] at h; cases h))
 | succ n ih=>
  have p:=ih
  ·intro j u r h
   rw [FQ] at h
   exact AF (k2 Uo p) h
theorem Xg (a0 r) (h:Kq a0=some r):AC prog 37 [.ro (a0.map Net.ds)] (.bool r):=by
 unfold Kq at h
 refine acF func37 mixed (h:=Z ?_)
 exact AF (k1 Sx) h
end Go.Proofs.YthenkmapmnkelaaGreatDoor.Ab
