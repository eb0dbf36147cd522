/-
 The functions do what their models say. Printed by wip/ab/gen.py.
-/
import Derived.Test.YtclmbjbbojdojaaGreatModW
import Derived.Test.YtclmbjbbojdojaaGreatTi2
import Derived.Test.YtclmbjbbojdojaaGreatWlk
namespace Go.Proofs.YtclmbjbbojdojaaGreat.Ab
set_option linter.unusedVariables false
set_option linter.unusedSimpArgs false
set_option maxRecDepth 20000
set_option maxHeartbeats 4000000
open Go.RowKit
theorem Gw (a0 a1 r) (h:DB a0 a1=some r):AC Tryz.prog 148 [.agg (Address.avs a0),.agg (Address.avs a1)] (.bool r):=by
 unfold DB at h
 refine acF Tryz.func148 mixed (h:=Z ?_)
 exact AF trivial h
theorem Pt (n:Nat):(∀a0 a1 u r,D2 n a0 a1 u=some r→Aa Tryz.prog Tryz.f281 [1,1,0,1,0] (.bool r) ⟨[(0,.ro (a0.map Address.ds)),(1,.ro (a1.map Address.ds)),(5,.int .i64 u)],[],[]⟩):=by
 induction n with
 |zero=>exact((fun _ _ _ _ h=>by rw [D2] at h; cases h))
 | succ n ih=>
  have ih0:=ih
  ·intro a0 a1 u r h
   rw [D2] at h
   exact AF (k2 Gw ih0) h
theorem TW (a0 a1 r) (h:IL a0 a1=some r):AC Tryz.prog 281 [.ro (a0.map Address.ds),.ro (a1.map Address.ds)] (.bool r):=by
 unfold IL at h
 refine acF Tryz.func281 mixed (h:=Z ?_)
 exact AF (k1 Pt) h
theorem Lw (a0 a1 r) (h:FK a0 a1=some r):AC Tryz.prog 251 [.agg (ShardCell.avs a0),.agg (ShardCell.avs a1)] (.bool r):=by
 unfold FK at h
 refine acF Tryz.func251 mixed (h:=Z ?_)
 exact AF (k2 LG TW) h
theorem Nm (n:Nat):(∀a0 a1 u r,C1 n a0 a1 u=some r→Aa Tryz.prog Tryz.f248 [1,1,0,1,0] (.bool r) ⟨[(0,.ro (a0.map ShardCell.ds)),(1,.ro (a1.map ShardCell.ds)),(5,.int .i64 u)],[],[]⟩):=by
 induction n with
 |zero=>exact((fun _ _ _ _ h=>by rw [C1] at h; cases h))
 | succ n ih=>
  have ih0:=ih
  ·intro a0 a1 u r h
   rw [C1] at h
   exact AF (k2 Lw ih0) h
theorem RF (a0 a1 r) (h:Gp a0 a1=some r):AC Tryz.prog 248 [.ro (a0.map ShardCell.ds),.ro (a1.map ShardCell.ds)] (.bool r):=by
 unfold Gp at h
 refine acF Tryz.func248 mixed (h:=Z ?_)
 exact AF (k1 Nm) h
theorem TX (a0 a1 r) (h:G7 a0 a1=some r):AC Tryz.prog 279 [.agg (ShardVar.avs a0),.agg (ShardVar.avs a1)] (.bool r):=by
 unfold G7 at h
 refine acF Tryz.func279 mixed (h:=Z ?_)
 exact AF (k1 Gw) h
theorem OX (n:Nat):(∀a0 a1 u r,DM n a0 a1 u=some r→Aa Tryz.prog Tryz.f249 [1,1,0,1,0] (.bool r) ⟨[(0,.ro (a0.map ShardVar.ds)),(1,.ro (a1.map ShardVar.ds)),(5,.int .i64 u)],[],[]⟩):=by
 induction n with
 |zero=>exact((fun _ _ _ _ h=>by rw [DM] at h; cases h))
 | succ n ih=>
  have ih0:=ih
  ·intro a0 a1 u r h
   rw [DM] at h
   exact AF (k2 TX ih0) h
theorem SM (a0 a1 r) (h:HN a0 a1=some r):AC Tryz.prog 249 [.ro (a0.map ShardVar.ds),.ro (a1.map ShardVar.ds)] (.bool r):=by
 unfold HN at h
 refine acF Tryz.func249 mixed (h:=Z ?_)
 exact AF (k1 OX) h
theorem RG (a0 a1 r) (h:Ff a0 a1=some r):AC Tryz.prog 280 [.agg (ShardRedex.avs a0),.agg (ShardRedex.avs a1)] (.bool r):=by
 unfold Ff at h
 refine acF Tryz.func280 mixed (h:=Z ?_)
 exact AF (k1 Gw) h
theorem Mq (n:Nat):(∀a0 a1 u r,Ch n a0 a1 u=some r→Aa Tryz.prog Tryz.f250 [1,1,0,1,0] (.bool r) ⟨[(0,.ro (a0.map ShardRedex.ds)),(1,.ro (a1.map ShardRedex.ds)),(5,.int .i64 u)],[],[]⟩):=by
 induction n with
 |zero=>exact((fun _ _ _ _ h=>by rw [Ch] at h; cases h))
 | succ n ih=>
  have ih0:=ih
  ·intro a0 a1 u r h
   rw [Ch] at h
   exact AF (k2 RG ih0) h
theorem Pu (a0 a1 r) (h:GI a0 a1=some r):AC Tryz.prog 250 [.ro (a0.map ShardRedex.ds),.ro (a1.map ShardRedex.ds)] (.bool r):=by
 unfold GI at h
 refine acF Tryz.func250 mixed (h:=Z ?_)
 exact AF (k1 Mq) h
theorem Xz (a0 a1 r) (h:Jv a0 a1=some r):AC Tryz.prog 208 [.agg (Shard.avs a0),.agg (Shard.avs a1)] (.bool r):=by
 unfold Jv at h
 refine acF Tryz.func208 mixed (h:=Z ?_)
 exact AF (k3 RF SM Pu) h
theorem SN (n:Nat):(∀a0 a1 u r,FL n a0 a1 u=some r→Aa Tryz.prog Tryz.f147 [1,1,0,1,0] (.bool r) ⟨[(0,.ro (a0.map Shard.ds)),(1,.ro (a1.map Shard.ds)),(5,.int .i64 u)],[],[]⟩):=by
 induction n with
 |zero=>exact((fun _ _ _ _ h=>by rw [FL] at h; cases h))
 | succ n ih=>
  have ih0:=ih
  ·intro a0 a1 u r h
   rw [FL] at h
   exact AF (k2 Xz ih0) h
theorem Vy (a0 a1 r) (h:KR a0 a1=some r):AC Tryz.prog 147 [.ro (a0.map Shard.ds),.ro (a1.map Shard.ds)] (.bool r):=by
 unfold KR at h
 refine acF Tryz.func147 mixed (h:=Z ?_)
 exact AF (k1 SN) h
theorem Zg (a0 a1 r) (h:NN a0 a1=some r):AC Tryz.prog 82 [.agg (Grid.avs a0),.agg (Grid.avs a1)] (.bool r):=by
 unfold NN at h
 refine acF Tryz.func82 mixed (h:=Z ?_)
 exact AF (k2 Vy Gw) h
theorem Vz (a0 a1 r) (h:Ir a0 a1=some r):AC Tryz.prog 209 [.agg (Parcel.avs a0),.agg (Parcel.avs a1)] (.bool r):=by
 unfold Ir at h
 refine acF Tryz.func209 mixed (h:=Z ?_)
 exact AF (k2 Lw Gw) h
theorem RH (n:Nat):(∀a0 a1 u r,Eb n a0 a1 u=some r→Aa Tryz.prog Tryz.f149 [1,1,0,1,0] (.bool r) ⟨[(0,.ro (a0.map Parcel.ds)),(1,.ro (a1.map Parcel.ds)),(5,.int .i64 u)],[],[]⟩):=by
 induction n with
 |zero=>exact((fun _ _ _ _ h=>by rw [Eb] at h; cases h))
 | succ n ih=>
  have ih0:=ih
  ·intro a0 a1 u r h
   rw [Eb] at h
   exact AF (k2 Vz ih0) h
theorem VN (a0 a1 r) (h:Hw a0 a1=some r):AC Tryz.prog 149 [.ro (a0.map Parcel.ds),.ro (a1.map Parcel.ds)] (.bool r):=by
 unfold Hw at h
 refine acF Tryz.func149 mixed (h:=Z ?_)
 exact AF (k1 RH) h
theorem Pv (n:Nat):(∀a0 a1 u r,D3 n a0 a1 u=some r→Aa Tryz.prog Tryz.f83 [1,1,0,1,0] (.bool r) ⟨[(0,.ro (List.map (slD Parcel.ds) a0)),(1,.ro (List.map (slD Parcel.ds) a1)),(5,.int .i64 u)],[],[]⟩):=by
 induction n with
 |zero=>exact((fun _ _ _ _ h=>by rw [D3] at h; cases h))
 | succ n ih=>
  have ih0:=ih
  ·intro a0 a1 u r h
   rw [D3] at h
   exact AF (k2 VN ih0) h
theorem TY (a0 a1 r) (h:IM a0 a1=some r):AC Tryz.prog 83 [.ro (List.map (slD Parcel.ds) a0),.ro (List.map (slD Parcel.ds) a1)] (.bool r):=by
 unfold IM at h
 refine acF Tryz.func83 mixed (h:=Z ?_)
 exact AF (k1 Pv) h
theorem RI (n:Nat):(∀a0 a1 u r,Ec n a0 a1 u=some r→Aa Tryz.prog Tryz.f84 [1,1,0,1,0] (.bool r) ⟨[(0,.ro (List.map (slD AB) a0)),(1,.ro (List.map (slD AB) a1)),(5,.int .i64 u)],[],[]⟩):=by
 induction n with
 |zero=>exact((fun _ _ _ _ h=>by rw [Ec] at h; cases h))
 | succ n ih=>
  have ih0:=ih
  ·intro a0 a1 u r h
   rw [Ec] at h
   exact AF (k2 LG ih0) h
theorem VO (a0 a1 r) (h:JK a0 a1=some r):AC Tryz.prog 84 [.ro (List.map (slD AB) a0),.ro (List.map (slD AB) a1)] (.bool r):=by
 unfold JK at h
 refine acF Tryz.func84 mixed (h:=Z ?_)
 exact AF (k1 RI) h
theorem U8 (a0 a1 r) (h:JA a0 a1=some r):AC Tryz.prog 36 [.agg (Cluster.avs a0),.agg (Cluster.avs a1)] (.bool r):=by
 unfold JA at h
 refine acF Tryz.func36 mixed (h:=Z ?_)
 exact AF (k4 Zg TY VO LG) h
theorem TZ (n:Nat):(∀a0 a1 u r,F7 n a0 a1 u=some r→Aa Tryz.prog Tryz.f65 [1,1,0,1,0] (.bool r) ⟨[(0,.ro (a0.map BA)),(1,.ro (a1.map BA)),(5,.int .i64 u)],[],[]⟩):=by
 induction n with
 |zero=>exact((fun _ _ _ _ h=>by rw [F7] at h; cases h))
 | succ n ih=>
  have ih0:=ih
  ·intro a0 a1 u r h
   rw [F7] at h
   exact AF (k1 ih0) h
theorem Xq (a0 a1 r) (h:Ld a0 a1=some r):AC Tryz.prog 65 [.ro (a0.map BA),.ro (a1.map BA)] (.bool r):=by
 unfold Ld at h
 refine acF Tryz.func65 mixed (h:=Z ?_)
 exact AF (k1 TZ) h
theorem Nn (n:Nat):(∀u w y (z1:Option Nat) r,CL n u w y=some r→Dl Tryz.prog Tryz.f214 [1,0,1,0] (.int .i64 r.1) [(1,⟨List.map Address.ds r.2,z1,0,.no⟩)] [] ⟨[(0,.own 1),(1,.int .i64 w),(5,.int .i64 y)],[(1,some ⟨List.map Address.ds u,z1,0,.no⟩)],[]⟩):=by
 induction n with
 |zero=>exact((fun _ _ _ _ _ h=>by rw [CL] at h; cases h))
 | succ n ih=>
  have ih0:=ih
  ·intro u w y z1 r h
   rw [CL] at h
   refine BO rfl rfl (Z ?_)
   refine Ae (Z ?_)
   refine AJ h (fun h=>Z ?_) (fun h=>Z ?_)
   ·refine AW ?_
    replace h:=AD h; obtain⟨q,g,h⟩:=h
    refine AO g (Address.ds_len _) (Z ?_)
    replace h:=AD h; obtain⟨j,k,h⟩:=h
    refine Ai (AU g) (Z ?_)
    refine AP (j.map Address.ds) (by rw [← AL k]; simp only [List.map_set,go_sem,Address.ds_eq]) (Z ?_)
    replace h:=AD h; obtain⟨b,d,h⟩:=h
    refine AO d (Address.ds_len _) (Z ?_)
    replace h:=AD h; obtain⟨c,e,h⟩:=h
    refine Ai (AU d) (Z ?_)
    refine AP (c.map Address.ds) (by rw [← AL e]; simp only [List.map_set,go_sem,Address.ds_eq]) (Z ?_)
    replace h:=AD h; obtain⟨i,l,h⟩:=h
    refine AO l (Address.ds_len _) (Z ?_)
    replace h:=AD h; obtain⟨t,s,h⟩:=h
    refine Ai (AU l) (Z ?_)
    refine AP (t.map Address.ds) (by rw [← AL s]; simp only [List.map_set,go_sem,Address.ds_eq]) (Z ?_)
    refine AW ?_
    exact Um (ih0 t (IntKind.i64.wrap ((IntKind.i64.wrap ((IntKind.i64.wrap (w+1))+1))+1)) (IntKind.i64.wrap (y+1)) z1 _ h)
   ·exact AF trivial h
theorem K3 (a0 a1) (z1:Option Nat) (r) (h:Fg a0 a1=some r):AG Tryz.prog 214 [.own 1,.int .i64 a1] [(1,⟨List.map Address.ds a0,z1,0,.no⟩)] [] (.int .i64 r.1) [(1,⟨List.map Address.ds r.2,z1,0,.no⟩)] [] :=by
 unfold Fg at h
 refine agF Tryz.func214 mixed (h:=Z ?_)
 exact Sw (Nn fuel a0 a1 0 z1 _ h)
theorem MP (n:Nat):(∀u w y (z1:Option Nat) r,Bp n u w y=some r→Dl Tryz.prog Tryz.f211 [1,0,1,0] (.int .i64 r.1) [(1,⟨List.map ShardCell.ds r.2,z1,0,.no⟩)] [] ⟨[(0,.own 1),(1,.int .i64 w),(5,.int .i64 y)],[(1,some ⟨List.map ShardCell.ds u,z1,0,.no⟩)],[]⟩):=by
 induction n with
 |zero=>exact((fun _ _ _ _ _ h=>by rw [Bp] at h; cases h))
 | succ n ih=>
  have ih0:=ih
  ·intro u w y z1 r h
   rw [Bp] at h
   refine BO rfl rfl (Z ?_)
   refine Ae (Z ?_)
   refine AJ h (fun h=>Z ?_) (fun h=>Z ?_)
   ·refine AW ?_
    replace h:=AD h; obtain⟨q,g,h⟩:=h
    refine AO g (ShardCell.ds_len _) (Z ?_)
    replace h:=AD h; obtain⟨j,k,h⟩:=h
    refine Ai (AU g) (Z ?_)
    refine AP (j.map ShardCell.ds) (by rw [← AL k]; simp only [List.map_set,go_sem,ShardCell.ds_eq]) (Z ?_)
    replace h:=AD h; obtain⟨b,d,h⟩:=h
    refine AO d (ShardCell.ds_len _) (Z ?_)
    replace h:=AD h; obtain⟨c,e,h⟩:=h
    refine Ai (AU d) (Z ?_)
    refine AP (c.map ShardCell.ds) (by rw [← AL e]; simp only [List.map_set,go_sem,ShardCell.ds_eq]) (Z ?_)
    replace h:=AD h; obtain⟨i,l,h⟩:=h
    refine AO l (ShardCell.ds_len _) (Z ?_)
    replace h:=AD h; obtain⟨t,s,h⟩:=h
    refine Ai (AU l) (Z ?_)
    refine AP (t.map ShardCell.ds) (by rw [← AL s]; simp only [List.map_set,go_sem,ShardCell.ds_eq]) (Z ?_)
    replace h:=AD h; obtain⟨o,z,h⟩:=h
    refine AO z (ShardCell.ds_len _) (Z ?_)
    refine Ai (AU z) (Z ?_)
    replace h:=AD h; obtain⟨u1,u2,h⟩:=h
    replace h:=AD h; obtain⟨u3,u4,h⟩:=h
    refine caG ⟨[(3000176096,.sub 1 0 [(5,Int.toNat y,3)],none)],[(1,3000176096)],[],[],[],true⟩ (GL _ _ none _ u2) (Z ?_)
    refine Ai (KA (r:=List.map AB o.data) (AU z) (ShardCell.ds_len _) (by simp only [go_sem,ShardCell.ds_eq])) (Z ?_)
    refine AP ((t.map ShardCell.ds).set (Int.toNat y) [.int .i64 o.kind,.int .i64 o.level,.int .i64 o.value,.gone,.sl (o.aux.map Address.ds)]) ((Ei (AU z) (d':=.sl (o.data.map AB)) (by simp only [go_sem,ShardCell.ds_eq])).trans (by simp only [go_sem,ShardCell.ds_eq])) (Z ?_)
    refine Ad (KC (FV (AU z)) rfl rfl) (Z ?_)
    refine AP (u3.map ShardCell.ds) (((Ei (FV (AU z)) (d':=.gone) rfl).trans (List.set_set ..)).trans (by rw [← AL u4]; simp only [List.map_set,go_sem,ShardCell.ds_eq])) (Z ?_)
    refine AW ?_
    replace h:=AD h; obtain⟨u5,u6,h⟩:=h
    refine AO u6 (ShardCell.ds_len _) (Z ?_)
    refine Ai (AU u6) (Z ?_)
    replace h:=AD h; obtain⟨u7,u8,h⟩:=h
    replace h:=AD h; obtain⟨u9,u10,h⟩:=h
    refine caG ⟨[(3000192096,.sub 1 0 [(5,Int.toNat y,4)],none)],[(1,3000192096)],[],[],[],true⟩ (K3 _ _ none _ u8) (Z ?_)
    refine Ai (KA (r:=List.map Address.ds u5.aux) (AU u6) (ShardCell.ds_len _) (by simp only [go_sem,ShardCell.ds_eq])) (Z ?_)
    refine AP ((u3.map ShardCell.ds).set (Int.toNat y) [.int .i64 u5.kind,.int .i64 u5.level,.int .i64 u5.value,.sl (u5.data.map AB),.gone]) ((Ei (AU u6) (d':=.sl (u5.aux.map Address.ds)) (by simp only [go_sem,ShardCell.ds_eq])).trans (by simp only [go_sem,ShardCell.ds_eq])) (Z ?_)
    refine Ad (KC (FV (AU u6)) rfl rfl) (Z ?_)
    refine AP (u9.map ShardCell.ds) (((Ei (FV (AU u6)) (d':=.gone) rfl).trans (List.set_set ..)).trans (by rw [← AL u10]; simp only [List.map_set,go_sem,ShardCell.ds_eq])) (Z ?_)
    refine AW ?_
    exact Um (ih0 u9 u7.1 (IntKind.i64.wrap (y+1)) z1 _ h)
   ·exact AF trivial h
theorem OY (a0 a1) (z1:Option Nat) (r) (h:Fh a0 a1=some r):AG Tryz.prog 211 [.own 1,.int .i64 a1] [(1,⟨List.map ShardCell.ds a0,z1,0,.no⟩)] [] (.int .i64 r.1) [(1,⟨List.map ShardCell.ds r.2,z1,0,.no⟩)] [] :=by
 unfold Fh at h
 refine agF Tryz.func211 mixed (h:=Z ?_)
 exact Sw (MP fuel a0 a1 0 z1 _ h)
theorem Mr (n:Nat):(∀u w y (z1:Option Nat) r,CB n u w y=some r→Dl Tryz.prog Tryz.f212 [1,0,1,0] (.int .i64 r.1) [(1,⟨List.map ShardVar.ds r.2,z1,0,.no⟩)] [] ⟨[(0,.own 1),(1,.int .i64 w),(5,.int .i64 y)],[(1,some ⟨List.map ShardVar.ds u,z1,0,.no⟩)],[]⟩):=by
 induction n with
 |zero=>exact((fun _ _ _ _ _ h=>by rw [CB] at h; cases h))
 | succ n ih=>
  have ih0:=ih
  ·intro u w y z1 r h
   rw [CB] at h
   refine BO rfl rfl (Z ?_)
   refine Ae (Z ?_)
   refine AJ h (fun h=>Z ?_) (fun h=>Z ?_)
   ·refine AW ?_
    refine Ad (by decide) (Z ?_)
    replace h:=AD h; obtain⟨q,g,h⟩:=h
    refine AO g (ShardVar.ds_len _) (Z ?_)
    replace h:=AD h; obtain⟨j,k,h⟩:=h
    refine Ai (AU g) (Z ?_)
    refine AP (j.map ShardVar.ds) (by rw [← AL k]; simp only [List.map_set,go_sem,ShardVar.ds_eq]) (Z ?_)
    refine Ad (by decide) (Z ?_)
    replace h:=AD h; obtain⟨b,d,h⟩:=h
    refine AO d (ShardVar.ds_len _) (Z ?_)
    replace h:=AD h; obtain⟨c,e,h⟩:=h
    refine Ai (AU d) (Z ?_)
    refine AP (c.map ShardVar.ds) (by rw [← AL e]; simp only [List.map_set,go_sem,ShardVar.ds_eq]) (Z ?_)
    replace h:=AD h; obtain⟨i,l,h⟩:=h
    refine AO l (ShardVar.ds_len _) (Z ?_)
    replace h:=AD h; obtain⟨t,s,h⟩:=h
    refine Ai (AU l) (Z ?_)
    refine AP (t.map ShardVar.ds) (by rw [← AL s]; simp only [List.map_set,go_sem,ShardVar.ds_eq]) (Z ?_)
    replace h:=AD h; obtain⟨o,z,h⟩:=h
    refine AO z (ShardVar.ds_len _) (Z ?_)
    replace h:=AD h; obtain⟨u1,u2,h⟩:=h
    refine Ai (AU z) (Z ?_)
    refine AP (u1.map ShardVar.ds) (by rw [← AL u2]; simp only [List.map_set,go_sem,ShardVar.ds_eq]) (Z ?_)
    replace h:=AD h; obtain⟨u3,u4,h⟩:=h
    refine AO u4 (ShardVar.ds_len _) (Z ?_)
    replace h:=AD h; obtain⟨u5,u6,h⟩:=h
    refine Ai (AU u4) (Z ?_)
    refine AP (u5.map ShardVar.ds) (by rw [← AL u6]; simp only [List.map_set,go_sem,ShardVar.ds_eq]) (Z ?_)
    refine AW ?_
    exact Um (ih0 u5 (IntKind.i64.wrap ((IntKind.i64.wrap ((IntKind.i64.wrap ((IntKind.i64.wrap ((IntKind.i64.wrap (w+1))+1))+1))+1))+1)) (IntKind.i64.wrap (y+1)) z1 _ h)
   ·exact AF trivial h
theorem Pw (a0 a1) (z1:Option Nat) (r) (h:GJ a0 a1=some r):AG Tryz.prog 212 [.own 1,.int .i64 a1] [(1,⟨List.map ShardVar.ds a0,z1,0,.no⟩)] [] (.int .i64 r.1) [(1,⟨List.map ShardVar.ds r.2,z1,0,.no⟩)] [] :=by
 unfold GJ at h
 refine agF Tryz.func212 mixed (h:=Z ?_)
 exact Sw (Mr fuel a0 a1 0 z1 _ h)
theorem Lx (n:Nat):(∀u w y (z1:Option Nat) r,BY n u w y=some r→Dl Tryz.prog Tryz.f213 [1,0,1,0] (.int .i64 r.1) [(1,⟨List.map ShardRedex.ds r.2,z1,0,.no⟩)] [] ⟨[(0,.own 1),(1,.int .i64 w),(5,.int .i64 y)],[(1,some ⟨List.map ShardRedex.ds u,z1,0,.no⟩)],[]⟩):=by
 induction n with
 |zero=>exact((fun _ _ _ _ _ h=>by rw [BY] at h; cases h))
 | succ n ih=>
  have ih0:=ih
  ·intro u w y z1 r h
   rw [BY] at h
   refine BO rfl rfl (Z ?_)
   refine Ae (Z ?_)
   refine AJ h (fun h=>Z ?_) (fun h=>Z ?_)
   ·refine AW ?_
    replace h:=AD h; obtain⟨q,g,h⟩:=h
    refine AO g (ShardRedex.ds_len _) (Z ?_)
    replace h:=AD h; obtain⟨j,k,h⟩:=h
    refine Ai (AU g) (Z ?_)
    refine AP (j.map ShardRedex.ds) (by rw [← AL k]; simp only [List.map_set,go_sem,ShardRedex.ds_eq]) (Z ?_)
    replace h:=AD h; obtain⟨b,d,h⟩:=h
    refine AO d (ShardRedex.ds_len _) (Z ?_)
    replace h:=AD h; obtain⟨c,e,h⟩:=h
    refine Ai (AU d) (Z ?_)
    refine AP (c.map ShardRedex.ds) (by rw [← AL e]; simp only [List.map_set,go_sem,ShardRedex.ds_eq]) (Z ?_)
    replace h:=AD h; obtain⟨i,l,h⟩:=h
    refine AO l (ShardRedex.ds_len _) (Z ?_)
    replace h:=AD h; obtain⟨t,s,h⟩:=h
    refine Ai (AU l) (Z ?_)
    refine AP (t.map ShardRedex.ds) (by rw [← AL s]; simp only [List.map_set,go_sem,ShardRedex.ds_eq]) (Z ?_)
    replace h:=AD h; obtain⟨o,z,h⟩:=h
    refine AO z (ShardRedex.ds_len _) (Z ?_)
    replace h:=AD h; obtain⟨u1,u2,h⟩:=h
    refine Ai (AU z) (Z ?_)
    refine AP (u1.map ShardRedex.ds) (by rw [← AL u2]; simp only [List.map_set,go_sem,ShardRedex.ds_eq]) (Z ?_)
    replace h:=AD h; obtain⟨u3,u4,h⟩:=h
    refine AO u4 (ShardRedex.ds_len _) (Z ?_)
    replace h:=AD h; obtain⟨u5,u6,h⟩:=h
    refine Ai (AU u4) (Z ?_)
    refine AP (u5.map ShardRedex.ds) (by rw [← AL u6]; simp only [List.map_set,go_sem,ShardRedex.ds_eq]) (Z ?_)
    replace h:=AD h; obtain⟨u7,u8,h⟩:=h
    refine AO u8 (ShardRedex.ds_len _) (Z ?_)
    replace h:=AD h; obtain⟨u9,u10,h⟩:=h
    refine Ai (AU u8) (Z ?_)
    refine AP (u9.map ShardRedex.ds) (by rw [← AL u10]; simp only [List.map_set,go_sem,ShardRedex.ds_eq]) (Z ?_)
    refine AW ?_
    exact Um (ih0 u9 (IntKind.i64.wrap ((IntKind.i64.wrap ((IntKind.i64.wrap ((IntKind.i64.wrap ((IntKind.i64.wrap ((IntKind.i64.wrap (w+1))+1))+1))+1))+1))+1)) (IntKind.i64.wrap (y+1)) z1 _ h)
   ·exact AF trivial h
theorem No (a0 a1) (z1:Option Nat) (r) (h:E2 a0 a1=some r):AG Tryz.prog 213 [.own 1,.int .i64 a1] [(1,⟨List.map ShardRedex.ds a0,z1,0,.no⟩)] [] (.int .i64 r.1) [(1,⟨List.map ShardRedex.ds r.2,z1,0,.no⟩)] [] :=by
 unfold E2 at h
 refine agF Tryz.func213 mixed (h:=Z ?_)
 exact Sw (Lx fuel a0 a1 0 z1 _ h)
theorem Px (n:Nat):(∀u w y (z1:Option Nat) r,DC n u w y=some r→Dl Tryz.prog Tryz.f151 [1,0,1,0] (.int .i64 r.1) [(1,⟨List.map Shard.ds r.2,z1,0,.no⟩)] [] ⟨[(0,.own 1),(1,.int .i64 w),(5,.int .i64 y)],[(1,some ⟨List.map Shard.ds u,z1,0,.no⟩)],[]⟩):=by
 induction n with
 |zero=>exact((fun _ _ _ _ _ h=>by rw [DC] at h; cases h))
 | succ n ih=>
  have ih0:=ih
  ·intro u w y z1 r h
   rw [DC] at h
   refine BO rfl rfl (Z ?_)
   refine Ae (Z ?_)
   refine AJ h (fun h=>Z ?_) (fun h=>Z ?_)
   ·refine AW ?_
    replace h:=AD h; obtain⟨q,g,h⟩:=h
    refine AO g (Shard.ds_len _) (Z ?_)
    refine Ai (AU g) (Z ?_)
    replace h:=AD h; obtain⟨j,k,h⟩:=h
    replace h:=AD h; obtain⟨b,d,h⟩:=h
    refine caG ⟨[(3000080096,.sub 1 0 [(3,Int.toNat y,0)],none)],[(1,3000080096)],[],[],[],true⟩ (OY _ _ none _ k) (Z ?_)
    refine Ai (KA (r:=List.map ShardCell.ds q.cells) (AU g) (Shard.ds_len _) (by simp only [go_sem,Shard.ds_eq])) (Z ?_)
    refine AP ((u.map Shard.ds).set (Int.toNat y) [.gone,.sl (q.vars.map ShardVar.ds),.sl (q.redexes.map ShardRedex.ds)]) ((Ei (AU g) (d':=.sl (q.cells.map ShardCell.ds)) (by simp only [go_sem,Shard.ds_eq])).trans (by simp only [go_sem,Shard.ds_eq])) (Z ?_)
    refine Ad (KC (FV (AU g)) rfl rfl) (Z ?_)
    refine AP (b.map Shard.ds) (((Ei (FV (AU g)) (d':=.gone) rfl).trans (List.set_set ..)).trans (by rw [← AL d]; simp only [List.map_set,go_sem,Shard.ds_eq])) (Z ?_)
    refine AW ?_
    replace h:=AD h; obtain⟨c,e,h⟩:=h
    refine AO e (Shard.ds_len _) (Z ?_)
    refine Ai (AU e) (Z ?_)
    replace h:=AD h; obtain⟨i,l,h⟩:=h
    replace h:=AD h; obtain⟨t,s,h⟩:=h
    refine caG ⟨[(3000096096,.sub 1 0 [(3,Int.toNat y,1)],none)],[(1,3000096096)],[],[],[],true⟩ (Pw _ _ none _ l) (Z ?_)
    refine Ai (KA (r:=List.map ShardVar.ds c.vars) (AU e) (Shard.ds_len _) (by simp only [go_sem,Shard.ds_eq])) (Z ?_)
    refine AP ((b.map Shard.ds).set (Int.toNat y) [.sl (c.cells.map ShardCell.ds),.gone,.sl (c.redexes.map ShardRedex.ds)]) ((Ei (AU e) (d':=.sl (c.vars.map ShardVar.ds)) (by simp only [go_sem,Shard.ds_eq])).trans (by simp only [go_sem,Shard.ds_eq])) (Z ?_)
    refine Ad (KC (FV (AU e)) rfl rfl) (Z ?_)
    refine AP (t.map Shard.ds) (((Ei (FV (AU e)) (d':=.gone) rfl).trans (List.set_set ..)).trans (by rw [← AL s]; simp only [List.map_set,go_sem,Shard.ds_eq])) (Z ?_)
    refine AW ?_
    replace h:=AD h; obtain⟨o,z,h⟩:=h
    refine AO z (Shard.ds_len _) (Z ?_)
    refine Ai (AU z) (Z ?_)
    replace h:=AD h; obtain⟨u1,u2,h⟩:=h
    replace h:=AD h; obtain⟨u3,u4,h⟩:=h
    refine caG ⟨[(3000112096,.sub 1 0 [(3,Int.toNat y,2)],none)],[(1,3000112096)],[],[],[],true⟩ (No _ _ none _ u2) (Z ?_)
    refine Ai (KA (r:=List.map ShardRedex.ds o.redexes) (AU z) (Shard.ds_len _) (by simp only [go_sem,Shard.ds_eq])) (Z ?_)
    refine AP ((t.map Shard.ds).set (Int.toNat y) [.sl (o.cells.map ShardCell.ds),.sl (o.vars.map ShardVar.ds),.gone]) ((Ei (AU z) (d':=.sl (o.redexes.map ShardRedex.ds)) (by simp only [go_sem,Shard.ds_eq])).trans (by simp only [go_sem,Shard.ds_eq])) (Z ?_)
    refine Ad (KC (FV (AU z)) rfl rfl) (Z ?_)
    refine AP (u3.map Shard.ds) (((Ei (FV (AU z)) (d':=.gone) rfl).trans (List.set_set ..)).trans (by rw [← AL u4]; simp only [List.map_set,go_sem,Shard.ds_eq])) (Z ?_)
    refine AW ?_
    exact Um (ih0 u3 u1.1 (IntKind.i64.wrap (y+1)) z1 _ h)
   ·exact AF trivial h
theorem Ta (a0 a1) (z1:Option Nat) (r) (h:IN a0 a1=some r):AG Tryz.prog 151 [.own 1,.int .i64 a1] [(1,⟨List.map Shard.ds a0,z1,0,.no⟩)] [] (.int .i64 r.1) [(1,⟨List.map Shard.ds r.2,z1,0,.no⟩)] [] :=by
 unfold IN at h
 refine agF Tryz.func151 mixed (h:=Z ?_)
 exact Sw (Px fuel a0 a1 0 z1 _ h)
theorem V0 (a0 a1) (z1:Option Nat) (r) (h:MH a0 a1=some r):AG Tryz.prog 88 [.agg [.own 1,.int .i64 a0.root.machine,.int .i64 a0.root.kind,.int .i64 a0.root.index],.int .i64 a1] [(1,⟨List.map Shard.ds a0.shards,z1,0,.no⟩)] [] (.int .i64 r.1) [(1,⟨List.map Shard.ds r.2,z1,0,.no⟩)] [] :=by
 unfold MH at h
 refine agF Tryz.func88 mixed (h:=Z ?_)
 replace h:=AD h; obtain⟨u,w,h⟩:=h
 refine caG ⟨[],[(1,1)],[],[],[],true⟩ (Ta _ _ z1 _ w) (Z ?_)
 exact AF trivial h
theorem OZ (n:Nat):(∀u w y (z1:Option Nat) r,Cn n u w y=some r→Dl Tryz.prog Tryz.f152 [1,0,1,0] (.int .i64 r.1) [(1,⟨List.map Parcel.ds r.2,z1,0,.no⟩)] [] ⟨[(0,.own 1),(1,.int .i64 w),(5,.int .i64 y)],[(1,some ⟨List.map Parcel.ds u,z1,0,.no⟩)],[]⟩):=by
 induction n with
 |zero=>exact((fun _ _ _ _ _ h=>by rw [Cn] at h; cases h))
 | succ n ih=>
  have ih0:=ih
  ·intro u w y z1 r h
   rw [Cn] at h
   refine BO rfl rfl (Z ?_)
   refine Ae (Z ?_)
   refine AJ h (fun h=>Z ?_) (fun h=>Z ?_)
   ·refine AW ?_
    replace h:=AD h; obtain⟨q,g,h⟩:=h
    refine AO g (Parcel.ds_len _) (Z ?_)
    replace h:=AD h; obtain⟨j,k,h⟩:=h
    refine Ai (AU g) (Z ?_)
    refine AP (j.map Parcel.ds) (by rw [← AL k]; simp only [List.map_set,go_sem,Parcel.ds_eq]) (Z ?_)
    replace h:=AD h; obtain⟨d,c,h⟩:=h
    refine AO c (Parcel.ds_len _) (Z ?_)
    replace h:=AD h; obtain⟨e,i,h⟩:=h
    refine Ai (AU c) (Z ?_)
    refine AP (e.map Parcel.ds) (by rw [← AL i]; simp only [List.map_set,go_sem,Parcel.ds_eq]) (Z ?_)
    replace h:=AD h; obtain⟨l,t,h⟩:=h
    refine AO t (Parcel.ds_len _) (Z ?_)
    replace h:=AD h; obtain⟨s,o,h⟩:=h
    refine Ai (AU t) (Z ?_)
    refine AP (s.map Parcel.ds) (by rw [← AL o]; simp only [List.map_set,go_sem,Parcel.ds_eq]) (Z ?_)
    replace h:=AD h; obtain⟨z,u1,h⟩:=h
    refine AO u1 (Parcel.ds_len _) (Z ?_)
    replace h:=AD h; obtain⟨u2,u3,h⟩:=h
    refine Ai (AU u1) (Z ?_)
    refine AP (u2.map Parcel.ds) (by rw [← AL u3]; simp only [List.map_set,go_sem,Parcel.ds_eq]) (Z ?_)
    replace h:=AD h; obtain⟨u4,u5,h⟩:=h
    refine AO u5 (Parcel.ds_len _) (Z ?_)
    refine Ai (AU u5) (Z ?_)
    replace h:=AD h; obtain⟨u6,u7,h⟩:=h
    replace h:=AD h; obtain⟨u8,u9,h⟩:=h
    refine caG ⟨[(3000208112,.sub 1 0 [(12,Int.toNat y,4)],none)],[(1,3000208112)],[],[],[],true⟩ (GL _ _ none _ u7) (Z ?_)
    refine Ai (KA (r:=List.map AB u4.cell.data) (AU u5) (Parcel.ds_len _) (by simp only [go_sem,Parcel.ds_eq])) (Z ?_)
    refine AP ((u2.map Parcel.ds).set (Int.toNat y) [.int .i64 u4.kind,.int .i64 u4.cell.kind,.int .i64 u4.cell.level,.int .i64 u4.cell.value,.gone,.sl (u4.cell.aux.map Address.ds),.int .i64 u4.a.machine,.int .i64 u4.a.kind,.int .i64 u4.a.index,.int .i64 u4.b.machine,.int .i64 u4.b.kind,.int .i64 u4.b.index]) ((Ei (AU u5) (d':=.sl (u4.cell.data.map AB)) (by simp only [go_sem,Parcel.ds_eq])).trans (by simp only [go_sem,Parcel.ds_eq])) (Z ?_)
    refine Ad (KC (FV (AU u5)) rfl rfl) (Z ?_)
    refine AP (u8.map Parcel.ds) (((Ei (FV (AU u5)) (d':=.gone) rfl).trans (List.set_set ..)).trans (by rw [← AL u9]; simp only [List.map_set,go_sem,Parcel.ds_eq])) (Z ?_)
    refine AW ?_
    replace h:=AD h; obtain⟨u10,u11,h⟩:=h
    refine AO u11 (Parcel.ds_len _) (Z ?_)
    refine Ai (AU u11) (Z ?_)
    replace h:=AD h; obtain⟨u12,u13,h⟩:=h
    replace h:=AD h; obtain⟨u14,u15,h⟩:=h
    refine caG ⟨[(3000224112,.sub 1 0 [(12,Int.toNat y,5)],none)],[(1,3000224112)],[],[],[],true⟩ (K3 _ _ none _ u13) (Z ?_)
    refine Ai (KA (r:=List.map Address.ds u10.cell.aux) (AU u11) (Parcel.ds_len _) (by simp only [go_sem,Parcel.ds_eq])) (Z ?_)
    refine AP ((u8.map Parcel.ds).set (Int.toNat y) [.int .i64 u10.kind,.int .i64 u10.cell.kind,.int .i64 u10.cell.level,.int .i64 u10.cell.value,.sl (u10.cell.data.map AB),.gone,.int .i64 u10.a.machine,.int .i64 u10.a.kind,.int .i64 u10.a.index,.int .i64 u10.b.machine,.int .i64 u10.b.kind,.int .i64 u10.b.index]) ((Ei (AU u11) (d':=.sl (u10.cell.aux.map Address.ds)) (by simp only [go_sem,Parcel.ds_eq])).trans (by simp only [go_sem,Parcel.ds_eq])) (Z ?_)
    refine Ad (KC (FV (AU u11)) rfl rfl) (Z ?_)
    refine AP (u14.map Parcel.ds) (((Ei (FV (AU u11)) (d':=.gone) rfl).trans (List.set_set ..)).trans (by rw [← AL u15]; simp only [List.map_set,go_sem,Parcel.ds_eq])) (Z ?_)
    refine AW ?_
    replace h:=AD h; obtain⟨u16,u17,h⟩:=h
    refine AO u17 (Parcel.ds_len _) (Z ?_)
    replace h:=AD h; obtain⟨u18,u19,h⟩:=h
    refine Ai (AU u17) (Z ?_)
    refine AP (u18.map Parcel.ds) (by rw [← AL u19]; simp only [List.map_set,go_sem,Parcel.ds_eq]) (Z ?_)
    replace h:=AD h; obtain⟨u20,u21,h⟩:=h
    refine AO u21 (Parcel.ds_len _) (Z ?_)
    replace h:=AD h; obtain⟨u22,u23,h⟩:=h
    refine Ai (AU u21) (Z ?_)
    refine AP (u22.map Parcel.ds) (by rw [← AL u23]; simp only [List.map_set,go_sem,Parcel.ds_eq]) (Z ?_)
    replace h:=AD h; obtain⟨u24,u25,h⟩:=h
    refine AO u25 (Parcel.ds_len _) (Z ?_)
    replace h:=AD h; obtain⟨u26,u27,h⟩:=h
    refine Ai (AU u25) (Z ?_)
    refine AP (u26.map Parcel.ds) (by rw [← AL u27]; simp only [List.map_set,go_sem,Parcel.ds_eq]) (Z ?_)
    replace h:=AD h; obtain⟨u28,u29,h⟩:=h
    refine AO u29 (Parcel.ds_len _) (Z ?_)
    replace h:=AD h; obtain⟨u30,u31,h⟩:=h
    refine Ai (AU u29) (Z ?_)
    refine AP (u30.map Parcel.ds) (by rw [← AL u31]; simp only [List.map_set,go_sem,Parcel.ds_eq]) (Z ?_)
    replace h:=AD h; obtain⟨u32,u33,h⟩:=h
    refine AO u33 (Parcel.ds_len _) (Z ?_)
    replace h:=AD h; obtain⟨u34,u35,h⟩:=h
    refine Ai (AU u33) (Z ?_)
    refine AP (u34.map Parcel.ds) (by rw [← AL u35]; simp only [List.map_set,go_sem,Parcel.ds_eq]) (Z ?_)
    replace h:=AD h; obtain⟨u36,u37,h⟩:=h
    refine AO u37 (Parcel.ds_len _) (Z ?_)
    replace h:=AD h; obtain⟨u38,u39,h⟩:=h
    refine Ai (AU u37) (Z ?_)
    refine AP (u38.map Parcel.ds) (by rw [← AL u39]; simp only [List.map_set,go_sem,Parcel.ds_eq]) (Z ?_)
    refine AW ?_
    exact Um (ih0 u38 (IntKind.i64.wrap ((IntKind.i64.wrap ((IntKind.i64.wrap ((IntKind.i64.wrap ((IntKind.i64.wrap ((IntKind.i64.wrap (u12.1 +1))+1))+1))+1))+1))+1)) (IntKind.i64.wrap (y+1)) z1 _ h)
   ·exact AF trivial h
theorem SO (a0 a1) (z1:Option Nat) (r) (h:HO a0 a1=some r):AG Tryz.prog 152 [.own 1,.int .i64 a1] [(1,⟨List.map Parcel.ds a0,z1,0,.no⟩)] [] (.int .i64 r.1) [(1,⟨List.map Parcel.ds r.2,z1,0,.no⟩)] [] :=by
 unfold HO at h
 refine agF Tryz.func152 mixed (h:=Z ?_)
 exact Sw (OZ fuel a0 a1 0 z1 _ h)
theorem Np (n:Nat):(∀u w y (z1:Option Nat) r,CM n u w y=some r→Dl Tryz.prog Tryz.f89 [1,0,1,0] (.int .i64 r.1) [(1,⟨List.map (slD Parcel.ds) r.2,z1,0,.no⟩)] [] ⟨[(0,.own 1),(1,.int .i64 w),(5,.int .i64 y)],[(1,some ⟨List.map (slD Parcel.ds) u,z1,0,.no⟩)],[]⟩):=by
 induction n with
 |zero=>exact((fun _ _ _ _ _ h=>by rw [CM] at h; cases h))
 | succ n ih=>
  have ih0:=ih
  ·intro u w y z1 r h
   rw [CM] at h
   refine BO rfl rfl (Z ?_)
   refine Ae (Z ?_)
   refine AJ h (fun h=>Z ?_) (fun h=>Z ?_)
   ·refine AW ?_
    replace h:=AD h; obtain⟨q,g,h⟩:=h
    refine AO g rfl (Z ?_)
    refine Ai (AU g) (Z ?_)
    replace h:=AD h; obtain⟨j,k,h⟩:=h
    replace h:=AD h; obtain⟨b,d,h⟩:=h
    refine caG ⟨[(3000080080,.sub 1 0 [(1,Int.toNat y,0)],none)],[(1,3000080080)],[],[],[],true⟩ (SO _ _ none _ k) (Z ?_)
    refine Ai (KA (r:=List.map Parcel.ds q) (AU g) rfl (by simp only [go_sem,slD])) (Z ?_)
    refine AP ((List.map (slD Parcel.ds) u).set (Int.toNat y) [.gone]) ((Ei (AU g) (d':=.sl (q.map Parcel.ds)) (by simp only [go_sem,slD])).trans (by simp only [go_sem,slD])) (Z ?_)
    refine Ad (KC (FV (AU g)) rfl rfl) (Z ?_)
    refine AP (List.map (slD Parcel.ds) b) (((Ei (FV (AU g)) (d':=.gone) rfl).trans (List.set_set ..)).trans (by rw [← AL d]; simp only [List.map_set,go_sem,slD])) (Z ?_)
    refine AW ?_
    exact Um (ih0 b j.1 (IntKind.i64.wrap (y+1)) z1 _ h)
   ·exact AF trivial h
theorem RJ (a0 a1) (z1:Option Nat) (r) (h:Gq a0 a1=some r):AG Tryz.prog 89 [.own 1,.int .i64 a1] [(1,⟨List.map (slD Parcel.ds) a0,z1,0,.no⟩)] [] (.int .i64 r.1) [(1,⟨List.map (slD Parcel.ds) r.2,z1,0,.no⟩)] [] :=by
 unfold Gq at h
 refine agF Tryz.func89 mixed (h:=Z ?_)
 exact Sw (Np fuel a0 a1 0 z1 _ h)
theorem Oa (n:Nat):(∀u w y (z1:Option Nat) r,Co n u w y=some r→Dl Tryz.prog Tryz.f90 [1,0,1,0] (.int .i64 r.1) [(1,⟨List.map (slD AB) r.2,z1,0,.no⟩)] [] ⟨[(0,.own 1),(1,.int .i64 w),(5,.int .i64 y)],[(1,some ⟨List.map (slD AB) u,z1,0,.no⟩)],[]⟩):=by
 induction n with
 |zero=>exact((fun _ _ _ _ _ h=>by rw [Co] at h; cases h))
 | succ n ih=>
  have ih0:=ih
  ·intro u w y z1 r h
   rw [Co] at h
   refine BO rfl rfl (Z ?_)
   refine Ae (Z ?_)
   refine AJ h (fun h=>Z ?_) (fun h=>Z ?_)
   ·refine AW ?_
    replace h:=AD h; obtain⟨q,g,h⟩:=h
    refine AO g rfl (Z ?_)
    refine Ai (AU g) (Z ?_)
    replace h:=AD h; obtain⟨j,k,h⟩:=h
    replace h:=AD h; obtain⟨b,d,h⟩:=h
    refine caG ⟨[(3000080080,.sub 1 0 [(1,Int.toNat y,0)],none)],[(1,3000080080)],[],[],[],true⟩ (GL _ _ none _ k) (Z ?_)
    refine Ai (KA (r:=List.map AB q) (AU g) rfl (by simp only [go_sem,slD])) (Z ?_)
    refine AP ((List.map (slD AB) u).set (Int.toNat y) [.gone]) ((Ei (AU g) (d':=.sl (q.map AB)) (by simp only [go_sem,slD])).trans (by simp only [go_sem,slD])) (Z ?_)
    refine Ad (KC (FV (AU g)) rfl rfl) (Z ?_)
    refine AP (List.map (slD AB) b) (((Ei (FV (AU g)) (d':=.gone) rfl).trans (List.set_set ..)).trans (by rw [← AL d]; simp only [List.map_set,go_sem,slD])) (Z ?_)
    refine AW ?_
    exact Um (ih0 b j.1 (IntKind.i64.wrap (y+1)) z1 _ h)
   ·exact AF trivial h
theorem SP (a0 a1) (z1:Option Nat) (r) (h:HP a0 a1=some r):AG Tryz.prog 90 [.own 1,.int .i64 a1] [(1,⟨List.map (slD AB) a0,z1,0,.no⟩)] [] (.int .i64 r.1) [(1,⟨List.map (slD AB) r.2,z1,0,.no⟩)] [] :=by
 unfold HP at h
 refine agF Tryz.func90 mixed (h:=Z ?_)
 exact Sw (Oa fuel a0 a1 0 z1 _ h)
theorem R7 (a0 a1) (z1:Option Nat) (z2:Option Nat) (z3:Option Nat) (z4:Option Nat) (z5:Option Nat) (r) (h:Iy a0 a1=some r):AG Tryz.prog 40 [.agg [.own 1,.int .i64 a0.grid.root.machine,.int .i64 a0.grid.root.kind,.int .i64 a0.grid.root.index,.own 2,.own 3,.own 4,.own 5],.int .i64 a1] [(1,⟨List.map Shard.ds a0.grid.shards,z1,0,.no⟩),(2,⟨List.map (slD Parcel.ds) a0.channels,z2,0,.no⟩),(3,⟨List.map (slD AB) a0.counts,z3,0,.no⟩),(4,⟨List.map AB a0.sent,z4,0,.no⟩),(5,⟨List.map AB a0.got,z5,0,.no⟩)] [] (.int .i64 r.1) [(1,⟨List.map Shard.ds r.2.1,z1,0,.no⟩),(2,⟨List.map (slD Parcel.ds) r.2.2.1,z2,0,.no⟩),(3,⟨List.map (slD AB) r.2.2.2.1,z3,0,.no⟩),(4,⟨List.map AB r.2.2.2.2.1,z4,0,.no⟩),(5,⟨List.map AB r.2.2.2.2.2,z5,0,.no⟩)] [] :=by
 unfold Iy at h
 refine agF Tryz.func40 mixed (h:=Z ?_)
 replace h:=AD h; obtain⟨u,w,h⟩:=h
 refine caG ⟨[],[(1,1)],[],[],[],true⟩ (V0 _ _ z1 _ w) (Z ?_)
 refine AW ?_
 replace h:=AD h; obtain⟨y,q,h⟩:=h
 refine caG ⟨[],[(1,2)],[],[],[],true⟩ (RJ _ _ z2 _ q) (Z ?_)
 refine AW ?_
 replace h:=AD h; obtain⟨g,j,h⟩:=h
 refine caG ⟨[],[(1,3)],[],[],[],true⟩ (SP _ _ z3 _ j) (Z ?_)
 refine AW ?_
 replace h:=AD h; obtain⟨k,b,h⟩:=h
 refine caG ⟨[],[(1,4)],[],[],[],true⟩ (GL _ _ z4 _ b) (Z ?_)
 refine AW ?_
 replace h:=AD h; obtain⟨d,c,h⟩:=h
 refine caG ⟨[],[(1,5)],[],[],[],true⟩ (GL _ _ z5 _ c) (Z ?_)
 exact AF trivial h
theorem RK (n:Nat):(∀u w y (z1:Option Nat) r,Dj n u w y=some r→Dl Tryz.prog Tryz.f66 [1,0,1,0] (.int .i64 r.1) [(1,⟨List.map BA r.2,z1,0,.no⟩)] [] ⟨[(0,.own 1),(1,.int .i64 w),(5,.int .i64 y)],[(1,some ⟨List.map BA u,z1,0,.no⟩)],[]⟩):=by
 induction n with
 |zero=>exact((fun _ _ _ _ _ h=>by rw [Dj] at h; cases h))
 | succ n ih=>
  have ih0:=ih
  ·intro u w y z1 r h
   rw [Dj] at h
   refine BO rfl rfl (Z ?_)
   refine Ae (Z ?_)
   refine AJ h (fun h=>Z ?_) (fun h=>Z ?_)
   ·refine AW ?_
    refine Ad (by decide) (Z ?_)
    replace h:=AD h; obtain⟨q,g,h⟩:=h
    refine AO g rfl (Z ?_)
    replace h:=AD h; obtain⟨j,k,h⟩:=h
    refine Ai (AU g) (Z ?_)
    refine AP (j.map BA) (by rw [← AL k]; simp only [List.map_set,go_sem,slD]) (Z ?_)
    refine AW ?_
    exact Um (ih0 j (IntKind.i64.wrap (w+1)) (IntKind.i64.wrap (y+1)) z1 _ h)
   ·exact AF trivial h
theorem U9 (a0 a1) (z1:Option Nat) (r) (h:JB a0 a1=some r):AG Tryz.prog 66 [.own 1,.int .i64 a1] [(1,⟨List.map BA a0,z1,0,.no⟩)] [] (.int .i64 r.1) [(1,⟨List.map BA r.2,z1,0,.no⟩)] [] :=by
 unfold JB at h
 refine agF Tryz.func66 mixed (h:=Z ?_)
 exact Sw (RK fuel a0 a1 0 z1 _ h)
theorem Nq (n:Nat):(∀a0 u w r,CN n a0 u w=some r→Aa Tryz.prog Tryz.f218 [1,0,1,0] (.int .i64 r) ⟨[(0,.ro (a0.map Address.ds)),(1,.int .i64 u),(5,.int .i64 w)],[],[]⟩):=by
 induction n with
 |zero=>exact((fun _ _ _ _ h=>by rw [CN] at h; cases h))
 | succ n ih=>
  have ih0:=ih
  ·intro a0 u w r h
   rw [CN] at h
   exact AF (k1 ih0) h
theorem K4 (a0 a1 r) (h:Fi a0 a1=some r):AC Tryz.prog 218 [.ro (a0.map Address.ds),.int .i64 a1] (.int .i64 r):=by
 unfold Fi at h
 refine acF Tryz.func218 mixed (h:=Z ?_)
 exact AF (k1 Nq) h
theorem MQ (n:Nat):(∀a0 u w r,Bq n a0 u w=some r→Aa Tryz.prog Tryz.f215 [1,0,1,0] (.int .i64 r) ⟨[(0,.ro (a0.map ShardCell.ds)),(1,.int .i64 u),(5,.int .i64 w)],[],[]⟩):=by
 induction n with
 |zero=>exact((fun _ _ _ _ h=>by rw [Bq] at h; cases h))
 | succ n ih=>
  have ih0:=ih
  ·intro a0 u w r h
   rw [Bq] at h
   exact AF (k3 Ha K4 ih0) h
theorem Ob (a0 a1 r) (h:Fj a0 a1=some r):AC Tryz.prog 215 [.ro (a0.map ShardCell.ds),.int .i64 a1] (.int .i64 r):=by
 unfold Fj at h
 refine acF Tryz.func215 mixed (h:=Z ?_)
 exact AF (k1 MQ) h
theorem Ms (n:Nat):(∀a0 u w r,CC n a0 u w=some r→Aa Tryz.prog Tryz.f216 [1,0,1,0] (.int .i64 r) ⟨[(0,.ro (a0.map ShardVar.ds)),(1,.int .i64 u),(5,.int .i64 w)],[],[]⟩):=by
 induction n with
 |zero=>exact((fun _ _ _ _ h=>by rw [CC] at h; cases h))
 | succ n ih=>
  have ih0:=ih
  ·intro a0 u w r h
   rw [CC] at h
   refine Ah rfl rfl (Z ?_)
   refine Ae (Z ?_)
   refine AJ h (fun h=>Z ?_) (fun h=>Z ?_)
   ·refine AW ?_
    replace h:=AD h; obtain⟨y,q,h⟩:=h
    refine AO q (ShardVar.ds_len _) (Z ?_)
    refine Ad (by decide) (Z ?_)
    refine AJ h (fun h=>Z ?_) (fun h=>Z ?_)
    ·exact AF trivial h
    ·refine AW ?_
     replace h:=AD h; obtain⟨g,j,h⟩:=h
     refine AO j (ShardVar.ds_len _) (Z ?_)
     refine Ad (by decide) (Z ?_)
     exact AF (k1 ih0) h
   ·exact AF trivial h
theorem Py (a0 a1 r) (h:GK a0 a1=some r):AC Tryz.prog 216 [.ro (a0.map ShardVar.ds),.int .i64 a1] (.int .i64 r):=by
 unfold GK at h
 refine acF Tryz.func216 mixed (h:=Z ?_)
 exact AF (k1 Ms) h
theorem Ly (n:Nat):(∀a0 u w r,BZ n a0 u w=some r→Aa Tryz.prog Tryz.f217 [1,0,1,0] (.int .i64 r) ⟨[(0,.ro (a0.map ShardRedex.ds)),(1,.int .i64 u),(5,.int .i64 w)],[],[]⟩):=by
 induction n with
 |zero=>exact((fun _ _ _ _ h=>by rw [BZ] at h; cases h))
 | succ n ih=>
  have ih0:=ih
  ·intro a0 u w r h
   rw [BZ] at h
   exact AF (k1 ih0) h
theorem Nr (a0 a1 r) (h:E3 a0 a1=some r):AC Tryz.prog 217 [.ro (a0.map ShardRedex.ds),.int .i64 a1] (.int .i64 r):=by
 unfold E3 at h
 refine acF Tryz.func217 mixed (h:=Z ?_)
 exact AF (k1 Ly) h
theorem Pz (n:Nat):(∀a0 u w r,DD n a0 u w=some r→Aa Tryz.prog Tryz.f153 [1,0,1,0] (.int .i64 r) ⟨[(0,.ro (a0.map Shard.ds)),(1,.int .i64 u),(5,.int .i64 w)],[],[]⟩):=by
 induction n with
 |zero=>exact((fun _ _ _ _ h=>by rw [DD] at h; cases h))
 | succ n ih=>
  have ih0:=ih
  ·intro a0 u w r h
   rw [DD] at h
   exact AF (k4 Ob Py Nr ih0) h
theorem Tb (a0 a1 r) (h:IP a0 a1=some r):AC Tryz.prog 153 [.ro (a0.map Shard.ds),.int .i64 a1] (.int .i64 r):=by
 unfold IP at h
 refine acF Tryz.func153 mixed (h:=Z ?_)
 exact AF (k1 Pz) h
theorem V1 (a0 a1 r) (h:MI a0 a1=some r):AC Tryz.prog 92 [.agg (Grid.avs a0),.int .i64 a1] (.int .i64 r):=by
 unfold MI at h
 refine acF Tryz.func92 mixed (h:=Z ?_)
 exact AF (k1 Tb) h
theorem Oc (n:Nat):(∀a0 u w r,Cp n a0 u w=some r→Aa Tryz.prog Tryz.f154 [1,0,1,0] (.int .i64 r) ⟨[(0,.ro (a0.map Parcel.ds)),(1,.int .i64 u),(5,.int .i64 w)],[],[]⟩):=by
 induction n with
 |zero=>exact((fun _ _ _ _ h=>by rw [Cp] at h; cases h))
 | succ n ih=>
  have ih0:=ih
  ·intro a0 u w r h
   rw [Cp] at h
   exact AF (k3 Ha K4 ih0) h
theorem SQ (a0 a1 r) (h:HQ a0 a1=some r):AC Tryz.prog 154 [.ro (a0.map Parcel.ds),.int .i64 a1] (.int .i64 r):=by
 unfold HQ at h
 refine acF Tryz.func154 mixed (h:=Z ?_)
 exact AF (k1 Oc) h
theorem Ns (n:Nat):(∀a0 u w r,CO n a0 u w=some r→Aa Tryz.prog Tryz.f93 [1,0,1,0] (.int .i64 r) ⟨[(0,.ro (List.map (slD Parcel.ds) a0)),(1,.int .i64 u),(5,.int .i64 w)],[],[]⟩):=by
 induction n with
 |zero=>exact((fun _ _ _ _ h=>by rw [CO] at h; cases h))
 | succ n ih=>
  have ih0:=ih
  ·intro a0 u w r h
   rw [CO] at h
   exact AF (k2 SQ ih0) h
theorem RL (a0 a1 r) (h:Gr a0 a1=some r):AC Tryz.prog 93 [.ro (List.map (slD Parcel.ds) a0),.int .i64 a1] (.int .i64 r):=by
 unfold Gr at h
 refine acF Tryz.func93 mixed (h:=Z ?_)
 exact AF (k1 Ns) h
theorem Od (n:Nat):(∀a0 u w r,Cq n a0 u w=some r→Aa Tryz.prog Tryz.f94 [1,0,1,0] (.int .i64 r) ⟨[(0,.ro (List.map (slD AB) a0)),(1,.int .i64 u),(5,.int .i64 w)],[],[]⟩):=by
 induction n with
 |zero=>exact((fun _ _ _ _ h=>by rw [Cq] at h; cases h))
 | succ n ih=>
  have ih0:=ih
  ·intro a0 u w r h
   rw [Cq] at h
   exact AF (k2 Ha ih0) h
theorem SR (a0 a1 r) (h:HR a0 a1=some r):AC Tryz.prog 94 [.ro (List.map (slD AB) a0),.int .i64 a1] (.int .i64 r):=by
 unfold HR at h
 refine acF Tryz.func94 mixed (h:=Z ?_)
 exact AF (k1 Od) h
theorem R8 (a0 a1 r) (h:Iz a0 a1=some r):AC Tryz.prog 42 [.agg (Cluster.avs a0),.int .i64 a1] (.int .i64 r):=by
 unfold Iz at h
 refine acF Tryz.func42 mixed (h:=Z ?_)
 exact AF (k4 V1 RL SR Ha) h
theorem RM (n:Nat):(∀a0 u w r,Dk n a0 u w=some r→Aa Tryz.prog Tryz.f67 [1,0,1,0] (.int .i64 r) ⟨[(0,.ro (a0.map BA)),(1,.int .i64 u),(5,.int .i64 w)],[],[]⟩):=by
 induction n with
 |zero=>exact((fun _ _ _ _ h=>by rw [Dk] at h; cases h))
 | succ n ih=>
  have ih0:=ih
  ·intro a0 u w r h
   rw [Dk] at h
   refine Ah rfl rfl (Z ?_)
   refine Ae (Z ?_)
   refine AJ h (fun h=>Z ?_) (fun h=>Z ?_)
   ·refine AW ?_
    replace h:=AD h; obtain⟨y,q,h⟩:=h
    refine AO q rfl (Z ?_)
    refine Ad (by decide) (Z ?_)
    exact AF (k1 ih0) h
   ·exact AF trivial h
theorem VA (a0 a1 r) (h:JC a0 a1=some r):AC Tryz.prog 67 [.ro (a0.map BA),.int .i64 a1] (.int .i64 r):=by
 unfold JC at h
 refine acF Tryz.func67 mixed (h:=Z ?_)
 exact AF (k1 RM) h
end Go.Proofs.YtclmbjbbojdojaaGreat.Ab
