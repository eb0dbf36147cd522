/-
 The functions do what their models say. Printed by wip/ab/gen.py.
-/
import Derived.Test.YtclmbjbbojdojaaGreatModW
import Derived.Test.YtclmbjbbojdojaaGreatTi2
import Derived.Test.YtclmbjbbojdojaaGreatWlk
namespace Go.Proofs.YtclmbjbbojdojaaGreat.Ab
set_option linter.unusedVariables false
set_option linter.unusedSimpArgs false
set_option maxRecDepth 20000
set_option maxHeartbeats 4000000
open Go.RowKit
theorem DS (a0 a1 r) (h:CP a0 a1=some r):AC Tryz.prog 148 [.agg (Address.avs a0),.agg (Address.avs a1)] (.bool r):=by
 unfold CP at h
 refine acF Tryz.func148 mixed (h:=Z ?_)
 refine AD h (fun h=>Z ?_) (fun h=>Z ?_)
 ·cases h
  simp only [go_sem]
 ·refine AF ?_
  refine AD h (fun h=>Z ?_) (fun h=>Z ?_)
  ·cases h
   simp only [go_sem]
  ·refine AF ?_
   refine AD h (fun h=>Z ?_) (fun h=>Z ?_)
   ·cases h
    simp only [go_sem]
   ·refine AF ?_
    cases h
    simp only [go_sem]
theorem MN (n:Nat):(∀a0 a1 u r,Cv n a0 a1 u=some r→Ax Tryz.prog Tryz.f281 [1,1,0,1,0] (.bool r) ⟨[(0,.ro (List.map Address.ds a0)),(1,.ro (List.map Address.ds a1)),(5,.int .i64 u)],[],[]⟩):=by
 induction n with
 |zero=>exact((fun _ _ _ _ h=>by rw [Cv] at h; cases h))
 | succ n ih=>
  have ih0:=ih
  ·intro a0 a1 u r h
   rw [Cv] at h
   refine AS rfl rfl (Z ?_)
   refine AY (Z ?_)
   refine AD h (fun h=>Z ?_) (fun h=>Z ?_)
   ·refine AF ?_
    refine Aa [] .fin (by kernel_rfl) (Z ?_)
    replace h:=AB h; obtain⟨w,y,h⟩:=h
    refine AL y (Address.ds_len _) (Z ?_)
    replace h:=AB h; obtain⟨q,g,h⟩:=h
    refine AL g (Address.ds_len _) (Z ?_)
    replace h:=AB h; obtain⟨j,k,h⟩:=h
    refine AH (DS _ _ _ k) (Z ?_)
    refine AF ?_
    refine AD h (fun h=>Z ?_) (fun h=>Z ?_)
    ·cases h
     simp only [go_sem]
    ·refine AF ?_
     exact lpF (ih0 a0 a1 (IntKind.i64.wrap (u+1)) _ h) [] []
   ·refine AF ?_
    cases h
    simp only [go_sem]
theorem O0 (a0 a1 r) (h:GB a0 a1=some r):AC Tryz.prog 281 [.ro (List.map Address.ds a0),.ro (List.map Address.ds a1)] (.bool r):=by
 unfold GB at h
 refine acF Tryz.func281 mixed (h:=Z ?_)
 refine AD h (fun h=>Z ?_) (fun h=>Z ?_)
 ·cases h
  simp only [go_sem]
 ·refine AF ?_
  exact loF (MN fuel a0 a1 0 _ h) [] []
theorem I4 (a0 a1 r) (h:Dt a0 a1=some r):AC Tryz.prog 251 [.agg (ShardCell.avs a0),.agg (ShardCell.avs a1)] (.bool r):=by
 unfold Dt at h
 refine acF Tryz.func251 mixed (h:=Z ?_)
 refine AD h (fun h=>Z ?_) (fun h=>Z ?_)
 ·cases h
  simp only [go_sem]
 ·refine AF ?_
  refine AD h (fun h=>Z ?_) (fun h=>Z ?_)
  ·cases h
   simp only [go_sem]
  ·refine AF ?_
   refine AD h (fun h=>Z ?_) (fun h=>Z ?_)
   ·cases h
    simp only [go_sem]
   ·refine AF ?_
    replace h:=AB h; obtain⟨u,w,h⟩:=h
    refine AH (Ej _ _ _ w) (Z ?_)
    refine AF ?_
    refine AD h (fun h=>Z ?_) (fun h=>Z ?_)
    ·cases h
     simp only [go_sem]
    ·refine AF ?_
     replace h:=AB h; obtain⟨y,q,h⟩:=h
     refine AH (O0 _ _ _ q) (Z ?_)
     refine AF ?_
     refine AD h (fun h=>Z ?_) (fun h=>Z ?_)
     ·cases h
      simp only [go_sem]
     ·refine AF ?_
      cases h
      simp only [go_sem]
theorem Kg (n:Nat):(∀a0 a1 u r,CF n a0 a1 u=some r→Ax Tryz.prog Tryz.f248 [1,1,0,1,0] (.bool r) ⟨[(0,.ro (List.map ShardCell.ds a0)),(1,.ro (List.map ShardCell.ds a1)),(5,.int .i64 u)],[],[]⟩):=by
 induction n with
 |zero=>exact((fun _ _ _ _ h=>by rw [CF] at h; cases h))
 | succ n ih=>
  have ih0:=ih
  ·intro a0 a1 u r h
   rw [CF] at h
   refine AS rfl rfl (Z ?_)
   refine AY (Z ?_)
   refine AD h (fun h=>Z ?_) (fun h=>Z ?_)
   ·refine AF ?_
    refine Aa [] .fin (by kernel_rfl) (Z ?_)
    replace h:=AB h; obtain⟨w,y,h⟩:=h
    refine AL y (ShardCell.ds_len _) (Z ?_)
    replace h:=AB h; obtain⟨q,g,h⟩:=h
    refine AL g (ShardCell.ds_len _) (Z ?_)
    replace h:=AB h; obtain⟨j,k,h⟩:=h
    refine AH (I4 _ _ _ k) (Z ?_)
    refine AF ?_
    refine AD h (fun h=>Z ?_) (fun h=>Z ?_)
    ·cases h
     simp only [go_sem]
    ·refine AF ?_
     exact lpF (ih0 a0 a1 (IntKind.i64.wrap (u+1)) _ h) [] []
   ·refine AF ?_
    cases h
    simp only [go_sem]
theorem NL (a0 a1 r) (h:E0 a0 a1=some r):AC Tryz.prog 248 [.ro (List.map ShardCell.ds a0),.ro (List.map ShardCell.ds a1)] (.bool r):=by
 unfold E0 at h
 refine acF Tryz.func248 mixed (h:=Z ?_)
 refine AD h (fun h=>Z ?_) (fun h=>Z ?_)
 ·cases h
  simp only [go_sem]
 ·refine AF ?_
  exact loF (Kg fuel a0 a1 0 _ h) [] []
theorem O1 (a0 a1 r) (h:FC a0 a1=some r):AC Tryz.prog 279 [.agg (ShardVar.avs a0),.agg (ShardVar.avs a1)] (.bool r):=by
 unfold FC at h
 refine acF Tryz.func279 mixed (h:=Z ?_)
 refine AD h (fun h=>Z ?_) (fun h=>Z ?_)
 ·cases h
  simp only [go_sem]
 ·refine AF ?_
  refine AD h (fun h=>Z ?_) (fun h=>Z ?_)
  ·cases h
   simp only [go_sem]
  ·refine AF ?_
   replace h:=AB h; obtain⟨u,w,h⟩:=h
   refine AH (DS _ _ _ w) (Z ?_)
   refine AF ?_
   refine AD h (fun h=>Z ?_) (fun h=>Z ?_)
   ·cases h
    simp only [go_sem]
   ·refine AF ?_
    cases h
    simp only [go_sem]
theorem LJ (n:Nat):(∀a0 a1 u r,CX n a0 a1 u=some r→Ax Tryz.prog Tryz.f249 [1,1,0,1,0] (.bool r) ⟨[(0,.ro (List.map ShardVar.ds a0)),(1,.ro (List.map ShardVar.ds a1)),(5,.int .i64 u)],[],[]⟩):=by
 induction n with
 |zero=>exact((fun _ _ _ _ h=>by rw [CX] at h; cases h))
 | succ n ih=>
  have ih0:=ih
  ·intro a0 a1 u r h
   rw [CX] at h
   refine AS rfl rfl (Z ?_)
   refine AY (Z ?_)
   refine AD h (fun h=>Z ?_) (fun h=>Z ?_)
   ·refine AF ?_
    refine Aa [] .fin (by kernel_rfl) (Z ?_)
    replace h:=AB h; obtain⟨w,y,h⟩:=h
    refine AL y (ShardVar.ds_len _) (Z ?_)
    replace h:=AB h; obtain⟨q,g,h⟩:=h
    refine AL g (ShardVar.ds_len _) (Z ?_)
    replace h:=AB h; obtain⟨j,k,h⟩:=h
    refine AH (O1 _ _ _ k) (Z ?_)
    refine AF ?_
    refine AD h (fun h=>Z ?_) (fun h=>Z ?_)
    ·cases h
     simp only [go_sem]
    ·refine AF ?_
     exact lpF (ih0 a0 a1 (IntKind.i64.wrap (u+1)) _ h) [] []
   ·refine AF ?_
    cases h
    simp only [go_sem]
theorem N7 (a0 a1 r) (h:FQ a0 a1=some r):AC Tryz.prog 249 [.ro (List.map ShardVar.ds a0),.ro (List.map ShardVar.ds a1)] (.bool r):=by
 unfold FQ at h
 refine acF Tryz.func249 mixed (h:=Z ?_)
 refine AD h (fun h=>Z ?_) (fun h=>Z ?_)
 ·cases h
  simp only [go_sem]
 ·refine AF ?_
  exact loF (LJ fuel a0 a1 0 _ h) [] []
theorem NM (a0 a1 r) (h:D6 a0 a1=some r):AC Tryz.prog 280 [.agg (ShardRedex.avs a0),.agg (ShardRedex.avs a1)] (.bool r):=by
 unfold D6 at h
 refine acF Tryz.func280 mixed (h:=Z ?_)
 replace h:=AB h; obtain⟨u,w,h⟩:=h
 refine AH (DS _ _ _ w) (Z ?_)
 refine AF ?_
 refine AD h (fun h=>Z ?_) (fun h=>Z ?_)
 ·cases h
  simp only [go_sem]
 ·refine AF ?_
  replace h:=AB h; obtain⟨y,q,h⟩:=h
  refine AH (DS _ _ _ q) (Z ?_)
  refine AF ?_
  refine AD h (fun h=>Z ?_) (fun h=>Z ?_)
  ·cases h
   simp only [go_sem]
  ·refine AF ?_
   cases h
   simp only [go_sem]
theorem Jx (n:Nat):(∀a0 a1 u r,Bv n a0 a1 u=some r→Ax Tryz.prog Tryz.f250 [1,1,0,1,0] (.bool r) ⟨[(0,.ro (List.map ShardRedex.ds a0)),(1,.ro (List.map ShardRedex.ds a1)),(5,.int .i64 u)],[],[]⟩):=by
 induction n with
 |zero=>exact((fun _ _ _ _ h=>by rw [Bv] at h; cases h))
 | succ n ih=>
  have ih0:=ih
  ·intro a0 a1 u r h
   rw [Bv] at h
   refine AS rfl rfl (Z ?_)
   refine AY (Z ?_)
   refine AD h (fun h=>Z ?_) (fun h=>Z ?_)
   ·refine AF ?_
    refine Aa [] .fin (by kernel_rfl) (Z ?_)
    replace h:=AB h; obtain⟨w,y,h⟩:=h
    refine AL y (ShardRedex.ds_len _) (Z ?_)
    replace h:=AB h; obtain⟨q,g,h⟩:=h
    refine AL g (ShardRedex.ds_len _) (Z ?_)
    replace h:=AB h; obtain⟨j,k,h⟩:=h
    refine AH (NM _ _ _ k) (Z ?_)
    refine AF ?_
    refine AD h (fun h=>Z ?_) (fun h=>Z ?_)
    ·cases h
     simp only [go_sem]
    ·refine AF ?_
     exact lpF (ih0 a0 a1 (IntKind.i64.wrap (u+1)) _ h) [] []
   ·refine AF ?_
    cases h
    simp only [go_sem]
theorem MO (a0 a1 r) (h:EZ a0 a1=some r):AC Tryz.prog 250 [.ro (List.map ShardRedex.ds a0),.ro (List.map ShardRedex.ds a1)] (.bool r):=by
 unfold EZ at h
 refine acF Tryz.func250 mixed (h:=Z ?_)
 refine AD h (fun h=>Z ?_) (fun h=>Z ?_)
 ·cases h
  simp only [go_sem]
 ·refine AF ?_
  exact loF (Jx fuel a0 a1 0 _ h) [] []
theorem Sl (a0 a1 r) (h:HY a0 a1=some r):AC Tryz.prog 208 [.agg (Shard.avs a0),.agg (Shard.avs a1)] (.bool r):=by
 unfold HY at h
 refine acF Tryz.func208 mixed (h:=Z ?_)
 replace h:=AB h; obtain⟨u,w,h⟩:=h
 refine AH (NL _ _ _ w) (Z ?_)
 refine AF ?_
 refine AD h (fun h=>Z ?_) (fun h=>Z ?_)
 ·cases h
  simp only [go_sem]
 ·refine AF ?_
  replace h:=AB h; obtain⟨y,q,h⟩:=h
  refine AH (N7 _ _ _ q) (Z ?_)
  refine AF ?_
  refine AD h (fun h=>Z ?_) (fun h=>Z ?_)
  ·cases h
   simp only [go_sem]
  ·refine AF ?_
   replace h:=AB h; obtain⟨g,j,h⟩:=h
   refine AH (MO _ _ _ j) (Z ?_)
   refine AF ?_
   refine AD h (fun h=>Z ?_) (fun h=>Z ?_)
   ·cases h
    simp only [go_sem]
   ·refine AF ?_
    cases h
    simp only [go_sem]
theorem N8 (n:Nat):(∀a0 a1 u r,Du n a0 a1 u=some r→Ax Tryz.prog Tryz.f147 [1,1,0,1,0] (.bool r) ⟨[(0,.ro (List.map Shard.ds a0)),(1,.ro (List.map Shard.ds a1)),(5,.int .i64 u)],[],[]⟩):=by
 induction n with
 |zero=>exact((fun _ _ _ _ h=>by rw [Du] at h; cases h))
 | succ n ih=>
  have ih0:=ih
  ·intro a0 a1 u r h
   rw [Du] at h
   refine AS rfl rfl (Z ?_)
   refine AY (Z ?_)
   refine AD h (fun h=>Z ?_) (fun h=>Z ?_)
   ·refine AF ?_
    refine Aa [] .fin (by kernel_rfl) (Z ?_)
    replace h:=AB h; obtain⟨w,y,h⟩:=h
    refine AL y (Shard.ds_len _) (Z ?_)
    replace h:=AB h; obtain⟨q,g,h⟩:=h
    refine AL g (Shard.ds_len _) (Z ?_)
    replace h:=AB h; obtain⟨j,k,h⟩:=h
    refine AH (Sl _ _ _ k) (Z ?_)
    refine AF ?_
    refine AD h (fun h=>Z ?_) (fun h=>Z ?_)
    ·cases h
     simp only [go_sem]
    ·refine AF ?_
     exact lpF (ih0 a0 a1 (IntKind.i64.wrap (u+1)) _ h) [] []
   ·refine AF ?_
    cases h
    simp only [go_sem]
theorem LZ (a0 a1 r) (h:GT a0 a1=some r):AC Tryz.prog 147 [.ro (List.map Shard.ds a0),.ro (List.map Shard.ds a1)] (.bool r):=by
 unfold GT at h
 refine acF Tryz.func147 mixed (h:=Z ?_)
 refine AD h (fun h=>Z ?_) (fun h=>Z ?_)
 ·cases h
  simp only [go_sem]
 ·refine AF ?_
  exact loF (N8 fuel a0 a1 0 _ h) [] []
theorem UJ (a0 a1 r) (h:KW a0 a1=some r):AC Tryz.prog 82 [.agg (Grid.avs a0),.agg (Grid.avs a1)] (.bool r):=by
 unfold KW at h
 refine acF Tryz.func82 mixed (h:=Z ?_)
 replace h:=AB h; obtain⟨u,w,h⟩:=h
 refine AH (LZ _ _ _ w) (Z ?_)
 refine AF ?_
 refine AD h (fun h=>Z ?_) (fun h=>Z ?_)
 ·cases h
  simp only [go_sem]
 ·refine AF ?_
  replace h:=AB h; obtain⟨y,q,h⟩:=h
  refine AH (DS _ _ _ q) (Z ?_)
  refine AF ?_
  refine AD h (fun h=>Z ?_) (fun h=>Z ?_)
  ·cases h
   simp only [go_sem]
  ·refine AF ?_
   cases h
   simp only [go_sem]
theorem Q0 (a0 a1 r) (h:GU a0 a1=some r):AC Tryz.prog 209 [.agg (Parcel.avs a0),.agg (Parcel.avs a1)] (.bool r):=by
 unfold GU at h
 refine acF Tryz.func209 mixed (h:=Z ?_)
 refine AD h (fun h=>Z ?_) (fun h=>Z ?_)
 ·cases h
  simp only [go_sem]
 ·refine AF ?_
  replace h:=AB h; obtain⟨u,w,h⟩:=h
  refine AH (I4 _ _ _ w) (Z ?_)
  refine AF ?_
  refine AD h (fun h=>Z ?_) (fun h=>Z ?_)
  ·cases h
   simp only [go_sem]
  ·refine AF ?_
   replace h:=AB h; obtain⟨y,q,h⟩:=h
   refine AH (DS _ _ _ q) (Z ?_)
   refine AF ?_
   refine AD h (fun h=>Z ?_) (fun h=>Z ?_)
   ·cases h
    simp only [go_sem]
   ·refine AF ?_
    replace h:=AB h; obtain⟨g,j,h⟩:=h
    refine AH (DS _ _ _ j) (Z ?_)
    refine AF ?_
    refine AD h (fun h=>Z ?_) (fun h=>Z ?_)
    ·cases h
     simp only [go_sem]
    ·refine AF ?_
     cases h
     simp only [go_sem]
theorem NN (n:Nat):(∀a0 a1 u r,DO n a0 a1 u=some r→Ax Tryz.prog Tryz.f149 [1,1,0,1,0] (.bool r) ⟨[(0,.ro (List.map Parcel.ds a0)),(1,.ro (List.map Parcel.ds a1)),(5,.int .i64 u)],[],[]⟩):=by
 induction n with
 |zero=>exact((fun _ _ _ _ h=>by rw [DO] at h; cases h))
 | succ n ih=>
  have ih0:=ih
  ·intro a0 a1 u r h
   rw [DO] at h
   refine AS rfl rfl (Z ?_)
   refine AY (Z ?_)
   refine AD h (fun h=>Z ?_) (fun h=>Z ?_)
   ·refine AF ?_
    refine Aa [] .fin (by kernel_rfl) (Z ?_)
    replace h:=AB h; obtain⟨w,y,h⟩:=h
    refine AL y (Parcel.ds_len _) (Z ?_)
    replace h:=AB h; obtain⟨q,g,h⟩:=h
    refine AL g (Parcel.ds_len _) (Z ?_)
    replace h:=AB h; obtain⟨j,k,h⟩:=h
    refine AH (Q0 _ _ _ k) (Z ?_)
    refine AF ?_
    refine AD h (fun h=>Z ?_) (fun h=>Z ?_)
    ·cases h
     simp only [go_sem]
    ·refine AF ?_
     exact lpF (ih0 a0 a1 (IntKind.i64.wrap (u+1)) _ h) [] []
   ·refine AF ?_
    cases h
    simp only [go_sem]
theorem QS (a0 a1 r) (h:Fs a0 a1=some r):AC Tryz.prog 149 [.ro (List.map Parcel.ds a0),.ro (List.map Parcel.ds a1)] (.bool r):=by
 unfold Fs at h
 refine acF Tryz.func149 mixed (h:=Z ?_)
 refine AD h (fun h=>Z ?_) (fun h=>Z ?_)
 ·cases h
  simp only [go_sem]
 ·refine AF ?_
  exact loF (NN fuel a0 a1 0 _ h) [] []
theorem MP (n:Nat):(∀a0 a1 u r,Cw n a0 a1 u=some r→Ax Tryz.prog Tryz.f83 [1,1,0,1,0] (.bool r) ⟨[(0,.ro (List.map (slD Parcel.ds) a0)),(1,.ro (List.map (slD Parcel.ds) a1)),(5,.int .i64 u)],[],[]⟩):=by
 induction n with
 |zero=>exact((fun _ _ _ _ h=>by rw [Cw] at h; cases h))
 | succ n ih=>
  have ih0:=ih
  ·intro a0 a1 u r h
   rw [Cw] at h
   refine AS rfl rfl (Z ?_)
   refine AY (Z ?_)
   refine AD h (fun h=>Z ?_) (fun h=>Z ?_)
   ·refine AF ?_
    refine Aa [] .fin (by kernel_rfl) (Z ?_)
    replace h:=AB h; obtain⟨w,y,h⟩:=h
    refine AL y rfl (Z ?_)
    replace h:=AB h; obtain⟨q,g,h⟩:=h
    refine AL g rfl (Z ?_)
    replace h:=AB h; obtain⟨j,k,h⟩:=h
    refine AH (QS _ _ _ k) (Z ?_)
    refine AF ?_
    refine AD h (fun h=>Z ?_) (fun h=>Z ?_)
    ·cases h
     simp only [go_sem]
    ·refine AF ?_
     exact lpF (ih0 a0 a1 (IntKind.i64.wrap (u+1)) _ h) [] []
   ·refine AF ?_
    cases h
    simp only [go_sem]
theorem Jt (a0 a1 r) (h:FD a0 a1=some r):AC Tryz.prog 83 [.ro (List.map (slD Parcel.ds) a0),.ro (List.map (slD Parcel.ds) a1)] (.bool r):=by
 unfold FD at h
 refine acF Tryz.func83 mixed (h:=Z ?_)
 refine AD h (fun h=>Z ?_) (fun h=>Z ?_)
 ·cases h
  simp only [go_sem]
 ·refine AF ?_
  exact loF (MP fuel a0 a1 0 _ h) [] []
theorem NO (n:Nat):(∀a0 a1 u r,DP n a0 a1 u=some r→Ax Tryz.prog Tryz.f84 [1,1,0,1,0] (.bool r) ⟨[(0,.ro (List.map (slD AJ) a0)),(1,.ro (List.map (slD AJ) a1)),(5,.int .i64 u)],[],[]⟩):=by
 induction n with
 |zero=>exact((fun _ _ _ _ h=>by rw [DP] at h; cases h))
 | succ n ih=>
  have ih0:=ih
  ·intro a0 a1 u r h
   rw [DP] at h
   refine AS rfl rfl (Z ?_)
   refine AY (Z ?_)
   refine AD h (fun h=>Z ?_) (fun h=>Z ?_)
   ·refine AF ?_
    refine Aa [] .fin (by kernel_rfl) (Z ?_)
    replace h:=AB h; obtain⟨w,y,h⟩:=h
    refine AL y rfl (Z ?_)
    replace h:=AB h; obtain⟨q,g,h⟩:=h
    refine AL g rfl (Z ?_)
    replace h:=AB h; obtain⟨j,k,h⟩:=h
    refine AH (Ej _ _ _ k) (Z ?_)
    refine AF ?_
    refine AD h (fun h=>Z ?_) (fun h=>Z ?_)
    ·cases h
     simp only [go_sem]
    ·refine AF ?_
     exact lpF (ih0 a0 a1 (IntKind.i64.wrap (u+1)) _ h) [] []
   ·refine AF ?_
    cases h
    simp only [go_sem]
theorem Kh (a0 a1 r) (h:Ft a0 a1=some r):AC Tryz.prog 84 [.ro (List.map (slD AJ) a0),.ro (List.map (slD AJ) a1)] (.bool r):=by
 unfold Ft at h
 refine acF Tryz.func84 mixed (h:=Z ?_)
 refine AD h (fun h=>Z ?_) (fun h=>Z ?_)
 ·cases h
  simp only [go_sem]
 ·refine AF ?_
  exact loF (NO fuel a0 a1 0 _ h) [] []
theorem Ki (a0 a1 r) (h:Fu a0 a1=some r):AC Tryz.prog 36 [.agg (Cluster.avs a0),.agg (Cluster.avs a1)] (.bool r):=by
 unfold Fu at h
 refine acF Tryz.func36 mixed (h:=Z ?_)
 replace h:=AB h; obtain⟨u,w,h⟩:=h
 refine AH (UJ _ _ _ w) (Z ?_)
 refine AF ?_
 refine AD h (fun h=>Z ?_) (fun h=>Z ?_)
 ·cases h
  simp only [go_sem]
 ·refine AF ?_
  replace h:=AB h; obtain⟨y,q,h⟩:=h
  refine AH (Jt _ _ _ q) (Z ?_)
  refine AF ?_
  refine AD h (fun h=>Z ?_) (fun h=>Z ?_)
  ·cases h
   simp only [go_sem]
  ·refine AF ?_
   replace h:=AB h; obtain⟨g,j,h⟩:=h
   refine AH (Kh _ _ _ j) (Z ?_)
   refine AF ?_
   refine AD h (fun h=>Z ?_) (fun h=>Z ?_)
   ·cases h
    simp only [go_sem]
   ·refine AF ?_
    replace h:=AB h; obtain⟨k,b,h⟩:=h
    refine AH (Ej _ _ _ b) (Z ?_)
    refine AF ?_
    refine AD h (fun h=>Z ?_) (fun h=>Z ?_)
    ·cases h
     simp only [go_sem]
    ·refine AF ?_
     replace h:=AB h; obtain⟨d,c,h⟩:=h
     refine AH (Ej _ _ _ c) (Z ?_)
     refine AF ?_
     refine AD h (fun h=>Z ?_) (fun h=>Z ?_)
     ·cases h
      simp only [go_sem]
     ·refine AF ?_
      cases h
      simp only [go_sem]
theorem O2 (n:Nat):(∀a0 a1 u r,EU n a0 a1 u=some r→Ax Tryz.prog Tryz.f65 [1,1,0,1,0] (.bool r) ⟨[(0,.ro (List.map Ac a0)),(1,.ro (List.map Ac a1)),(5,.int .i64 u)],[],[]⟩):=by
 induction n with
 |zero=>exact((fun _ _ _ _ h=>by rw [EU] at h; cases h))
 | succ n ih=>
  have ih0:=ih
  ·intro a0 a1 u r h
   rw [EU] at h
   refine AS rfl rfl (Z ?_)
   refine AY (Z ?_)
   refine AD h (fun h=>Z ?_) (fun h=>Z ?_)
   ·refine AF ?_
    refine Aa [] .fin (by kernel_rfl) (Z ?_)
    replace h:=AB h; obtain⟨w,y,h⟩:=h
    refine AL y rfl (Z ?_)
    replace h:=AB h; obtain⟨q,g,h⟩:=h
    refine AL g rfl (Z ?_)
    refine AF ?_
    refine AD h (fun h=>Z ?_) (fun h=>Z ?_)
    ·cases h
     simp only [go_sem]
    ·refine AF ?_
     exact lpF (ih0 a0 a1 (IntKind.i64.wrap (u+1)) _ h) [] []
   ·refine AF ?_
    cases h
    simp only [go_sem]
theorem NP (a0 a1 r) (h:HZ a0 a1=some r):AC Tryz.prog 65 [.ro (List.map Ac a0),.ro (List.map Ac a1)] (.bool r):=by
 unfold HZ at h
 refine acF Tryz.func65 mixed (h:=Z ?_)
 refine AD h (fun h=>Z ?_) (fun h=>Z ?_)
 ·cases h
  simp only [go_sem]
 ·refine AF ?_
  exact loF (O2 fuel a0 a1 0 _ h) [] []
theorem UK (a0 a1 r) (h:KX a0 a1=some r):AC Tryz.prog 81 [.agg (Shot.avs a0),.agg (Shot.avs a1)] (.bool r):=by
 unfold KX at h
 refine acF Tryz.func81 mixed (h:=Z ?_)
 replace h:=AB h; obtain⟨u,w,h⟩:=h
 refine AH (NP _ _ _ w) (Z ?_)
 refine AF ?_
 refine AD h (fun h=>Z ?_) (fun h=>Z ?_)
 ·cases h
  simp only [go_sem]
 ·refine AF ?_
  replace h:=AB h; obtain⟨y,q,h⟩:=h
  refine AH (LZ _ _ _ q) (Z ?_)
  refine AF ?_
  refine AD h (fun h=>Z ?_) (fun h=>Z ?_)
  ·cases h
   simp only [go_sem]
  ·refine AF ?_
   replace h:=AB h; obtain⟨g,j,h⟩:=h
   refine AH (Kh _ _ _ j) (Z ?_)
   refine AF ?_
   refine AD h (fun h=>Z ?_) (fun h=>Z ?_)
   ·cases h
    simp only [go_sem]
   ·refine AF ?_
    replace h:=AB h; obtain⟨k,b,h⟩:=h
    refine AH (NP _ _ _ b) (Z ?_)
    refine AF ?_
    refine AD h (fun h=>Z ?_) (fun h=>Z ?_)
    ·cases h
     simp only [go_sem]
    ·refine AF ?_
     replace h:=AB h; obtain⟨d,c,h⟩:=h
     refine AH (Jt _ _ _ c) (Z ?_)
     refine AF ?_
     refine AD h (fun h=>Z ?_) (fun h=>Z ?_)
     ·cases h
      simp only [go_sem]
     ·refine AF ?_
      cases h
      simp only [go_sem]
theorem QT (a0 a1 r) (h:Gs a0 a1=some r):AC Tryz.prog 35 [.agg (Watched.avs a0),.agg (Watched.avs a1)] (.bool r):=by
 unfold Gs at h
 refine acF Tryz.func35 mixed (h:=Z ?_)
 replace h:=AB h; obtain⟨u,w,h⟩:=h
 refine AH (Ki _ _ _ w) (Z ?_)
 refine AF ?_
 refine AD h (fun h=>Z ?_) (fun h=>Z ?_)
 ·cases h
  simp only [go_sem]
 ·refine AF ?_
  replace h:=AB h; obtain⟨y,q,h⟩:=h
  refine AH (UK _ _ _ q) (Z ?_)
  refine AF ?_
  refine AD h (fun h=>Z ?_) (fun h=>Z ?_)
  ·cases h
   simp only [go_sem]
  ·refine AF ?_
   cases h
   simp only [go_sem]
theorem H6 (a0 a1 r) (h:EH a0 a1=some r):AC Tryz.prog 11 [.agg (Service.avs a0),.agg (Service.avs a1)] (.bool r):=by
 unfold EH at h
 refine acF Tryz.func11 mixed (h:=Z ?_)
 replace h:=AB h; obtain⟨u,w,h⟩:=h
 refine AH (QT _ _ _ w) (Z ?_)
 refine AF ?_
 refine AD h (fun h=>Z ?_) (fun h=>Z ?_)
 ·cases h
  simp only [go_sem]
 ·refine AF ?_
  replace h:=AB h; obtain⟨y,q,h⟩:=h
  refine AH (Ki _ _ _ q) (Z ?_)
  refine AF ?_
  refine AD h (fun h=>Z ?_) (fun h=>Z ?_)
  ·cases h
   simp only [go_sem]
  ·refine AF ?_
   refine AD h (fun h=>Z ?_) (fun h=>Z ?_)
   ·cases h
    simp only [go_sem]
   ·refine AF ?_
    refine AD h (fun h=>Z ?_) (fun h=>Z ?_)
    ·cases h
     simp only [go_sem]
    ·refine AF ?_
     cases h
     simp only [go_sem]
theorem Kj (n:Nat):(∀u w y (z1:Option Nat) r,Bc n u w y=some r→E4 Tryz.prog Tryz.f214 [1,0,1,0] (.int .i64 r.1) [(1,⟨List.map Address.ds r.2,z1,0,.no⟩)] [] ⟨[(0,.own 1),(1,.int .i64 w),(5,.int .i64 y)],[(1,some ⟨List.map Address.ds u,z1,0,.no⟩)],[]⟩):=by
 induction n with
 |zero=>exact((fun _ _ _ _ _ h=>by rw [Bc] at h; cases h))
 | succ n ih=>
  have ih0:=ih
  ·intro u w y z1 r h
   rw [Bc] at h
   refine Bo rfl rfl (Z ?_)
   refine AY (Z ?_)
   refine AD h (fun h=>Z ?_) (fun h=>Z ?_)
   ·refine AF ?_
    replace h:=AB h; obtain⟨q,g,h⟩:=h
    refine AL g (Address.ds_len _) (Z ?_)
    replace h:=AB h; obtain⟨j,k,h⟩:=h
    refine AW (AM g) (Z ?_)
    refine AT (List.map Address.ds j) (by rw [← AN k]; simp only [List.map_set,go_sem,Address.ds_eq]) (Z ?_)
    replace h:=AB h; obtain⟨b,d,h⟩:=h
    refine AL d (Address.ds_len _) (Z ?_)
    replace h:=AB h; obtain⟨c,e,h⟩:=h
    refine AW (AM d) (Z ?_)
    refine AT (List.map Address.ds c) (by rw [← AN e]; simp only [List.map_set,go_sem,Address.ds_eq]) (Z ?_)
    replace h:=AB h; obtain⟨i,l,h⟩:=h
    refine AL l (Address.ds_len _) (Z ?_)
    replace h:=AB h; obtain⟨t,s,h⟩:=h
    refine AW (AM l) (Z ?_)
    refine AT (List.map Address.ds t) (by rw [← AN s]; simp only [List.map_set,go_sem,Address.ds_eq]) (Z ?_)
    refine AF ?_
    exact lpG (ih0 t (IntKind.i64.wrap ((IntKind.i64.wrap ((IntKind.i64.wrap (w+1))+1))+1)) (IntKind.i64.wrap (y+1)) z1 _ h) [(1,1)] []
   ·refine AF ?_
    cases h
    refine Cc (.done _) [(1,1)] [] ?_
    simp only [go_sem]
theorem IQ (a0 a1) (z1:Option Nat) (r) (h:D7 a0 a1=some r):AG Tryz.prog 214 [.own 1,.int .i64 a1] [(1,⟨List.map Address.ds a0,z1,0,.no⟩)] [] (.int .i64 r.1) [(1,⟨List.map Address.ds r.2,z1,0,.no⟩)] [] :=by
 unfold D7 at h
 refine agF Tryz.func214 mixed (h:=Z ?_)
 exact loG (Kj fuel a0 a1 0 z1 _ h) [(1,1)] []
theorem Jh (n:Nat):(∀u w y (z1:Option Nat) r,BH n u w y=some r→E4 Tryz.prog Tryz.f211 [1,0,1,0] (.int .i64 r.1) [(1,⟨List.map ShardCell.ds r.2,z1,0,.no⟩)] [] ⟨[(0,.own 1),(1,.int .i64 w),(5,.int .i64 y)],[(1,some ⟨List.map ShardCell.ds u,z1,0,.no⟩)],[]⟩):=by
 induction n with
 |zero=>exact((fun _ _ _ _ _ h=>by rw [BH] at h; cases h))
 | succ n ih=>
  have ih0:=ih
  ·intro u w y z1 r h
   rw [BH] at h
   refine Bo rfl rfl (Z ?_)
   refine AY (Z ?_)
   refine AD h (fun h=>Z ?_) (fun h=>Z ?_)
   ·refine AF ?_
    replace h:=AB h; obtain⟨q,g,h⟩:=h
    refine AL g (ShardCell.ds_len _) (Z ?_)
    replace h:=AB h; obtain⟨j,k,h⟩:=h
    refine AW (AM g) (Z ?_)
    refine AT (List.map ShardCell.ds j) (by rw [← AN k]; simp only [List.map_set,go_sem,ShardCell.ds_eq]) (Z ?_)
    replace h:=AB h; obtain⟨b,d,h⟩:=h
    refine AL d (ShardCell.ds_len _) (Z ?_)
    replace h:=AB h; obtain⟨c,e,h⟩:=h
    refine AW (AM d) (Z ?_)
    refine AT (List.map ShardCell.ds c) (by rw [← AN e]; simp only [List.map_set,go_sem,ShardCell.ds_eq]) (Z ?_)
    replace h:=AB h; obtain⟨i,l,h⟩:=h
    refine AL l (ShardCell.ds_len _) (Z ?_)
    replace h:=AB h; obtain⟨t,s,h⟩:=h
    refine AW (AM l) (Z ?_)
    refine AT (List.map ShardCell.ds t) (by rw [← AN s]; simp only [List.map_set,go_sem,ShardCell.ds_eq]) (Z ?_)
    replace h:=AB h; obtain⟨o,z,h⟩:=h
    refine AL z (ShardCell.ds_len _) (Z ?_)
    refine AW (AM z) (Z ?_)
    replace h:=AB h; obtain⟨u1,u2,h⟩:=h
    replace h:=AB h; obtain⟨u3,u4,h⟩:=h
    refine caG ⟨[(3000176096,.sub 1 0 [(5,Int.toNat y,3)],none)],[(1,3000176096)],[],[],[],true⟩ (Cz _ _ none _ u2) (Z ?_)
    refine AW (Ff (r:=List.map AJ o.data) (AM z) (ShardCell.ds_len _) (by simp only [go_sem,ShardCell.ds_eq])) (Z ?_)
    refine AT ((List.map ShardCell.ds t).set (Int.toNat y) [.int .i64 o.kind,.int .i64 o.level,.int .i64 o.value,.gone,.sl (List.map Address.ds o.aux)]) ((B8 (AM z) (d':=.sl (List.map AJ o.data)) (by simp only [go_sem,ShardCell.ds_eq])).trans (by simp only [go_sem,ShardCell.ds_eq])) (Z ?_)
    refine Ad (Et (C4 (AM z)) rfl rfl) (Z ?_)
    refine AT (List.map ShardCell.ds u3) (((B8 (C4 (AM z)) (d':=.gone) rfl).trans (List.set_set ..)).trans (by rw [← AN u4]; simp only [List.map_set,go_sem,ShardCell.ds_eq])) (Z ?_)
    refine AF ?_
    replace h:=AB h; obtain⟨u5,u6,h⟩:=h
    refine AL u6 (ShardCell.ds_len _) (Z ?_)
    refine AW (AM u6) (Z ?_)
    replace h:=AB h; obtain⟨u7,u8,h⟩:=h
    replace h:=AB h; obtain⟨u9,u10,h⟩:=h
    refine caG ⟨[(3000192096,.sub 1 0 [(5,Int.toNat y,4)],none)],[(1,3000192096)],[],[],[],true⟩ (IQ _ _ none _ u8) (Z ?_)
    refine AW (Ff (r:=List.map Address.ds u5.aux) (AM u6) (ShardCell.ds_len _) (by simp only [go_sem,ShardCell.ds_eq])) (Z ?_)
    refine AT ((List.map ShardCell.ds u3).set (Int.toNat y) [.int .i64 u5.kind,.int .i64 u5.level,.int .i64 u5.value,.sl (List.map AJ u5.data),.gone]) ((B8 (AM u6) (d':=.sl (List.map Address.ds u5.aux)) (by simp only [go_sem,ShardCell.ds_eq])).trans (by simp only [go_sem,ShardCell.ds_eq])) (Z ?_)
    refine Ad (Et (C4 (AM u6)) rfl rfl) (Z ?_)
    refine AT (List.map ShardCell.ds u9) (((B8 (C4 (AM u6)) (d':=.gone) rfl).trans (List.set_set ..)).trans (by rw [← AN u10]; simp only [List.map_set,go_sem,ShardCell.ds_eq])) (Z ?_)
    refine AF ?_
    exact lpG (ih0 u9 u7.1 (IntKind.i64.wrap (y+1)) z1 _ h) [(1,1)] []
   ·refine AF ?_
    cases h
    refine Cc (.done _) [(1,1)] [] ?_
    simp only [go_sem]
theorem LK (a0 a1) (z1:Option Nat) (r) (h:D8 a0 a1=some r):AG Tryz.prog 211 [.own 1,.int .i64 a1] [(1,⟨List.map ShardCell.ds a0,z1,0,.no⟩)] [] (.int .i64 r.1) [(1,⟨List.map ShardCell.ds r.2,z1,0,.no⟩)] [] :=by
 unfold D8 at h
 refine agF Tryz.func211 mixed (h:=Z ?_)
 exact loG (Jh fuel a0 a1 0 z1 _ h) [(1,1)] []
theorem Jy (n:Nat):(∀u w y (z1:Option Nat) r,BQ n u w y=some r→E4 Tryz.prog Tryz.f212 [1,0,1,0] (.int .i64 r.1) [(1,⟨List.map ShardVar.ds r.2,z1,0,.no⟩)] [] ⟨[(0,.own 1),(1,.int .i64 w),(5,.int .i64 y)],[(1,some ⟨List.map ShardVar.ds u,z1,0,.no⟩)],[]⟩):=by
 induction n with
 |zero=>exact((fun _ _ _ _ _ h=>by rw [BQ] at h; cases h))
 | succ n ih=>
  have ih0:=ih
  ·intro u w y z1 r h
   rw [BQ] at h
   refine Bo rfl rfl (Z ?_)
   refine AY (Z ?_)
   refine AD h (fun h=>Z ?_) (fun h=>Z ?_)
   ·refine AF ?_
    refine Ad (by decide) (Z ?_)
    replace h:=AB h; obtain⟨q,g,h⟩:=h
    refine AL g (ShardVar.ds_len _) (Z ?_)
    replace h:=AB h; obtain⟨j,k,h⟩:=h
    refine AW (AM g) (Z ?_)
    refine AT (List.map ShardVar.ds j) (by rw [← AN k]; simp only [List.map_set,go_sem,ShardVar.ds_eq]) (Z ?_)
    refine Ad (by decide) (Z ?_)
    replace h:=AB h; obtain⟨b,d,h⟩:=h
    refine AL d (ShardVar.ds_len _) (Z ?_)
    replace h:=AB h; obtain⟨c,e,h⟩:=h
    refine AW (AM d) (Z ?_)
    refine AT (List.map ShardVar.ds c) (by rw [← AN e]; simp only [List.map_set,go_sem,ShardVar.ds_eq]) (Z ?_)
    replace h:=AB h; obtain⟨i,l,h⟩:=h
    refine AL l (ShardVar.ds_len _) (Z ?_)
    replace h:=AB h; obtain⟨t,s,h⟩:=h
    refine AW (AM l) (Z ?_)
    refine AT (List.map ShardVar.ds t) (by rw [← AN s]; simp only [List.map_set,go_sem,ShardVar.ds_eq]) (Z ?_)
    replace h:=AB h; obtain⟨o,z,h⟩:=h
    refine AL z (ShardVar.ds_len _) (Z ?_)
    replace h:=AB h; obtain⟨u1,u2,h⟩:=h
    refine AW (AM z) (Z ?_)
    refine AT (List.map ShardVar.ds u1) (by rw [← AN u2]; simp only [List.map_set,go_sem,ShardVar.ds_eq]) (Z ?_)
    replace h:=AB h; obtain⟨u3,u4,h⟩:=h
    refine AL u4 (ShardVar.ds_len _) (Z ?_)
    replace h:=AB h; obtain⟨u5,u6,h⟩:=h
    refine AW (AM u4) (Z ?_)
    refine AT (List.map ShardVar.ds u5) (by rw [← AN u6]; simp only [List.map_set,go_sem,ShardVar.ds_eq]) (Z ?_)
    refine AF ?_
    exact lpG (ih0 u5 (IntKind.i64.wrap ((IntKind.i64.wrap ((IntKind.i64.wrap ((IntKind.i64.wrap ((IntKind.i64.wrap (w+1))+1))+1))+1))+1)) (IntKind.i64.wrap (y+1)) z1 _ h) [(1,1)] []
   ·refine AF ?_
    cases h
    refine Cc (.done _) [(1,1)] [] ?_
    simp only [go_sem]
theorem MQ (a0 a1) (z1:Option Nat) (r) (h:Ea a0 a1=some r):AG Tryz.prog 212 [.own 1,.int .i64 a1] [(1,⟨List.map ShardVar.ds a0,z1,0,.no⟩)] [] (.int .i64 r.1) [(1,⟨List.map ShardVar.ds r.2,z1,0,.no⟩)] [] :=by
 unfold Ea at h
 refine agF Tryz.func212 mixed (h:=Z ?_)
 exact loG (Jy fuel a0 a1 0 z1 _ h) [(1,1)] []
theorem I5 (n:Nat):(∀u w y (z1:Option Nat) r,A5 n u w y=some r→E4 Tryz.prog Tryz.f213 [1,0,1,0] (.int .i64 r.1) [(1,⟨List.map ShardRedex.ds r.2,z1,0,.no⟩)] [] ⟨[(0,.own 1),(1,.int .i64 w),(5,.int .i64 y)],[(1,some ⟨List.map ShardRedex.ds u,z1,0,.no⟩)],[]⟩):=by
 induction n with
 |zero=>exact((fun _ _ _ _ _ h=>by rw [A5] at h; cases h))
 | succ n ih=>
  have ih0:=ih
  ·intro u w y z1 r h
   rw [A5] at h
   refine Bo rfl rfl (Z ?_)
   refine AY (Z ?_)
   refine AD h (fun h=>Z ?_) (fun h=>Z ?_)
   ·refine AF ?_
    replace h:=AB h; obtain⟨q,g,h⟩:=h
    refine AL g (ShardRedex.ds_len _) (Z ?_)
    replace h:=AB h; obtain⟨j,k,h⟩:=h
    refine AW (AM g) (Z ?_)
    refine AT (List.map ShardRedex.ds j) (by rw [← AN k]; simp only [List.map_set,go_sem,ShardRedex.ds_eq]) (Z ?_)
    replace h:=AB h; obtain⟨b,d,h⟩:=h
    refine AL d (ShardRedex.ds_len _) (Z ?_)
    replace h:=AB h; obtain⟨c,e,h⟩:=h
    refine AW (AM d) (Z ?_)
    refine AT (List.map ShardRedex.ds c) (by rw [← AN e]; simp only [List.map_set,go_sem,ShardRedex.ds_eq]) (Z ?_)
    replace h:=AB h; obtain⟨i,l,h⟩:=h
    refine AL l (ShardRedex.ds_len _) (Z ?_)
    replace h:=AB h; obtain⟨t,s,h⟩:=h
    refine AW (AM l) (Z ?_)
    refine AT (List.map ShardRedex.ds t) (by rw [← AN s]; simp only [List.map_set,go_sem,ShardRedex.ds_eq]) (Z ?_)
    replace h:=AB h; obtain⟨o,z,h⟩:=h
    refine AL z (ShardRedex.ds_len _) (Z ?_)
    replace h:=AB h; obtain⟨u1,u2,h⟩:=h
    refine AW (AM z) (Z ?_)
    refine AT (List.map ShardRedex.ds u1) (by rw [← AN u2]; simp only [List.map_set,go_sem,ShardRedex.ds_eq]) (Z ?_)
    replace h:=AB h; obtain⟨u3,u4,h⟩:=h
    refine AL u4 (ShardRedex.ds_len _) (Z ?_)
    replace h:=AB h; obtain⟨u5,u6,h⟩:=h
    refine AW (AM u4) (Z ?_)
    refine AT (List.map ShardRedex.ds u5) (by rw [← AN u6]; simp only [List.map_set,go_sem,ShardRedex.ds_eq]) (Z ?_)
    replace h:=AB h; obtain⟨u7,u8,h⟩:=h
    refine AL u8 (ShardRedex.ds_len _) (Z ?_)
    replace h:=AB h; obtain⟨u9,u10,h⟩:=h
    refine AW (AM u8) (Z ?_)
    refine AT (List.map ShardRedex.ds u9) (by rw [← AN u10]; simp only [List.map_set,go_sem,ShardRedex.ds_eq]) (Z ?_)
    refine AF ?_
    exact lpG (ih0 u9 (IntKind.i64.wrap ((IntKind.i64.wrap ((IntKind.i64.wrap ((IntKind.i64.wrap ((IntKind.i64.wrap ((IntKind.i64.wrap (w+1))+1))+1))+1))+1))+1)) (IntKind.i64.wrap (y+1)) z1 _ h) [(1,1)] []
   ·refine AF ?_
    cases h
    refine Cc (.done _) [(1,1)] [] ?_
    simp only [go_sem]
theorem Kk (a0 a1) (z1:Option Nat) (r) (h:Dh a0 a1=some r):AG Tryz.prog 213 [.own 1,.int .i64 a1] [(1,⟨List.map ShardRedex.ds a0,z1,0,.no⟩)] [] (.int .i64 r.1) [(1,⟨List.map ShardRedex.ds r.2,z1,0,.no⟩)] [] :=by
 unfold Dh at h
 refine agF Tryz.func213 mixed (h:=Z ?_)
 exact loG (I5 fuel a0 a1 0 z1 _ h) [(1,1)] []
theorem MR (n:Nat):(∀u w y (z1:Option Nat) r,CQ n u w y=some r→E4 Tryz.prog Tryz.f151 [1,0,1,0] (.int .i64 r.1) [(1,⟨List.map Shard.ds r.2,z1,0,.no⟩)] [] ⟨[(0,.own 1),(1,.int .i64 w),(5,.int .i64 y)],[(1,some ⟨List.map Shard.ds u,z1,0,.no⟩)],[]⟩):=by
 induction n with
 |zero=>exact((fun _ _ _ _ _ h=>by rw [CQ] at h; cases h))
 | succ n ih=>
  have ih0:=ih
  ·intro u w y z1 r h
   rw [CQ] at h
   refine Bo rfl rfl (Z ?_)
   refine AY (Z ?_)
   refine AD h (fun h=>Z ?_) (fun h=>Z ?_)
   ·refine AF ?_
    replace h:=AB h; obtain⟨q,g,h⟩:=h
    refine AL g (Shard.ds_len _) (Z ?_)
    refine AW (AM g) (Z ?_)
    replace h:=AB h; obtain⟨j,k,h⟩:=h
    replace h:=AB h; obtain⟨b,d,h⟩:=h
    refine caG ⟨[(3000080096,.sub 1 0 [(3,Int.toNat y,0)],none)],[(1,3000080096)],[],[],[],true⟩ (LK _ _ none _ k) (Z ?_)
    refine AW (Ff (r:=List.map ShardCell.ds q.cells) (AM g) (Shard.ds_len _) (by simp only [go_sem,Shard.ds_eq])) (Z ?_)
    refine AT ((List.map Shard.ds u).set (Int.toNat y) [.gone,.sl (List.map ShardVar.ds q.vars),.sl (List.map ShardRedex.ds q.redexes)]) ((B8 (AM g) (d':=.sl (List.map ShardCell.ds q.cells)) (by simp only [go_sem,Shard.ds_eq])).trans (by simp only [go_sem,Shard.ds_eq])) (Z ?_)
    refine Ad (Et (C4 (AM g)) rfl rfl) (Z ?_)
    refine AT (List.map Shard.ds b) (((B8 (C4 (AM g)) (d':=.gone) rfl).trans (List.set_set ..)).trans (by rw [← AN d]; simp only [List.map_set,go_sem,Shard.ds_eq])) (Z ?_)
    refine AF ?_
    replace h:=AB h; obtain⟨c,e,h⟩:=h
    refine AL e (Shard.ds_len _) (Z ?_)
    refine AW (AM e) (Z ?_)
    replace h:=AB h; obtain⟨i,l,h⟩:=h
    replace h:=AB h; obtain⟨t,s,h⟩:=h
    refine caG ⟨[(3000096096,.sub 1 0 [(3,Int.toNat y,1)],none)],[(1,3000096096)],[],[],[],true⟩ (MQ _ _ none _ l) (Z ?_)
    refine AW (Ff (r:=List.map ShardVar.ds c.vars) (AM e) (Shard.ds_len _) (by simp only [go_sem,Shard.ds_eq])) (Z ?_)
    refine AT ((List.map Shard.ds b).set (Int.toNat y) [.sl (List.map ShardCell.ds c.cells),.gone,.sl (List.map ShardRedex.ds c.redexes)]) ((B8 (AM e) (d':=.sl (List.map ShardVar.ds c.vars)) (by simp only [go_sem,Shard.ds_eq])).trans (by simp only [go_sem,Shard.ds_eq])) (Z ?_)
    refine Ad (Et (C4 (AM e)) rfl rfl) (Z ?_)
    refine AT (List.map Shard.ds t) (((B8 (C4 (AM e)) (d':=.gone) rfl).trans (List.set_set ..)).trans (by rw [← AN s]; simp only [List.map_set,go_sem,Shard.ds_eq])) (Z ?_)
    refine AF ?_
    replace h:=AB h; obtain⟨o,z,h⟩:=h
    refine AL z (Shard.ds_len _) (Z ?_)
    refine AW (AM z) (Z ?_)
    replace h:=AB h; obtain⟨u1,u2,h⟩:=h
    replace h:=AB h; obtain⟨u3,u4,h⟩:=h
    refine caG ⟨[(3000112096,.sub 1 0 [(3,Int.toNat y,2)],none)],[(1,3000112096)],[],[],[],true⟩ (Kk _ _ none _ u2) (Z ?_)
    refine AW (Ff (r:=List.map ShardRedex.ds o.redexes) (AM z) (Shard.ds_len _) (by simp only [go_sem,Shard.ds_eq])) (Z ?_)
    refine AT ((List.map Shard.ds t).set (Int.toNat y) [.sl (List.map ShardCell.ds o.cells),.sl (List.map ShardVar.ds o.vars),.gone]) ((B8 (AM z) (d':=.sl (List.map ShardRedex.ds o.redexes)) (by simp only [go_sem,Shard.ds_eq])).trans (by simp only [go_sem,Shard.ds_eq])) (Z ?_)
    refine Ad (Et (C4 (AM z)) rfl rfl) (Z ?_)
    refine AT (List.map Shard.ds u3) (((B8 (C4 (AM z)) (d':=.gone) rfl).trans (List.set_set ..)).trans (by rw [← AN u4]; simp only [List.map_set,go_sem,Shard.ds_eq])) (Z ?_)
    refine AF ?_
    exact lpG (ih0 u3 u1.1 (IntKind.i64.wrap (y+1)) z1 _ h) [(1,1)] []
   ·refine AF ?_
    cases h
    refine Cc (.done _) [(1,1)] [] ?_
    simp only [go_sem]
theorem Ju (a0 a1) (z1:Option Nat) (r) (h:FE a0 a1=some r):AG Tryz.prog 151 [.own 1,.int .i64 a1] [(1,⟨List.map Shard.ds a0,z1,0,.no⟩)] [] (.int .i64 r.1) [(1,⟨List.map Shard.ds r.2,z1,0,.no⟩)] [] :=by
 unfold FE at h
 refine agF Tryz.func151 mixed (h:=Z ?_)
 exact loG (MR fuel a0 a1 0 z1 _ h) [(1,1)] []
theorem Q1 (a0 a1) (z1:Option Nat) (r) (h:JX a0 a1=some r):AG Tryz.prog 88 [.agg [.own 1,.int .i64 a0.root.machine,.int .i64 a0.root.kind,.int .i64 a0.root.index],.int .i64 a1] [(1,⟨List.map Shard.ds a0.shards,z1,0,.no⟩)] [] (.int .i64 r.1) [(1,⟨List.map Shard.ds r.2,z1,0,.no⟩)] [] :=by
 unfold JX at h
 refine agF Tryz.func88 mixed (h:=Z ?_)
 replace h:=AB h; obtain⟨u,w,h⟩:=h
 refine caG ⟨[],[(1,1)],[],[],[],true⟩ (Ju _ _ z1 _ w) (Z ?_)
 refine AF ?_
 cases h
 refine Cc (.done _) [(1,1)] [] ?_
 simp only [go_sem]
theorem LL (n:Nat):(∀u w y (z1:Option Nat) r,By n u w y=some r→E4 Tryz.prog Tryz.f152 [1,0,1,0] (.int .i64 r.1) [(1,⟨List.map Parcel.ds r.2,z1,0,.no⟩)] [] ⟨[(0,.own 1),(1,.int .i64 w),(5,.int .i64 y)],[(1,some ⟨List.map Parcel.ds u,z1,0,.no⟩)],[]⟩):=by
 induction n with
 |zero=>exact((fun _ _ _ _ _ h=>by rw [By] at h; cases h))
 | succ n ih=>
  have ih0:=ih
  ·intro u w y z1 r h
   rw [By] at h
   refine Bo rfl rfl (Z ?_)
   refine AY (Z ?_)
   refine AD h (fun h=>Z ?_) (fun h=>Z ?_)
   ·refine AF ?_
    replace h:=AB h; obtain⟨q,g,h⟩:=h
    refine AL g (Parcel.ds_len _) (Z ?_)
    replace h:=AB h; obtain⟨j,k,h⟩:=h
    refine AW (AM g) (Z ?_)
    refine AT (List.map Parcel.ds j) (by rw [← AN k]; simp only [List.map_set,go_sem,Parcel.ds_eq]) (Z ?_)
    replace h:=AB h; obtain⟨d,c,h⟩:=h
    refine AL c (Parcel.ds_len _) (Z ?_)
    replace h:=AB h; obtain⟨e,i,h⟩:=h
    refine AW (AM c) (Z ?_)
    refine AT (List.map Parcel.ds e) (by rw [← AN i]; simp only [List.map_set,go_sem,Parcel.ds_eq]) (Z ?_)
    replace h:=AB h; obtain⟨l,t,h⟩:=h
    refine AL t (Parcel.ds_len _) (Z ?_)
    replace h:=AB h; obtain⟨s,o,h⟩:=h
    refine AW (AM t) (Z ?_)
    refine AT (List.map Parcel.ds s) (by rw [← AN o]; simp only [List.map_set,go_sem,Parcel.ds_eq]) (Z ?_)
    replace h:=AB h; obtain⟨z,u1,h⟩:=h
    refine AL u1 (Parcel.ds_len _) (Z ?_)
    replace h:=AB h; obtain⟨u2,u3,h⟩:=h
    refine AW (AM u1) (Z ?_)
    refine AT (List.map Parcel.ds u2) (by rw [← AN u3]; simp only [List.map_set,go_sem,Parcel.ds_eq]) (Z ?_)
    replace h:=AB h; obtain⟨u4,u5,h⟩:=h
    refine AL u5 (Parcel.ds_len _) (Z ?_)
    refine AW (AM u5) (Z ?_)
    replace h:=AB h; obtain⟨u6,u7,h⟩:=h
    replace h:=AB h; obtain⟨u8,u9,h⟩:=h
    refine caG ⟨[(3000208112,.sub 1 0 [(12,Int.toNat y,4)],none)],[(1,3000208112)],[],[],[],true⟩ (Cz _ _ none _ u7) (Z ?_)
    refine AW (Ff (r:=List.map AJ u4.cell.data) (AM u5) (Parcel.ds_len _) (by simp only [go_sem,Parcel.ds_eq])) (Z ?_)
    refine AT ((List.map Parcel.ds u2).set (Int.toNat y) [.int .i64 u4.kind,.int .i64 u4.cell.kind,.int .i64 u4.cell.level,.int .i64 u4.cell.value,.gone,.sl (List.map Address.ds u4.cell.aux),.int .i64 u4.a.machine,.int .i64 u4.a.kind,.int .i64 u4.a.index,.int .i64 u4.b.machine,.int .i64 u4.b.kind,.int .i64 u4.b.index]) ((B8 (AM u5) (d':=.sl (List.map AJ u4.cell.data)) (by simp only [go_sem,Parcel.ds_eq])).trans (by simp only [go_sem,Parcel.ds_eq])) (Z ?_)
    refine Ad (Et (C4 (AM u5)) rfl rfl) (Z ?_)
    refine AT (List.map Parcel.ds u8) (((B8 (C4 (AM u5)) (d':=.gone) rfl).trans (List.set_set ..)).trans (by rw [← AN u9]; simp only [List.map_set,go_sem,Parcel.ds_eq])) (Z ?_)
    refine AF ?_
    replace h:=AB h; obtain⟨u10,u11,h⟩:=h
    refine AL u11 (Parcel.ds_len _) (Z ?_)
    refine AW (AM u11) (Z ?_)
    replace h:=AB h; obtain⟨u12,u13,h⟩:=h
    replace h:=AB h; obtain⟨u14,u15,h⟩:=h
    refine caG ⟨[(3000224112,.sub 1 0 [(12,Int.toNat y,5)],none)],[(1,3000224112)],[],[],[],true⟩ (IQ _ _ none _ u13) (Z ?_)
    refine AW (Ff (r:=List.map Address.ds u10.cell.aux) (AM u11) (Parcel.ds_len _) (by simp only [go_sem,Parcel.ds_eq])) (Z ?_)
    refine AT ((List.map Parcel.ds u8).set (Int.toNat y) [.int .i64 u10.kind,.int .i64 u10.cell.kind,.int .i64 u10.cell.level,.int .i64 u10.cell.value,.sl (List.map AJ u10.cell.data),.gone,.int .i64 u10.a.machine,.int .i64 u10.a.kind,.int .i64 u10.a.index,.int .i64 u10.b.machine,.int .i64 u10.b.kind,.int .i64 u10.b.index]) ((B8 (AM u11) (d':=.sl (List.map Address.ds u10.cell.aux)) (by simp only [go_sem,Parcel.ds_eq])).trans (by simp only [go_sem,Parcel.ds_eq])) (Z ?_)
    refine Ad (Et (C4 (AM u11)) rfl rfl) (Z ?_)
    refine AT (List.map Parcel.ds u14) (((B8 (C4 (AM u11)) (d':=.gone) rfl).trans (List.set_set ..)).trans (by rw [← AN u15]; simp only [List.map_set,go_sem,Parcel.ds_eq])) (Z ?_)
    refine AF ?_
    replace h:=AB h; obtain⟨u16,u17,h⟩:=h
    refine AL u17 (Parcel.ds_len _) (Z ?_)
    replace h:=AB h; obtain⟨u18,u19,h⟩:=h
    refine AW (AM u17) (Z ?_)
    refine AT (List.map Parcel.ds u18) (by rw [← AN u19]; simp only [List.map_set,go_sem,Parcel.ds_eq]) (Z ?_)
    replace h:=AB h; obtain⟨u20,u21,h⟩:=h
    refine AL u21 (Parcel.ds_len _) (Z ?_)
    replace h:=AB h; obtain⟨u22,u23,h⟩:=h
    refine AW (AM u21) (Z ?_)
    refine AT (List.map Parcel.ds u22) (by rw [← AN u23]; simp only [List.map_set,go_sem,Parcel.ds_eq]) (Z ?_)
    replace h:=AB h; obtain⟨u24,u25,h⟩:=h
    refine AL u25 (Parcel.ds_len _) (Z ?_)
    replace h:=AB h; obtain⟨u26,u27,h⟩:=h
    refine AW (AM u25) (Z ?_)
    refine AT (List.map Parcel.ds u26) (by rw [← AN u27]; simp only [List.map_set,go_sem,Parcel.ds_eq]) (Z ?_)
    replace h:=AB h; obtain⟨u28,u29,h⟩:=h
    refine AL u29 (Parcel.ds_len _) (Z ?_)
    replace h:=AB h; obtain⟨u30,u31,h⟩:=h
    refine AW (AM u29) (Z ?_)
    refine AT (List.map Parcel.ds u30) (by rw [← AN u31]; simp only [List.map_set,go_sem,Parcel.ds_eq]) (Z ?_)
    replace h:=AB h; obtain⟨u32,u33,h⟩:=h
    refine AL u33 (Parcel.ds_len _) (Z ?_)
    replace h:=AB h; obtain⟨u34,u35,h⟩:=h
    refine AW (AM u33) (Z ?_)
    refine AT (List.map Parcel.ds u34) (by rw [← AN u35]; simp only [List.map_set,go_sem,Parcel.ds_eq]) (Z ?_)
    replace h:=AB h; obtain⟨u36,u37,h⟩:=h
    refine AL u37 (Parcel.ds_len _) (Z ?_)
    replace h:=AB h; obtain⟨u38,u39,h⟩:=h
    refine AW (AM u37) (Z ?_)
    refine AT (List.map Parcel.ds u38) (by rw [← AN u39]; simp only [List.map_set,go_sem,Parcel.ds_eq]) (Z ?_)
    refine AF ?_
    exact lpG (ih0 u38 (IntKind.i64.wrap ((IntKind.i64.wrap ((IntKind.i64.wrap ((IntKind.i64.wrap ((IntKind.i64.wrap ((IntKind.i64.wrap (u12.1 +1))+1))+1))+1))+1))+1)) (IntKind.i64.wrap (y+1)) z1 _ h) [(1,1)] []
   ·refine AF ?_
    cases h
    refine Cc (.done _) [(1,1)] [] ?_
    simp only [go_sem]
theorem N9 (a0 a1) (z1:Option Nat) (r) (h:FR a0 a1=some r):AG Tryz.prog 152 [.own 1,.int .i64 a1] [(1,⟨List.map Parcel.ds a0,z1,0,.no⟩)] [] (.int .i64 r.1) [(1,⟨List.map Parcel.ds r.2,z1,0,.no⟩)] [] :=by
 unfold FR at h
 refine agF Tryz.func152 mixed (h:=Z ?_)
 exact loG (LL fuel a0 a1 0 z1 _ h) [(1,1)] []
theorem Kl (n:Nat):(∀u w y (z1:Option Nat) r,Bd n u w y=some r→E4 Tryz.prog Tryz.f89 [1,0,1,0] (.int .i64 r.1) [(1,⟨List.map (slD Parcel.ds) r.2,z1,0,.no⟩)] [] ⟨[(0,.own 1),(1,.int .i64 w),(5,.int .i64 y)],[(1,some ⟨List.map (slD Parcel.ds) u,z1,0,.no⟩)],[]⟩):=by
 induction n with
 |zero=>exact((fun _ _ _ _ _ h=>by rw [Bd] at h; cases h))
 | succ n ih=>
  have ih0:=ih
  ·intro u w y z1 r h
   rw [Bd] at h
   refine Bo rfl rfl (Z ?_)
   refine AY (Z ?_)
   refine AD h (fun h=>Z ?_) (fun h=>Z ?_)
   ·refine AF ?_
    replace h:=AB h; obtain⟨q,g,h⟩:=h
    refine AL g rfl (Z ?_)
    refine AW (AM g) (Z ?_)
    replace h:=AB h; obtain⟨j,k,h⟩:=h
    replace h:=AB h; obtain⟨b,d,h⟩:=h
    refine caG ⟨[(3000080080,.sub 1 0 [(1,Int.toNat y,0)],none)],[(1,3000080080)],[],[],[],true⟩ (N9 _ _ none _ k) (Z ?_)
    refine AW (Ff (r:=List.map Parcel.ds q) (AM g) rfl (by simp only [go_sem,slD])) (Z ?_)
    refine AT ((List.map (slD Parcel.ds) u).set (Int.toNat y) [.gone]) ((B8 (AM g) (d':=.sl (List.map Parcel.ds q)) (by simp only [go_sem,slD])).trans (by simp only [go_sem,slD])) (Z ?_)
    refine Ad (Et (C4 (AM g)) rfl rfl) (Z ?_)
    refine AT (List.map (slD Parcel.ds) b) (((B8 (C4 (AM g)) (d':=.gone) rfl).trans (List.set_set ..)).trans (by rw [← AN d]; simp only [List.map_set,go_sem,slD])) (Z ?_)
    refine AF ?_
    exact lpG (ih0 b j.1 (IntKind.i64.wrap (y+1)) z1 _ h) [(1,1)] []
   ·refine AF ?_
    cases h
    refine Cc (.done _) [(1,1)] [] ?_
    simp only [go_sem]
theorem IR (a0 a1) (z1:Option Nat) (r) (h:D9 a0 a1=some r):AG Tryz.prog 89 [.own 1,.int .i64 a1] [(1,⟨List.map (slD Parcel.ds) a0,z1,0,.no⟩)] [] (.int .i64 r.1) [(1,⟨List.map (slD Parcel.ds) r.2,z1,0,.no⟩)] [] :=by
 unfold D9 at h
 refine agF Tryz.func89 mixed (h:=Z ?_)
 exact loG (Kl fuel a0 a1 0 z1 _ h) [(1,1)] []
theorem LM (n:Nat):(∀u w y (z1:Option Nat) r,Bz n u w y=some r→E4 Tryz.prog Tryz.f90 [1,0,1,0] (.int .i64 r.1) [(1,⟨List.map (slD AJ) r.2,z1,0,.no⟩)] [] ⟨[(0,.own 1),(1,.int .i64 w),(5,.int .i64 y)],[(1,some ⟨List.map (slD AJ) u,z1,0,.no⟩)],[]⟩):=by
 induction n with
 |zero=>exact((fun _ _ _ _ _ h=>by rw [Bz] at h; cases h))
 | succ n ih=>
  have ih0:=ih
  ·intro u w y z1 r h
   rw [Bz] at h
   refine Bo rfl rfl (Z ?_)
   refine AY (Z ?_)
   refine AD h (fun h=>Z ?_) (fun h=>Z ?_)
   ·refine AF ?_
    replace h:=AB h; obtain⟨q,g,h⟩:=h
    refine AL g rfl (Z ?_)
    refine AW (AM g) (Z ?_)
    replace h:=AB h; obtain⟨j,k,h⟩:=h
    replace h:=AB h; obtain⟨b,d,h⟩:=h
    refine caG ⟨[(3000080080,.sub 1 0 [(1,Int.toNat y,0)],none)],[(1,3000080080)],[],[],[],true⟩ (Cz _ _ none _ k) (Z ?_)
    refine AW (Ff (r:=List.map AJ q) (AM g) rfl (by simp only [go_sem,slD])) (Z ?_)
    refine AT ((List.map (slD AJ) u).set (Int.toNat y) [.gone]) ((B8 (AM g) (d':=.sl (List.map AJ q)) (by simp only [go_sem,slD])).trans (by simp only [go_sem,slD])) (Z ?_)
    refine Ad (Et (C4 (AM g)) rfl rfl) (Z ?_)
    refine AT (List.map (slD AJ) b) (((B8 (C4 (AM g)) (d':=.gone) rfl).trans (List.set_set ..)).trans (by rw [← AN d]; simp only [List.map_set,go_sem,slD])) (Z ?_)
    refine AF ?_
    exact lpG (ih0 b j.1 (IntKind.i64.wrap (y+1)) z1 _ h) [(1,1)] []
   ·refine AF ?_
    cases h
    refine Cc (.done _) [(1,1)] [] ?_
    simp only [go_sem]
theorem I6 (a0 a1) (z1:Option Nat) (r) (h:Eh a0 a1=some r):AG Tryz.prog 90 [.own 1,.int .i64 a1] [(1,⟨List.map (slD AJ) a0,z1,0,.no⟩)] [] (.int .i64 r.1) [(1,⟨List.map (slD AJ) r.2,z1,0,.no⟩)] [] :=by
 unfold Eh at h
 refine agF Tryz.func90 mixed (h:=Z ?_)
 exact loG (LM fuel a0 a1 0 z1 _ h) [(1,1)] []
theorem I7 (a0 a1) (z1:Option Nat) (z2:Option Nat) (z3:Option Nat) (z4:Option Nat) (z5:Option Nat) (r) (h:FS a0 a1=some r):AG Tryz.prog 40 [.agg [.own 1,.int .i64 a0.grid.root.machine,.int .i64 a0.grid.root.kind,.int .i64 a0.grid.root.index,.own 2,.own 3,.own 4,.own 5],.int .i64 a1] [(1,⟨List.map Shard.ds a0.grid.shards,z1,0,.no⟩),(2,⟨List.map (slD Parcel.ds) a0.channels,z2,0,.no⟩),(3,⟨List.map (slD AJ) a0.counts,z3,0,.no⟩),(4,⟨List.map AJ a0.sent,z4,0,.no⟩),(5,⟨List.map AJ a0.got,z5,0,.no⟩)] [] (.int .i64 r.1) [(1,⟨List.map Shard.ds r.2.1,z1,0,.no⟩),(2,⟨List.map (slD Parcel.ds) r.2.2.1,z2,0,.no⟩),(3,⟨List.map (slD AJ) r.2.2.2.1,z3,0,.no⟩),(4,⟨List.map AJ r.2.2.2.2.1,z4,0,.no⟩),(5,⟨List.map AJ r.2.2.2.2.2,z5,0,.no⟩)] [] :=by
 unfold FS at h
 refine agF Tryz.func40 mixed (h:=Z ?_)
 replace h:=AB h; obtain⟨u,w,h⟩:=h
 refine caG ⟨[],[(1,1)],[],[],[],true⟩ (Q1 _ _ z1 _ w) (Z ?_)
 refine AF ?_
 replace h:=AB h; obtain⟨y,q,h⟩:=h
 refine caG ⟨[],[(1,2)],[],[],[],true⟩ (IR _ _ z2 _ q) (Z ?_)
 refine AF ?_
 replace h:=AB h; obtain⟨g,j,h⟩:=h
 refine caG ⟨[],[(1,3)],[],[],[],true⟩ (I6 _ _ z3 _ j) (Z ?_)
 refine AF ?_
 replace h:=AB h; obtain⟨k,b,h⟩:=h
 refine caG ⟨[],[(1,4)],[],[],[],true⟩ (Cz _ _ z4 _ b) (Z ?_)
 refine AF ?_
 replace h:=AB h; obtain⟨d,c,h⟩:=h
 refine caG ⟨[],[(1,5)],[],[],[],true⟩ (Cz _ _ z5 _ c) (Z ?_)
 refine AF ?_
 cases h
 refine Cc (.done _) [(1,1),(2,2),(3,3),(4,4),(5,5)] [] ?_
 simp only [go_sem]
theorem NQ (n:Nat):(∀u w y (z1:Option Nat) r,Cn n u w y=some r→E4 Tryz.prog Tryz.f66 [1,0,1,0] (.int .i64 r.1) [(1,⟨List.map Ac r.2,z1,0,.no⟩)] [] ⟨[(0,.own 1),(1,.int .i64 w),(5,.int .i64 y)],[(1,some ⟨List.map Ac u,z1,0,.no⟩)],[]⟩):=by
 induction n with
 |zero=>exact((fun _ _ _ _ _ h=>by rw [Cn] at h; cases h))
 | succ n ih=>
  have ih0:=ih
  ·intro u w y z1 r h
   rw [Cn] at h
   refine Bo rfl rfl (Z ?_)
   refine AY (Z ?_)
   refine AD h (fun h=>Z ?_) (fun h=>Z ?_)
   ·refine AF ?_
    refine Ad (by decide) (Z ?_)
    replace h:=AB h; obtain⟨q,g,h⟩:=h
    refine AL g rfl (Z ?_)
    replace h:=AB h; obtain⟨j,k,h⟩:=h
    refine AW (AM g) (Z ?_)
    refine AT (List.map Ac j) (by rw [← AN k]; simp only [List.map_set,go_sem,slD]) (Z ?_)
    refine AF ?_
    exact lpG (ih0 j (IntKind.i64.wrap (w+1)) (IntKind.i64.wrap (y+1)) z1 _ h) [(1,1)] []
   ·refine AF ?_
    cases h
    refine Cc (.done _) [(1,1)] [] ?_
    simp only [go_sem]
theorem Km (a0 a1) (z1:Option Nat) (r) (h:Fv a0 a1=some r):AG Tryz.prog 66 [.own 1,.int .i64 a1] [(1,⟨List.map Ac a0,z1,0,.no⟩)] [] (.int .i64 r.1) [(1,⟨List.map Ac r.2,z1,0,.no⟩)] [] :=by
 unfold Fv at h
 refine agF Tryz.func66 mixed (h:=Z ?_)
 exact loG (NQ fuel a0 a1 0 z1 _ h) [(1,1)] []
theorem Q2 (a0 a1) (z1:Option Nat) (z2:Option Nat) (z3:Option Nat) (z4:Option Nat) (z5:Option Nat) (r) (h:JY a0 a1=some r):AG Tryz.prog 87 [.agg [.own 1,.own 2,.own 3,.own 4,.own 5],.int .i64 a1] [(1,⟨List.map Ac a0.taken,z1,0,.no⟩),(2,⟨List.map Shard.ds a0.shards,z2,0,.no⟩),(3,⟨List.map (slD AJ) a0.counts,z3,0,.no⟩),(4,⟨List.map Ac a0.recording,z4,0,.no⟩),(5,⟨List.map (slD Parcel.ds) a0.saved,z5,0,.no⟩)] [] (.int .i64 r.1) [(1,⟨List.map Ac r.2.1,z1,0,.no⟩),(2,⟨List.map Shard.ds r.2.2.1,z2,0,.no⟩),(3,⟨List.map (slD AJ) r.2.2.2.1,z3,0,.no⟩),(4,⟨List.map Ac r.2.2.2.2.1,z4,0,.no⟩),(5,⟨List.map (slD Parcel.ds) r.2.2.2.2.2,z5,0,.no⟩)] [] :=by
 unfold JY at h
 refine agF Tryz.func87 mixed (h:=Z ?_)
 replace h:=AB h; obtain⟨u,w,h⟩:=h
 refine caG ⟨[],[(1,1)],[],[],[],true⟩ (Km _ _ z1 _ w) (Z ?_)
 refine AF ?_
 replace h:=AB h; obtain⟨y,q,h⟩:=h
 refine caG ⟨[],[(1,2)],[],[],[],true⟩ (Ju _ _ z2 _ q) (Z ?_)
 refine AF ?_
 replace h:=AB h; obtain⟨g,j,h⟩:=h
 refine caG ⟨[],[(1,3)],[],[],[],true⟩ (I6 _ _ z3 _ j) (Z ?_)
 refine AF ?_
 replace h:=AB h; obtain⟨k,b,h⟩:=h
 refine caG ⟨[],[(1,4)],[],[],[],true⟩ (Km _ _ z4 _ b) (Z ?_)
 refine AF ?_
 replace h:=AB h; obtain⟨d,c,h⟩:=h
 refine caG ⟨[],[(1,5)],[],[],[],true⟩ (IR _ _ z5 _ c) (Z ?_)
 refine AF ?_
 cases h
 refine Cc (.done _) [(1,1),(2,2),(3,3),(4,4),(5,5)] [] ?_
 simp only [go_sem]
theorem OA (a0 a1) (z1:Option Nat) (z2:Option Nat) (z3:Option Nat) (z4:Option Nat) (z5:Option Nat) (z6:Option Nat) (z7:Option Nat) (z8:Option Nat) (z9:Option Nat) (z10:Option Nat) (r) (h:Ge a0 a1=some r):AG Tryz.prog 39 [.agg [.own 1,.int .i64 a0.cluster.grid.root.machine,.int .i64 a0.cluster.grid.root.kind,.int .i64 a0.cluster.grid.root.index,.own 2,.own 3,.own 4,.own 5,.own 6,.own 7,.own 8,.own 9,.own 10],.int .i64 a1] [(1,⟨List.map Shard.ds a0.cluster.grid.shards,z1,0,.no⟩),(2,⟨List.map (slD Parcel.ds) a0.cluster.channels,z2,0,.no⟩),(3,⟨List.map (slD AJ) a0.cluster.counts,z3,0,.no⟩),(4,⟨List.map AJ a0.cluster.sent,z4,0,.no⟩),(5,⟨List.map AJ a0.cluster.got,z5,0,.no⟩),(6,⟨List.map Ac a0.shot.taken,z6,0,.no⟩),(7,⟨List.map Shard.ds a0.shot.shards,z7,0,.no⟩),(8,⟨List.map (slD AJ) a0.shot.counts,z8,0,.no⟩),(9,⟨List.map Ac a0.shot.recording,z9,0,.no⟩),(10,⟨List.map (slD Parcel.ds) a0.shot.saved,z10,0,.no⟩)] [] (.int .i64 r.1) [(1,⟨List.map Shard.ds r.2.1,z1,0,.no⟩),(2,⟨List.map (slD Parcel.ds) r.2.2.1,z2,0,.no⟩),(3,⟨List.map (slD AJ) r.2.2.2.1,z3,0,.no⟩),(4,⟨List.map AJ r.2.2.2.2.1,z4,0,.no⟩),(5,⟨List.map AJ r.2.2.2.2.2.1,z5,0,.no⟩),(6,⟨List.map Ac r.2.2.2.2.2.2.1,z6,0,.no⟩),(7,⟨List.map Shard.ds r.2.2.2.2.2.2.2.1,z7,0,.no⟩),(8,⟨List.map (slD AJ) r.2.2.2.2.2.2.2.2.1,z8,0,.no⟩),(9,⟨List.map Ac r.2.2.2.2.2.2.2.2.2.1,z9,0,.no⟩),(10,⟨List.map (slD Parcel.ds) r.2.2.2.2.2.2.2.2.2.2,z10,0,.no⟩)] [] :=by
 unfold Ge at h
 refine agF Tryz.func39 mixed (h:=Z ?_)
 replace h:=AB h; obtain⟨u,w,h⟩:=h
 refine caG ⟨[],[(1,1),(2,2),(3,3),(4,4),(5,5)],[],[],[],true⟩ (I7 _ _ z1 z2 z3 z4 z5 _ w) (Z ?_)
 refine AF ?_
 replace h:=AB h; obtain⟨y,q,h⟩:=h
 refine caG ⟨[],[(1,6),(2,7),(3,8),(4,9),(5,10)],[],[],[],true⟩ (Q2 _ _ z6 z7 z8 z9 z10 _ q) (Z ?_)
 refine AF ?_
 cases h
 refine Cc (.done _) [(1,1),(2,2),(3,3),(4,4),(5,5),(6,6),(7,7),(8,8),(9,9),(10,10)] [] ?_
 simp only [go_sem]
theorem Nw (a0 a1) (z1:Option Nat) (z2:Option Nat) (z3:Option Nat) (z4:Option Nat) (z5:Option Nat) (z6:Option Nat) (z7:Option Nat) (z8:Option Nat) (z9:Option Nat) (z10:Option Nat) (z11:Option Nat) (z12:Option Nat) (z13:Option Nat) (z14:Option Nat) (z15:Option Nat) (r) (h:Eg a0 a1=some r):AG Tryz.prog 16 [.agg [.own 1,.int .i64 a0.watched.cluster.grid.root.machine,.int .i64 a0.watched.cluster.grid.root.kind,.int .i64 a0.watched.cluster.grid.root.index,.own 2,.own 3,.own 4,.own 5,.own 6,.own 7,.own 8,.own 9,.own 10,.own 11,.int .i64 a0.good.grid.root.machine,.int .i64 a0.good.grid.root.kind,.int .i64 a0.good.grid.root.index,.own 12,.own 13,.own 14,.own 15,.int .i64 a0.shots,.int .i64 a0.crashes],.int .i64 a1] [(1,⟨List.map Shard.ds a0.watched.cluster.grid.shards,z1,0,.no⟩),(2,⟨List.map (slD Parcel.ds) a0.watched.cluster.channels,z2,0,.no⟩),(3,⟨List.map (slD AJ) a0.watched.cluster.counts,z3,0,.no⟩),(4,⟨List.map AJ a0.watched.cluster.sent,z4,0,.no⟩),(5,⟨List.map AJ a0.watched.cluster.got,z5,0,.no⟩),(6,⟨List.map Ac a0.watched.shot.taken,z6,0,.no⟩),(7,⟨List.map Shard.ds a0.watched.shot.shards,z7,0,.no⟩),(8,⟨List.map (slD AJ) a0.watched.shot.counts,z8,0,.no⟩),(9,⟨List.map Ac a0.watched.shot.recording,z9,0,.no⟩),(10,⟨List.map (slD Parcel.ds) a0.watched.shot.saved,z10,0,.no⟩),(11,⟨List.map Shard.ds a0.good.grid.shards,z11,0,.no⟩),(12,⟨List.map (slD Parcel.ds) a0.good.channels,z12,0,.no⟩),(13,⟨List.map (slD AJ) a0.good.counts,z13,0,.no⟩),(14,⟨List.map AJ a0.good.sent,z14,0,.no⟩),(15,⟨List.map AJ a0.good.got,z15,0,.no⟩)] [] (.int .i64 r.1) [(1,⟨List.map Shard.ds r.2.1,z1,0,.no⟩),(2,⟨List.map (slD Parcel.ds) r.2.2.1,z2,0,.no⟩),(3,⟨List.map (slD AJ) r.2.2.2.1,z3,0,.no⟩),(4,⟨List.map AJ r.2.2.2.2.1,z4,0,.no⟩),(5,⟨List.map AJ r.2.2.2.2.2.1,z5,0,.no⟩),(6,⟨List.map Ac r.2.2.2.2.2.2.1,z6,0,.no⟩),(7,⟨List.map Shard.ds r.2.2.2.2.2.2.2.1,z7,0,.no⟩),(8,⟨List.map (slD AJ) r.2.2.2.2.2.2.2.2.1,z8,0,.no⟩),(9,⟨List.map Ac r.2.2.2.2.2.2.2.2.2.1,z9,0,.no⟩),(10,⟨List.map (slD Parcel.ds) r.2.2.2.2.2.2.2.2.2.2.1,z10,0,.no⟩),(11,⟨List.map Shard.ds r.2.2.2.2.2.2.2.2.2.2.2.1,z11,0,.no⟩),(12,⟨List.map (slD Parcel.ds) r.2.2.2.2.2.2.2.2.2.2.2.2.1,z12,0,.no⟩),(13,⟨List.map (slD AJ) r.2.2.2.2.2.2.2.2.2.2.2.2.2.1,z13,0,.no⟩),(14,⟨List.map AJ r.2.2.2.2.2.2.2.2.2.2.2.2.2.2.1,z14,0,.no⟩),(15,⟨List.map AJ r.2.2.2.2.2.2.2.2.2.2.2.2.2.2.2,z15,0,.no⟩)] [] :=by
 unfold Eg at h
 refine agF Tryz.func16 mixed (h:=Z ?_)
 replace h:=AB h; obtain⟨u,w,h⟩:=h
 refine caG ⟨[],[(1,1),(2,2),(3,3),(4,4),(5,5),(6,6),(7,7),(8,8),(9,9),(10,10)],[],[],[],true⟩ (OA _ _ z1 z2 z3 z4 z5 z6 z7 z8 z9 z10 _ w) (Z ?_)
 refine AF ?_
 replace h:=AB h; obtain⟨y,q,h⟩:=h
 refine caG ⟨[],[(1,11),(2,12),(3,13),(4,14),(5,15)],[],[],[],true⟩ (I7 _ _ z11 z12 z13 z14 z15 _ q) (Z ?_)
 refine AF ?_
 cases h
 refine Cc (.done _) [(1,1),(2,2),(3,3),(4,4),(5,5),(6,6),(7,7),(8,8),(9,9),(10,10),(11,11),(12,12),(13,13),(14,14),(15,15)] [] ?_
 simp only [go_sem]
theorem Kn (n:Nat):(∀a0 u w r,Be n a0 u w=some r→Ax Tryz.prog Tryz.f218 [1,0,1,0] (.int .i64 r) ⟨[(0,.ro (List.map Address.ds a0)),(1,.int .i64 u),(5,.int .i64 w)],[],[]⟩):=by
 induction n with
 |zero=>exact((fun _ _ _ _ h=>by rw [Be] at h; cases h))
 | succ n ih=>
  have ih0:=ih
  ·intro a0 u w r h
   rw [Be] at h
   refine AS rfl rfl (Z ?_)
   refine AY (Z ?_)
   refine AD h (fun h=>Z ?_) (fun h=>Z ?_)
   ·refine AF ?_
    replace h:=AB h; obtain⟨y,q,h⟩:=h
    refine AL q (Address.ds_len _) (Z ?_)
    refine AD h (fun h=>Z ?_) (fun h=>Z ?_)
    ·cases h
     simp only [go_sem]
    ·refine AF ?_
     replace h:=AB h; obtain⟨g,j,h⟩:=h
     refine AL j (Address.ds_len _) (Z ?_)
     refine AD h (fun h=>Z ?_) (fun h=>Z ?_)
     ·cases h
      simp only [go_sem]
     ·refine AF ?_
      replace h:=AB h; obtain⟨k,b,h⟩:=h
      refine AL b (Address.ds_len _) (Z ?_)
      refine AD h (fun h=>Z ?_) (fun h=>Z ?_)
      ·cases h
       simp only [go_sem]
      ·refine AF ?_
       refine AF ?_
       exact lpF (ih0 a0 (IntKind.i64.wrap ((IntKind.i64.wrap ((IntKind.i64.wrap (u+1))+1))+1)) (IntKind.i64.wrap (w+1)) _ h) [] []
   ·refine AF ?_
    cases h
    simp only [go_sem]
theorem IS (a0 a1 r) (h:EA a0 a1=some r):AC Tryz.prog 218 [.ro (List.map Address.ds a0),.int .i64 a1] (.int .i64 r):=by
 unfold EA at h
 refine acF Tryz.func218 mixed (h:=Z ?_)
 exact loF (Kn fuel a0 a1 0 _ h) [] []
theorem Ji (n:Nat):(∀a0 u w r,BI n a0 u w=some r→Ax Tryz.prog Tryz.f215 [1,0,1,0] (.int .i64 r) ⟨[(0,.ro (List.map ShardCell.ds a0)),(1,.int .i64 u),(5,.int .i64 w)],[],[]⟩):=by
 induction n with
 |zero=>exact((fun _ _ _ _ h=>by rw [BI] at h; cases h))
 | succ n ih=>
  have ih0:=ih
  ·intro a0 u w r h
   rw [BI] at h
   refine AS rfl rfl (Z ?_)
   refine AY (Z ?_)
   refine AD h (fun h=>Z ?_) (fun h=>Z ?_)
   ·refine AF ?_
    replace h:=AB h; obtain⟨y,q,h⟩:=h
    refine AL q (ShardCell.ds_len _) (Z ?_)
    refine AD h (fun h=>Z ?_) (fun h=>Z ?_)
    ·cases h
     simp only [go_sem]
    ·refine AF ?_
     replace h:=AB h; obtain⟨g,j,h⟩:=h
     refine AL j (ShardCell.ds_len _) (Z ?_)
     refine AD h (fun h=>Z ?_) (fun h=>Z ?_)
     ·cases h
      simp only [go_sem]
     ·refine AF ?_
      replace h:=AB h; obtain⟨k,b,h⟩:=h
      refine AL b (ShardCell.ds_len _) (Z ?_)
      refine AD h (fun h=>Z ?_) (fun h=>Z ?_)
      ·cases h
       simp only [go_sem]
      ·refine AF ?_
       replace h:=AB h; obtain⟨d,c,h⟩:=h
       refine AL c (ShardCell.ds_len _) (Z ?_)
       replace h:=AB h; obtain⟨e,i,h⟩:=h
       refine AH (Ec _ _ _ i) (Z ?_)
       refine AF ?_
       refine AD h (fun h=>Z ?_) (fun h=>Z ?_)
       ·cases h
        simp only [go_sem]
       ·refine AF ?_
        replace h:=AB h; obtain⟨l,t,h⟩:=h
        refine AL t (ShardCell.ds_len _) (Z ?_)
        replace h:=AB h; obtain⟨s,o,h⟩:=h
        refine AH (IS _ _ _ o) (Z ?_)
        refine AF ?_
        refine AD h (fun h=>Z ?_) (fun h=>Z ?_)
        ·cases h
         simp only [go_sem]
        ·refine AF ?_
         exact lpF (ih0 a0 s (IntKind.i64.wrap (w+1)) _ h) [] []
   ·refine AF ?_
    cases h
    simp only [go_sem]
theorem LN (a0 a1 r) (h:EB a0 a1=some r):AC Tryz.prog 215 [.ro (List.map ShardCell.ds a0),.int .i64 a1] (.int .i64 r):=by
 unfold EB at h
 refine acF Tryz.func215 mixed (h:=Z ?_)
 exact loF (Ji fuel a0 a1 0 _ h) [] []
theorem Jz (n:Nat):(∀a0 u w r,BR n a0 u w=some r→Ax Tryz.prog Tryz.f216 [1,0,1,0] (.int .i64 r) ⟨[(0,.ro (List.map ShardVar.ds a0)),(1,.int .i64 u),(5,.int .i64 w)],[],[]⟩):=by
 induction n with
 |zero=>exact((fun _ _ _ _ h=>by rw [BR] at h; cases h))
 | succ n ih=>
  have ih0:=ih
  ·intro a0 u w r h
   rw [BR] at h
   refine AS rfl rfl (Z ?_)
   refine AY (Z ?_)
   refine AD h (fun h=>Z ?_) (fun h=>Z ?_)
   ·refine AF ?_
    replace h:=AB h; obtain⟨y,q,h⟩:=h
    refine AL q (ShardVar.ds_len _) (Z ?_)
    refine Ad (by decide) (Z ?_)
    refine AD h (fun h=>Z ?_) (fun h=>Z ?_)
    ·cases h
     simp only [go_sem]
    ·refine AF ?_
     replace h:=AB h; obtain⟨g,j,h⟩:=h
     refine AL j (ShardVar.ds_len _) (Z ?_)
     refine Ad (by decide) (Z ?_)
     refine AD h (fun h=>Z ?_) (fun h=>Z ?_)
     ·cases h
      simp only [go_sem]
     ·refine AF ?_
      replace h:=AB h; obtain⟨k,b,h⟩:=h
      refine AL b (ShardVar.ds_len _) (Z ?_)
      refine AD h (fun h=>Z ?_) (fun h=>Z ?_)
      ·cases h
       simp only [go_sem]
      ·refine AF ?_
       replace h:=AB h; obtain⟨d,c,h⟩:=h
       refine AL c (ShardVar.ds_len _) (Z ?_)
       refine AD h (fun h=>Z ?_) (fun h=>Z ?_)
       ·cases h
        simp only [go_sem]
       ·refine AF ?_
        replace h:=AB h; obtain⟨e,i,h⟩:=h
        refine AL i (ShardVar.ds_len _) (Z ?_)
        refine AD h (fun h=>Z ?_) (fun h=>Z ?_)
        ·cases h
         simp only [go_sem]
        ·refine AF ?_
         refine AF ?_
         exact lpF (ih0 a0 (IntKind.i64.wrap ((IntKind.i64.wrap ((IntKind.i64.wrap ((IntKind.i64.wrap ((IntKind.i64.wrap (u+1))+1))+1))+1))+1)) (IntKind.i64.wrap (w+1)) _ h) [] []
   ·refine AF ?_
    cases h
    simp only [go_sem]
theorem MS (a0 a1 r) (h:Eb a0 a1=some r):AC Tryz.prog 216 [.ro (List.map ShardVar.ds a0),.int .i64 a1] (.int .i64 r):=by
 unfold Eb at h
 refine acF Tryz.func216 mixed (h:=Z ?_)
 exact loF (Jz fuel a0 a1 0 _ h) [] []
theorem I8 (n:Nat):(∀a0 u w r,A6 n a0 u w=some r→Ax Tryz.prog Tryz.f217 [1,0,1,0] (.int .i64 r) ⟨[(0,.ro (List.map ShardRedex.ds a0)),(1,.int .i64 u),(5,.int .i64 w)],[],[]⟩):=by
 induction n with
 |zero=>exact((fun _ _ _ _ h=>by rw [A6] at h; cases h))
 | succ n ih=>
  have ih0:=ih
  ·intro a0 u w r h
   rw [A6] at h
   refine AS rfl rfl (Z ?_)
   refine AY (Z ?_)
   refine AD h (fun h=>Z ?_) (fun h=>Z ?_)
   ·refine AF ?_
    replace h:=AB h; obtain⟨y,q,h⟩:=h
    refine AL q (ShardRedex.ds_len _) (Z ?_)
    refine AD h (fun h=>Z ?_) (fun h=>Z ?_)
    ·cases h
     simp only [go_sem]
    ·refine AF ?_
     replace h:=AB h; obtain⟨g,j,h⟩:=h
     refine AL j (ShardRedex.ds_len _) (Z ?_)
     refine AD h (fun h=>Z ?_) (fun h=>Z ?_)
     ·cases h
      simp only [go_sem]
     ·refine AF ?_
      replace h:=AB h; obtain⟨k,b,h⟩:=h
      refine AL b (ShardRedex.ds_len _) (Z ?_)
      refine AD h (fun h=>Z ?_) (fun h=>Z ?_)
      ·cases h
       simp only [go_sem]
      ·refine AF ?_
       replace h:=AB h; obtain⟨d,c,h⟩:=h
       refine AL c (ShardRedex.ds_len _) (Z ?_)
       refine AD h (fun h=>Z ?_) (fun h=>Z ?_)
       ·cases h
        simp only [go_sem]
       ·refine AF ?_
        replace h:=AB h; obtain⟨e,i,h⟩:=h
        refine AL i (ShardRedex.ds_len _) (Z ?_)
        refine AD h (fun h=>Z ?_) (fun h=>Z ?_)
        ·cases h
         simp only [go_sem]
        ·refine AF ?_
         replace h:=AB h; obtain⟨l,t,h⟩:=h
         refine AL t (ShardRedex.ds_len _) (Z ?_)
         refine AD h (fun h=>Z ?_) (fun h=>Z ?_)
         ·cases h
          simp only [go_sem]
         ·refine AF ?_
          refine AF ?_
          exact lpF (ih0 a0 (IntKind.i64.wrap ((IntKind.i64.wrap ((IntKind.i64.wrap ((IntKind.i64.wrap ((IntKind.i64.wrap ((IntKind.i64.wrap (u+1))+1))+1))+1))+1))+1)) (IntKind.i64.wrap (w+1)) _ h) [] []
   ·refine AF ?_
    cases h
    simp only [go_sem]
theorem Ko (a0 a1 r) (h:Di a0 a1=some r):AC Tryz.prog 217 [.ro (List.map ShardRedex.ds a0),.int .i64 a1] (.int .i64 r):=by
 unfold Di at h
 refine acF Tryz.func217 mixed (h:=Z ?_)
 exact loF (I8 fuel a0 a1 0 _ h) [] []
theorem MT (n:Nat):(∀a0 u w r,CR n a0 u w=some r→Ax Tryz.prog Tryz.f153 [1,0,1,0] (.int .i64 r) ⟨[(0,.ro (List.map Shard.ds a0)),(1,.int .i64 u),(5,.int .i64 w)],[],[]⟩):=by
 induction n with
 |zero=>exact((fun _ _ _ _ h=>by rw [CR] at h; cases h))
 | succ n ih=>
  have ih0:=ih
  ·intro a0 u w r h
   rw [CR] at h
   refine AS rfl rfl (Z ?_)
   refine AY (Z ?_)
   refine AD h (fun h=>Z ?_) (fun h=>Z ?_)
   ·refine AF ?_
    replace h:=AB h; obtain⟨y,q,h⟩:=h
    refine AL q (Shard.ds_len _) (Z ?_)
    replace h:=AB h; obtain⟨g,j,h⟩:=h
    refine AH (LN _ _ _ j) (Z ?_)
    refine AF ?_
    refine AD h (fun h=>Z ?_) (fun h=>Z ?_)
    ·cases h
     simp only [go_sem]
    ·refine AF ?_
     replace h:=AB h; obtain⟨k,b,h⟩:=h
     refine AL b (Shard.ds_len _) (Z ?_)
     replace h:=AB h; obtain⟨d,c,h⟩:=h
     refine AH (MS _ _ _ c) (Z ?_)
     refine AF ?_
     refine AD h (fun h=>Z ?_) (fun h=>Z ?_)
     ·cases h
      simp only [go_sem]
     ·refine AF ?_
      replace h:=AB h; obtain⟨e,i,h⟩:=h
      refine AL i (Shard.ds_len _) (Z ?_)
      replace h:=AB h; obtain⟨l,t,h⟩:=h
      refine AH (Ko _ _ _ t) (Z ?_)
      refine AF ?_
      refine AD h (fun h=>Z ?_) (fun h=>Z ?_)
      ·cases h
       simp only [go_sem]
      ·refine AF ?_
       exact lpF (ih0 a0 l (IntKind.i64.wrap (w+1)) _ h) [] []
   ·refine AF ?_
    cases h
    simp only [go_sem]
theorem Jv (a0 a1 r) (h:FF a0 a1=some r):AC Tryz.prog 153 [.ro (List.map Shard.ds a0),.int .i64 a1] (.int .i64 r):=by
 unfold FF at h
 refine acF Tryz.func153 mixed (h:=Z ?_)
 exact loF (MT fuel a0 a1 0 _ h) [] []
theorem Q3 (a0 a1 r) (h:JZ a0 a1=some r):AC Tryz.prog 92 [.agg (Grid.avs a0),.int .i64 a1] (.int .i64 r):=by
 unfold JZ at h
 refine acF Tryz.func92 mixed (h:=Z ?_)
 replace h:=AB h; obtain⟨u,w,h⟩:=h
 refine AH (Jv _ _ _ w) (Z ?_)
 refine AF ?_
 refine AD h (fun h=>Z ?_) (fun h=>Z ?_)
 ·cases h
  simp only [go_sem]
 ·refine AF ?_
  cases h
  simp only [go_sem]
theorem LO (n:Nat):(∀a0 u w r,B0 n a0 u w=some r→Ax Tryz.prog Tryz.f154 [1,0,1,0] (.int .i64 r) ⟨[(0,.ro (List.map Parcel.ds a0)),(1,.int .i64 u),(5,.int .i64 w)],[],[]⟩):=by
 induction n with
 |zero=>exact((fun _ _ _ _ h=>by rw [B0] at h; cases h))
 | succ n ih =>
  have ih0:=ih
  ·intro a0 u w r h
   rw [B0] at h
   refine AS rfl rfl (Z ?_)
   refine AY (Z ?_)
   refine AD h (fun h=>Z ?_) (fun h=>Z ?_)
   ·refine AF ?_
    replace h:=AB h; obtain⟨y,q,h⟩:=h
    refine AL q (Parcel.ds_len _) (Z ?_)
    refine AD h (fun h=>Z ?_) (fun h=>Z ?_)
    ·cases h
     simp only [go_sem]
    ·refine AF ?_
     replace h:=AB h; obtain⟨g,j,h⟩:=h
     refine AL j (Parcel.ds_len _) (Z ?_)
     refine AD h (fun h=>Z ?_) (fun h=>Z ?_)
     ·cases h
      simp only [go_sem]
     ·refine AF ?_
      replace h:=AB h; obtain⟨k,b,h⟩:=h
      refine AL b (Parcel.ds_len _) (Z ?_)
      refine AD h (fun h=>Z ?_) (fun h=>Z ?_)
      ·cases h
       simp only [go_sem]
      ·refine AF ?_
       replace h:=AB h; obtain⟨d,c,h⟩:=h
       refine AL c (Parcel.ds_len _) (Z ?_)
       refine AD h (fun h=>Z ?_) (fun h=>Z ?_)
       ·cases h
        simp only [go_sem]
       ·refine AF ?_
        replace h:=AB h; obtain⟨e,i,h⟩:=h
        refine AL i (Parcel.ds_len _) (Z ?_)
        replace h:=AB h; obtain⟨l,t,h⟩:=h
        refine AH (Ec _ _ _ t) (Z ?_)
        refine AF ?_
        refine AD h (fun h=>Z ?_) (fun h=>Z ?_)
        ·cases h
         simp only [go_sem]
        ·refine AF ?_
         replace h:=AB h; obtain⟨s,o,h⟩:=h
         refine AL o (Parcel.ds_len _) (Z ?_)
         replace h:=AB h; obtain⟨z,u1,h⟩:=h
         refine AH (IS _ _ _ u1) (Z ?_)
         refine AF ?_
         refine AD h (fun h=>Z ?_) (fun h=>Z ?_)
         ·cases h
          simp only [go_sem]
         ·refine AF ?_
          replace h:=AB h; obtain⟨u2,u3,h⟩:=h
          refine AL u3 (Parcel.ds_len _) (Z ?_)
          refine AD h (fun h=>Z ?_) (fun h=>Z ?_)
          ·cases h
           simp only [go_sem]
          ·refine AF ?_
           replace h:=AB h; obtain⟨u4,u5,h⟩:=h
           refine AL u5 (Parcel.ds_len _) (Z ?_)
           refine AD h (fun h=>Z ?_) (fun h=>Z ?_)
           ·cases h
            simp only [go_sem]
           ·refine AF ?_
            replace h:=AB h; obtain⟨u6,u7,h⟩:=h
            refine AL u7 (Parcel.ds_len _) (Z ?_)
            refine AD h (fun h=>Z ?_) (fun h=>Z ?_)
            ·cases h
             simp only [go_sem]
            ·refine AF ?_
             replace h:=AB h; obtain⟨u8,u9,h⟩:=h
             refine AL u9 (Parcel.ds_len _) (Z ?_)
             refine AD h (fun h=>Z ?_) (fun h=>Z ?_)
             ·cases h
              simp only [go_sem]
             ·refine AF ?_
              replace h:=AB h; obtain⟨u10,u11,h⟩:=h
              refine AL u11 (Parcel.ds_len _) (Z ?_)
              refine AD h (fun h=>Z ?_) (fun h=>Z ?_)
              ·cases h
               simp only [go_sem]
              ·refine AF ?_
               replace h:=AB h; obtain⟨u12,u13,h⟩:=h
               refine AL u13 (Parcel.ds_len _) (Z ?_)
               refine AD h (fun h=>Z ?_) (fun h=>Z ?_)
               ·cases h
                simp only [go_sem]
               ·refine AF ?_
                refine AF ?_
                exact lpF (ih0 a0 (IntKind.i64.wrap ((IntKind.i64.wrap ((IntKind.i64.wrap ((IntKind.i64.wrap ((IntKind.i64.wrap ((IntKind.i64.wrap (z+1))+1))+1))+1))+1))+1)) (IntKind.i64.wrap (w+1)) _ h) [] []
   ·refine AF ?_
    cases h
    simp only [go_sem]
theorem OB (a0 a1 r) (h:FT a0 a1=some r):AC Tryz.prog 154 [.ro (List.map Parcel.ds a0),.int .i64 a1] (.int .i64 r):=by
 unfold FT at h
 refine acF Tryz.func154 mixed (h:=Z ?_)
 exact loF (LO fuel a0 a1 0 _ h) [] []
theorem Kp (n:Nat):(∀a0 u w r,Bf n a0 u w=some r→Ax Tryz.prog Tryz.f93 [1,0,1,0] (.int .i64 r) ⟨[(0,.ro (List.map (slD Parcel.ds) a0)),(1,.int .i64 u),(5,.int .i64 w)],[],[]⟩):=by
 induction n with
 |zero=>exact((fun _ _ _ _ h=>by rw [Bf] at h; cases h))
 | succ n ih=>
  have ih0:=ih
  ·intro a0 u w r h
   rw [Bf] at h
   refine AS rfl rfl (Z ?_)
   refine AY (Z ?_)
   refine AD h (fun h=>Z ?_) (fun h=>Z ?_)
   ·refine AF ?_
    replace h:=AB h; obtain⟨y,q,h⟩:=h
    refine AL q rfl (Z ?_)
    replace h:=AB h; obtain⟨g,j,h⟩:=h
    refine AH (OB _ _ _ j) (Z ?_)
    refine AF ?_
    refine AD h (fun h=>Z ?_) (fun h=>Z ?_)
    ·cases h
     simp only [go_sem]
    ·refine AF ?_
     exact lpF (ih0 a0 g (IntKind.i64.wrap (w+1)) _ h) [] []
   ·refine AF ?_
    cases h
    simp only [go_sem]
theorem IT (a0 a1 r) (h:EC a0 a1=some r):AC Tryz.prog 93 [.ro (List.map (slD Parcel.ds) a0),.int .i64 a1] (.int .i64 r):=by
 unfold EC at h
 refine acF Tryz.func93 mixed (h:=Z ?_)
 exact loF (Kp fuel a0 a1 0 _ h) [] []
theorem LP (n:Nat):(∀a0 u w r,B1 n a0 u w=some r→Ax Tryz.prog Tryz.f94 [1,0,1,0] (.int .i64 r) ⟨[(0,.ro (List.map (slD AJ) a0)),(1,.int .i64 u),(5,.int .i64 w)],[],[]⟩):=by
 induction n with
 |zero=>exact((fun _ _ _ _ h=>by rw [B1] at h; cases h))
 | succ n ih=>
  have ih0:=ih
  ·intro a0 u w r h
   rw [B1] at h
   refine AS rfl rfl (Z ?_)
   refine AY (Z ?_)
   refine AD h (fun h=>Z ?_) (fun h=>Z ?_)
   ·refine AF ?_
    replace h:=AB h; obtain⟨y,q,h⟩:=h
    refine AL q rfl (Z ?_)
    replace h:=AB h; obtain⟨g,j,h⟩:=h
    refine AH (Ec _ _ _ j) (Z ?_)
    refine AF ?_
    refine AD h (fun h=>Z ?_) (fun h=>Z ?_)
    ·cases h
     simp only [go_sem]
    ·refine AF ?_
     exact lpF (ih0 a0 g (IntKind.i64.wrap (w+1)) _ h) [] []
   ·refine AF ?_
    cases h
    simp only [go_sem]
theorem I9 (a0 a1 r) (h:Ei a0 a1=some r):AC Tryz.prog 94 [.ro (List.map (slD AJ) a0),.int .i64 a1] (.int .i64 r):=by
 unfold Ei at h
 refine acF Tryz.func94 mixed (h:=Z ?_)
 exact loF (LP fuel a0 a1 0 _ h) [] []
theorem JA (a0 a1 r) (h:FU a0 a1=some r):AC Tryz.prog 42 [.agg (Cluster.avs a0),.int .i64 a1] (.int .i64 r):=by
 unfold FU at h
 refine acF Tryz.func42 mixed (h:=Z ?_)
 replace h:=AB h; obtain⟨u,w,h⟩:=h
 refine AH (Q3 _ _ _ w) (Z ?_)
 refine AF ?_
 refine AD h (fun h=>Z ?_) (fun h=>Z ?_)
 ·cases h
  simp only [go_sem]
 ·refine AF ?_
  replace h:=AB h; obtain⟨y,q,h⟩:=h
  refine AH (IT _ _ _ q) (Z ?_)
  refine AF ?_
  refine AD h (fun h=>Z ?_) (fun h=>Z ?_)
  ·cases h
   simp only [go_sem]
  ·refine AF ?_
   replace h:=AB h; obtain⟨g,j,h⟩:=h
   refine AH (I9 _ _ _ j) (Z ?_)
   refine AF ?_
   refine AD h (fun h=>Z ?_) (fun h=>Z ?_)
   ·cases h
    simp only [go_sem]
   ·refine AF ?_
    replace h:=AB h; obtain⟨k,b,h⟩:=h
    refine AH (Ec _ _ _ b) (Z ?_)
    refine AF ?_
    refine AD h (fun h=>Z ?_) (fun h=>Z ?_)
    ·cases h
     simp only [go_sem]
    ·refine AF ?_
     replace h:=AB h; obtain⟨d,c,h⟩:=h
     refine AH (Ec _ _ _ c) (Z ?_)
     refine AF ?_
     refine AD h (fun h=>Z ?_) (fun h=>Z ?_)
     ·cases h
      simp only [go_sem]
     ·refine AF ?_
      cases h
      simp only [go_sem]
theorem NR (n:Nat):(∀a0 u w r,Co n a0 u w=some r→Ax Tryz.prog Tryz.f67 [1,0,1,0] (.int .i64 r) ⟨[(0,.ro (List.map Ac a0)),(1,.int .i64 u),(5,.int .i64 w)],[],[]⟩):=by
 induction n with
 |zero=>exact((fun _ _ _ _ h=>by rw [Co] at h; cases h))
 | succ n ih=>
  have ih0:=ih
  ·intro a0 u w r h
   rw [Co] at h
   refine AS rfl rfl (Z ?_)
   refine AY (Z ?_)
   refine AD h (fun h=>Z ?_) (fun h=>Z ?_)
   ·refine AF ?_
    replace h:=AB h; obtain⟨y,q,h⟩:=h
    refine AL q rfl (Z ?_)
    refine Ad (by decide) (Z ?_)
    refine AD h (fun h=>Z ?_) (fun h=>Z ?_)
    ·cases h
     simp only [go_sem]
    ·refine AF ?_
     refine AF ?_
     exact lpF (ih0 a0 (IntKind.i64.wrap (u+1)) (IntKind.i64.wrap (w+1)) _ h) [] []
   ·refine AF ?_
    cases h
    simp only [go_sem]
theorem Kq (a0 a1 r) (h:Fw a0 a1=some r):AC Tryz.prog 67 [.ro (List.map Ac a0),.int .i64 a1] (.int .i64 r):=by
 unfold Fw at h
 refine acF Tryz.func67 mixed (h:=Z ?_)
 exact loF (NR fuel a0 a1 0 _ h) [] []
theorem Q4 (a0 a1 r) (h:Ja a0 a1=some r):AC Tryz.prog 91 [.agg (Shot.avs a0),.int .i64 a1] (.int .i64 r):=by
 unfold Ja at h
 refine acF Tryz.func91 mixed (h:=Z ?_)
 replace h:=AB h; obtain⟨u,w,h⟩:=h
 refine AH (Kq _ _ _ w) (Z ?_)
 refine AF ?_
 refine AD h (fun h=>Z ?_) (fun h=>Z ?_)
 ·cases h
  simp only [go_sem]
 ·refine AF ?_
  replace h:=AB h; obtain⟨y,q,h⟩:=h
  refine AH (Jv _ _ _ q) (Z ?_)
  refine AF ?_
  refine AD h (fun h=>Z ?_) (fun h=>Z ?_)
  ·cases h
   simp only [go_sem]
  ·refine AF ?_
   replace h:=AB h; obtain⟨g,j,h⟩:=h
   refine AH (I9 _ _ _ j) (Z ?_)
   refine AF ?_
   refine AD h (fun h=>Z ?_) (fun h=>Z ?_)
   ·cases h
    simp only [go_sem]
   ·refine AF ?_
    replace h:=AB h; obtain⟨k,b,h⟩:=h
    refine AH (Kq _ _ _ b) (Z ?_)
    refine AF ?_
    refine AD h (fun h=>Z ?_) (fun h=>Z ?_)
    ·cases h
     simp only [go_sem]
    ·refine AF ?_
     replace h:=AB h; obtain⟨d,c,h⟩:=h
     refine AH (IT _ _ _ c) (Z ?_)
     refine AF ?_
     refine AD h (fun h=>Z ?_) (fun h=>Z ?_)
     ·cases h
      simp only [go_sem]
     ·refine AF ?_
      cases h
      simp only [go_sem]
theorem OC (a0 a1 r) (h:Gf a0 a1=some r):AC Tryz.prog 41 [.agg (Watched.avs a0),.int .i64 a1] (.int .i64 r):=by
 unfold Gf at h
 refine acF Tryz.func41 mixed (h:=Z ?_)
 replace h:=AB h; obtain⟨u,w,h⟩:=h
 refine AH (JA _ _ _ w) (Z ?_)
 refine AF ?_
 refine AD h (fun h=>Z ?_) (fun h=>Z ?_)
 ·cases h
  simp only [go_sem]
 ·refine AF ?_
  replace h:=AB h; obtain⟨y,q,h⟩:=h
  refine AH (Q4 _ _ _ q) (Z ?_)
  refine AF ?_
  refine AD h (fun h=>Z ?_) (fun h=>Z ?_)
  ·cases h
   simp only [go_sem]
  ·refine AF ?_
   cases h
   simp only [go_sem]
theorem I3 (a0 a1 r) (h:Do a0 a1=some r):AC Tryz.prog 17 [.agg (Service.avs a0),.int .i64 a1] (.int .i64 r):=by
 unfold Do at h
 refine acF Tryz.func17 mixed (h:=Z ?_)
 replace h:=AB h; obtain⟨u,w,h⟩:=h
 refine AH (OC _ _ _ w) (Z ?_)
 refine AF ?_
 refine AD h (fun h=>Z ?_) (fun h=>Z ?_)
 ·cases h
  simp only [go_sem]
 ·refine AF ?_
  replace h:=AB h; obtain⟨y,q,h⟩:=h
  refine AH (JA _ _ _ q) (Z ?_)
  refine AF ?_
  refine AD h (fun h=>Z ?_) (fun h=>Z ?_)
  ·cases h
   simp only [go_sem]
  ·refine AF ?_
   cases h
   simp only [go_sem]
end Go.Proofs.YtclmbjbbojdojaaGreat.Ab
