/-
 The functions do what their models say. Printed by wip/ab/gen.py.
-/
import Derived.Test.YtclmbjbbojdojaaGreatModW
import Derived.Test.YtclmbjbbojdojaaGreatTi2
import Derived.Test.YtclmbjbbojdojaaGreatWlk
namespace Go.Proofs.YtclmbjbbojdojaaGreat.Ab
set_option linter.unusedVariables false
set_option linter.unusedSimpArgs false
set_option maxRecDepth 20000
set_option maxHeartbeats 4000000
open Go.RowKit
theorem F1 (a0 a1 r) (h:Ci a0 a1=some r):AC Tryz.prog 148 [.agg (Address.avs a0),.agg (Address.avs a1)] (.bool r):=by
 unfold Ci at h
 refine acF Tryz.func148 mixed (h:=Z ?_)
 exact AJ trivial h
theorem OC (n:Nat):(∀a0 a1 u r,DQ n a0 a1 u=some r→Ac Tryz.prog Tryz.f281 [1,1,0,1,0] (.bool r) ⟨[(0,.ro (a0.map Address.ds)),(1,.ro (a1.map Address.ds)),(5,.int .i64 u)],[],[]⟩):=by
 induction n with
 |zero=>exact((fun _ _ _ _ h=>by rw [DQ] at h; cases h))
 | succ n ih=>
  have ih0:=ih
  ·intro a0 a1 u r h
   rw [DQ] at h
   refine AR rfl rfl (Z ?_)
   refine AY (Z ?_)
   refine AH h (fun h=>Z ?_) (fun h=>Z ?_)
   ·refine AL ?_
    refine Ah [] .fin (by kernel_rfl) (Z ?_)
    exact AJ (k2 F1 ih0) h
   ·exact AJ trivial h
theorem RN (a0 a1 r) (h:HK a0 a1=some r):AC Tryz.prog 281 [.ro (a0.map Address.ds),.ro (a1.map Address.ds)] (.bool r):=by
 unfold HK at h
 refine acF Tryz.func281 mixed (h:=Z ?_)
 exact AJ (k1 OC) h
theorem Kb (a0 a1 r) (h:Eb a0 a1=some r):AC Tryz.prog 251 [.agg (ShardCell.avs a0),.agg (ShardCell.avs a1)] (.bool r):=by
 unfold Eb at h
 refine acF Tryz.func251 mixed (h:=Z ?_)
 exact AJ (k2 J7 RN) h
theorem MI (n:Nat):(∀a0 a1 u r,CZ n a0 a1 u=some r→Ac Tryz.prog Tryz.f248 [1,1,0,1,0] (.bool r) ⟨[(0,.ro (a0.map ShardCell.ds)),(1,.ro (a1.map ShardCell.ds)),(5,.int .i64 u)],[],[]⟩):=by
 induction n with
 |zero=>exact((fun _ _ _ _ h=>by rw [CZ] at h; cases h))
 | succ n ih=>
  have ih0:=ih
  ·intro a0 a1 u r h
   rw [CZ] at h
   refine AR rfl rfl (Z ?_)
   refine AY (Z ?_)
   refine AH h (fun h=>Z ?_) (fun h=>Z ?_)
   ·refine AL ?_
    refine Ah [] .fin (by kernel_rfl) (Z ?_)
    exact AJ (k2 Kb ih0) h
   ·exact AJ trivial h
theorem PY (a0 a1 r) (h:Fv a0 a1=some r):AC Tryz.prog 248 [.ro (a0.map ShardCell.ds),.ro (a1.map ShardCell.ds)] (.bool r):=by
 unfold Fv at h
 refine acF Tryz.func248 mixed (h:=Z ?_)
 exact AJ (k1 MI) h
theorem RO (a0 a1 r) (h:GH a0 a1=some r):AC Tryz.prog 279 [.agg (ShardVar.avs a0),.agg (ShardVar.avs a1)] (.bool r):=by
 unfold GH at h
 refine acF Tryz.func279 mixed (h:=Z ?_)
 exact AJ (k1 F1) h
theorem Ms (n:Nat):(∀a0 a1 u r,Cr n a0 a1 u=some r→Ac Tryz.prog Tryz.f249 [1,1,0,1,0] (.bool r) ⟨[(0,.ro (a0.map ShardVar.ds)),(1,.ro (a1.map ShardVar.ds)),(5,.int .i64 u)],[],[]⟩):=by
 induction n with
 |zero=>exact((fun _ _ _ _ h=>by rw [Cr] at h; cases h))
 | succ n ih=>
  have ih0:=ih
  ·intro a0 a1 u r h
   rw [Cr] at h
   refine AR rfl rfl (Z ?_)
   refine AY (Z ?_)
   refine AH h (fun h=>Z ?_) (fun h=>Z ?_)
   ·refine AL ?_
    refine Ah [] .fin (by kernel_rfl) (Z ?_)
    exact AJ (k2 RO ih0) h
   ·exact AJ trivial h
theorem QQ (a0 a1 r) (h:GU a0 a1=some r):AC Tryz.prog 249 [.ro (a0.map ShardVar.ds),.ro (a1.map ShardVar.ds)] (.bool r):=by
 unfold GU at h
 refine acF Tryz.func249 mixed (h:=Z ?_)
 exact AJ (k1 Ms) h
theorem PZ (a0 a1 r) (h:Eu a0 a1=some r):AC Tryz.prog 280 [.agg (ShardRedex.avs a0),.agg (ShardRedex.avs a1)] (.bool r):=by
 unfold Eu at h
 refine acF Tryz.func280 mixed (h:=Z ?_)
 exact AJ (k1 F1) h
theorem LM (n:Nat):(∀a0 a1 u r,CJ n a0 a1 u=some r→Ac Tryz.prog Tryz.f250 [1,1,0,1,0] (.bool r) ⟨[(0,.ro (a0.map ShardRedex.ds)),(1,.ro (a1.map ShardRedex.ds)),(5,.int .i64 u)],[],[]⟩):=by
 induction n with
 |zero=>exact((fun _ _ _ _ h=>by rw [CJ] at h; cases h))
 | succ n ih=>
  have ih0:=ih
  ·intro a0 a1 u r h
   rw [CJ] at h
   refine AR rfl rfl (Z ?_)
   refine AY (Z ?_)
   refine AH h (fun h=>Z ?_) (fun h=>Z ?_)
   ·refine AL ?_
    refine Ah [] .fin (by kernel_rfl) (Z ?_)
    exact AJ (k2 PZ ih0) h
   ·exact AJ trivial h
theorem OD (a0 a1 r) (h:FU a0 a1=some r):AC Tryz.prog 250 [.ro (a0.map ShardRedex.ds),.ro (a1.map ShardRedex.ds)] (.bool r):=by
 unfold FU at h
 refine acF Tryz.func250 mixed (h:=Z ?_)
 exact AJ (k1 LM) h
theorem Ve (a0 a1 r) (h:I4 a0 a1=some r):AC Tryz.prog 208 [.agg (Shard.avs a0),.agg (Shard.avs a1)] (.bool r):=by
 unfold I4 at h
 refine acF Tryz.func208 mixed (h:=Z ?_)
 exact AJ (k3 PY QQ OD) h
theorem QR (n:Nat):(∀a0 a1 u r,Ec n a0 a1 u=some r→Ac Tryz.prog Tryz.f147 [1,1,0,1,0] (.bool r) ⟨[(0,.ro (a0.map Shard.ds)),(1,.ro (a1.map Shard.ds)),(5,.int .i64 u)],[],[]⟩):=by
 induction n with
 |zero=>exact((fun _ _ _ _ h=>by rw [Ec] at h; cases h))
 | succ n ih=>
  have ih0:=ih
  ·intro a0 a1 u r h
   rw [Ec] at h
   refine AR rfl rfl (Z ?_)
   refine AY (Z ?_)
   refine AH h (fun h=>Z ?_) (fun h=>Z ?_)
   ·refine AL ?_
    refine Ah [] .fin (by kernel_rfl) (Z ?_)
    exact AJ (k2 Ve ih0) h
   ·exact AJ trivial h
theorem NF (a0 a1 r) (h:Ht a0 a1=some r):AC Tryz.prog 147 [.ro (a0.map Shard.ds),.ro (a1.map Shard.ds)] (.bool r):=by
 unfold Ht at h
 refine acF Tryz.func147 mixed (h:=Z ?_)
 exact AJ (k1 QR) h
theorem XL (a0 a1 r) (h:Lt a0 a1=some r):AC Tryz.prog 82 [.agg (Grid.avs a0),.agg (Grid.avs a1)] (.bool r):=by
 unfold Lt at h
 refine acF Tryz.func82 mixed (h:=Z ?_)
 exact AJ (k2 NF F1) h
theorem Tk (a0 a1 r) (h:Hu a0 a1=some r):AC Tryz.prog 209 [.agg (Parcel.avs a0),.agg (Parcel.avs a1)] (.bool r):=by
 unfold Hu at h
 refine acF Tryz.func209 mixed (h:=Z ?_)
 exact AJ (k2 Kb F1) h
theorem Pa (n:Nat):(∀a0 a1 u r,Dw n a0 a1 u=some r→Ac Tryz.prog Tryz.f149 [1,1,0,1,0] (.bool r) ⟨[(0,.ro (a0.map Parcel.ds)),(1,.ro (a1.map Parcel.ds)),(5,.int .i64 u)],[],[]⟩):=by
 induction n with
 |zero=>exact((fun _ _ _ _ h=>by rw [Dw] at h; cases h))
 | succ n ih=>
  have ih0:=ih
  ·intro a0 a1 u r h
   rw [Dw] at h
   refine AR rfl rfl (Z ?_)
   refine AY (Z ?_)
   refine AH h (fun h=>Z ?_) (fun h=>Z ?_)
   ·refine AL ?_
    refine Ah [] .fin (by kernel_rfl) (Z ?_)
    exact AJ (k2 Tk ih0) h
   ·exact AJ trivial h
theorem TA (a0 a1 r) (h:G3 a0 a1=some r):AC Tryz.prog 149 [.ro (a0.map Parcel.ds),.ro (a1.map Parcel.ds)] (.bool r):=by
 unfold G3 at h
 refine acF Tryz.func149 mixed (h:=Z ?_)
 exact AJ (k1 Pa) h
theorem OE (n:Nat):(∀a0 a1 u r,DR n a0 a1 u=some r→Ac Tryz.prog Tryz.f83 [1,1,0,1,0] (.bool r) ⟨[(0,.ro (List.map (slD Parcel.ds) a0)),(1,.ro (List.map (slD Parcel.ds) a1)),(5,.int .i64 u)],[],[]⟩):=by
 induction n with
 |zero=>exact((fun _ _ _ _ h=>by rw [DR] at h; cases h))
 | succ n ih=>
  have ih0:=ih
  ·intro a0 a1 u r h
   rw [DR] at h
   refine AR rfl rfl (Z ?_)
   refine AY (Z ?_)
   refine AH h (fun h=>Z ?_) (fun h=>Z ?_)
   ·refine AL ?_
    refine Ah [] .fin (by kernel_rfl) (Z ?_)
    exact AJ (k2 TA ih0) h
   ·exact AJ trivial h
theorem LD (a0 a1 r) (h:GI a0 a1=some r):AC Tryz.prog 83 [.ro (List.map (slD Parcel.ds) a0),.ro (List.map (slD Parcel.ds) a1)] (.bool r):=by
 unfold GI at h
 refine acF Tryz.func83 mixed (h:=Z ?_)
 exact AJ (k1 OE) h
theorem Pb (n:Nat):(∀a0 a1 u r,Dx n a0 a1 u=some r→Ac Tryz.prog Tryz.f84 [1,1,0,1,0] (.bool r) ⟨[(0,.ro (List.map (slD AB) a0)),(1,.ro (List.map (slD AB) a1)),(5,.int .i64 u)],[],[]⟩):=by
 induction n with
 |zero=>exact((fun _ _ _ _ h=>by rw [Dx] at h; cases h))
 | succ n ih=>
  have ih0:=ih
  ·intro a0 a1 u r h
   rw [Dx] at h
   refine AR rfl rfl (Z ?_)
   refine AY (Z ?_)
   refine AH h (fun h=>Z ?_) (fun h=>Z ?_)
   ·refine AL ?_
    refine Ah [] .fin (by kernel_rfl) (Z ?_)
    exact AJ (k2 J7 ih0) h
   ·exact AJ trivial h
theorem MJ (a0 a1 r) (h:G4 a0 a1=some r):AC Tryz.prog 84 [.ro (List.map (slD AB) a0),.ro (List.map (slD AB) a1)] (.bool r):=by
 unfold G4 at h
 refine acF Tryz.func84 mixed (h:=Z ?_)
 exact AJ (k1 Pb) h
theorem MK (a0 a1 r) (h:G5 a0 a1=some r):AC Tryz.prog 36 [.agg (Cluster.avs a0),.agg (Cluster.avs a1)] (.bool r):=by
 unfold G5 at h
 refine acF Tryz.func36 mixed (h:=Z ?_)
 exact AJ (k4 XL LD MJ J7) h
theorem RP (n:Nat):(∀a0 a1 u r,FH n a0 a1 u=some r→Ac Tryz.prog Tryz.f65 [1,1,0,1,0] (.bool r) ⟨[(0,.ro (a0.map AN)),(1,.ro (a1.map AN)),(5,.int .i64 u)],[],[]⟩):=by
 induction n with
 |zero=>exact((fun _ _ _ _ h=>by rw [FH] at h; cases h))
 | succ n ih=>
  have ih0:=ih
  ·intro a0 a1 u r h
   rw [FH] at h
   refine AR rfl rfl (Z ?_)
   refine AY (Z ?_)
   refine AH h (fun h=>Z ?_) (fun h=>Z ?_)
   ·refine AL ?_
    refine Ah [] .fin (by kernel_rfl) (Z ?_)
    exact AJ (k1 ih0) h
   ·exact AJ trivial h
theorem Vf (a0 a1 r) (h:I5 a0 a1=some r):AC Tryz.prog 65 [.ro (a0.map AN),.ro (a1.map AN)] (.bool r):=by
 unfold I5 at h
 refine acF Tryz.func65 mixed (h:=Z ?_)
 exact AJ (k1 RP) h
theorem XM (a0 a1 r) (h:Lu a0 a1=some r):AC Tryz.prog 81 [.agg (Shot.avs a0),.agg (Shot.avs a1)] (.bool r):=by
 unfold Lu at h
 refine acF Tryz.func81 mixed (h:=Z ?_)
 exact AJ (k4 Vf NF MJ LD) h
theorem TB (a0 a1 r) (h:II a0 a1=some r):AC Tryz.prog 35 [.agg (Watched.avs a0),.agg (Watched.avs a1)] (.bool r):=by
 unfold II at h
 refine acF Tryz.func35 mixed (h:=Z ?_)
 exact AJ (k2 MK XM) h
theorem S9 (a0 a1 r) (h:G2 a0 a1=some r):AC Tryz.prog 11 [.agg (Service.avs a0),.agg (Service.avs a1)] (.bool r):=by
 unfold G2 at h
 refine acF Tryz.func11 mixed (h:=Z ?_)
 exact AJ (k2 TB MK) h
end Go.Proofs.YtclmbjbbojdojaaGreat.Ab
