/-
 The functions do what their models say. Printed by wip/ab/gen.py.
-/
import Derived.Test.YtclmbjbbojdojaaGreatModP
import Derived.Test.YtclmbjbbojdojaaGreatTi2
import Derived.Test.YtclmbjbbojdojaaGreatWlkG
namespace Go.Proofs.YtclmbjbbojdojaaGreat.Ab
set_option linter.defProp false
set_option linter.unusedVariables false
set_option linter.unusedSimpArgs false
set_option maxRecDepth 20000
set_option maxHeartbeats 4000000
open Go.RowKit
theorem VU (a0 r) (h:Hm a0=some r):AC Tryz.prog 101 [.rop (Service.avs a0) 0] (.bool r):=by
 unfold Hm at h
 refine acF Tryz.func101 mixed (h:=Z ?_)
 exact AJ trivial h
theorem PH (a0 r) (h:EC a0=some r):AC Tryz.prog 221 [.bool a0] (.int .i64 r):=by
 unfold EC at h
 refine acF Tryz.func221 mixed (h:=Z ?_)
 exact AJ trivial h
theorem Nx (n:Nat):(∀a0 u w r,Cf n a0 u w=some r→Ac Tryz.prog Tryz.f157 [1,1,0,1,0] (.int .i64 r) ⟨[(0,.ro (a0.map Parcel.ds)),(3,.int .i64 u),(4,.int .i64 w)],[],[]⟩):=by
 induction n with
 |zero=>exact((fun _ _ _ _ h=>by rw [Cf] at h; cases h))
 | succ n ih=>
  have ih0:=ih
  ·intro a0 u w r h
   rw [Cf] at h
   exact AJ (k2 PH ih0) h
theorem IZ (a0 r) (h:E8 a0=some r):AC Tryz.prog 157 [.ro (a0.map Parcel.ds)] (.int .i64 r):=by
 unfold E8 at h
 refine acF Tryz.func157 mixed (h:=Z ?_)
 exact AJ (k1 Nx) h
theorem Q5 (n:Nat):(∀a0 u r,EK n a0 u=some r→Ac Tryz.prog Tryz.f102 [1,1,0,1,0] (.bool r) ⟨[(0,.rop (Cluster.avs a0) 0),(3,.int .i64 u)],[],[]⟩):=by
 induction n with
 |zero=>exact((fun _ _ _ h=>by rw [EK] at h; cases h))
 | succ n ih=>
  have ih0:=ih
  ·intro a0 u r h
   rw [EK] at h
   exact AJ (k2 IZ ih0) h
theorem PI (a0 r) (h:Iw a0=some r):AC Tryz.prog 102 [.rop (Cluster.avs a0) 0] (.bool r):=by
 unfold Iw at h
 refine acF Tryz.func102 mixed (h:=Z ?_)
 exact AJ (k2 Sv Q5) h
theorem PJ (n:Nat):(∀a0 a1 u r,Eo n a0 a1 u=some r→Ac Tryz.prog Tryz.f224 [1,1,1,1,0,1,0] (.bool r) ⟨[(2,.box 1000006500 0),(3,.box 1000006501 0),(7,.int .i64 u)],[],[(1000006500,some (Shard.avs a0)),(1000006501,some (Shard.avs a1))]⟩):=by
 induction n with
 |zero=>exact((fun _ _ _ _ h=>by rw [Eo] at h; cases h))
 | succ n ih=>
  have ih0:=ih
  ·intro a0 a1 u r h
   rw [Eo] at h
   refine AR rfl rfl (Z ?_)
   refine AY (Z ?_)
   refine AH h (fun h=>Z ?_) (fun h=>Z ?_)
   ·refine AL ?_
    refine Ah [] .fin (by kernel_rfl) (Z ?_)
    replace h:=AD h; obtain⟨w,y,h⟩:=h
    refine Ad y (ShardRedex.ds_len _) (Z ?_)
    replace h:=AD h; obtain⟨q,g,h⟩:=h
    refine Ad g (ShardRedex.ds_len _) (Z ?_)
    refine AL ?_
    refine AH h (fun h=>Z ?_) (fun h=>Z ?_)
    ·exact AJ trivial h
    ·refine AL ?_
     exact lpF (ih0 a0 a1 (IntKind.i64.wrap (u+1)) _ h) [] [(1000006500,1000006500),(1000006501,1000006501)]
   ·exact AJ trivial h
theorem PK (n:Nat):(∀a0 a1 u r,Ep n a0 a1 u=some r→Ac Tryz.prog Tryz.f224 [1,1,1,0,1,0] (.bool r) ⟨[(2,.box 1000004500 0),(3,.box 1000004501 0),(6,.int .i64 u)],[],[(1000004500,some (Shard.avs a0)),(1000004501,some (Shard.avs a1))]⟩):=by
 induction n with
 |zero=>exact((fun _ _ _ _ h=>by rw [Ep] at h; cases h))
 | succ n ih=>
  have ih0:=ih
  ·intro a0 a1 u r h
   rw [Ep] at h
   refine AR rfl rfl (Z ?_)
   refine AY (Z ?_)
   refine AH h (fun h=>Z ?_) (fun h=>Z ?_)
   ·refine AL ?_
    refine Ah [] .fin (by kernel_rfl) (Z ?_)
    replace h:=AD h; obtain⟨w,y,h⟩:=h
    refine Ad y (ShardVar.ds_len _) (Z ?_)
    replace h:=AD h; obtain⟨q,g,h⟩:=h
    refine Ad g (ShardVar.ds_len _) (Z ?_)
    refine AL ?_
    refine AH h (fun h=>Z ?_) (fun h=>Z ?_)
    ·exact AJ trivial h
    ·refine AL ?_
     exact lpF (ih0 a0 a1 (IntKind.i64.wrap (u+1)) _ h) [] [(1000004500,1000004500),(1000004501,1000004501)]
   ·refine AL ?_
    exact loF (PJ fuel a0 a1 0 _ h) [] [(1000006500,1000004500),(1000006501,1000004501)]
theorem PL (n:Nat):(∀a0 a1 u r,Er n a0 a1 u=some r→Ac Tryz.prog Tryz.f224 [1,1,0,1,0] (.bool r) ⟨[(2,.box 1000002500 0),(3,.box 1000002501 0),(5,.int .i64 u)],[],[(1000002500,some (Shard.avs a0)),(1000002501,some (Shard.avs a1))]⟩):=by
 induction n with
 |zero=>exact((fun _ _ _ _ h=>by rw [Er] at h; cases h))
 | succ n ih=>
  have ih0:=ih
  ·intro a0 a1 u r h
   rw [Er] at h
   refine AR rfl rfl (Z ?_)
   refine AY (Z ?_)
   refine AH h (fun h=>Z ?_) (fun h=>Z ?_)
   ·refine AL ?_
    refine Ah [] .fin (by kernel_rfl) (Z ?_)
    replace h:=AD h; obtain⟨w,y,h⟩:=h
    refine Ad y (ShardCell.ds_len _) (Z ?_)
    replace h:=AD h; obtain⟨q,g,h⟩:=h
    refine Ad g (ShardCell.ds_len _) (Z ?_)
    replace h:=AD h; obtain⟨j,k,h⟩:=h
    refine AK (KW _ _ _ k) (Z ?_)
    refine AL ?_
    refine AH h (fun h=>Z ?_) (fun h=>Z ?_)
    ·exact AJ trivial h
    ·refine AL ?_
     exact lpF (ih0 a0 a1 (IntKind.i64.wrap (u+1)) _ h) [] [(1000002500,1000002500),(1000002501,1000002501)]
   ·refine AL ?_
    exact loF (PK fuel a0 a1 0 _ h) [] [(1000004500,1000002500),(1000004501,1000002501)]
theorem HU (a0:Shard) (a1:Shard) (u:Bool) (r:Bool) (h:Es a0 a1 u=some r):Ac Tryz.prog Tryz.f224 [1,0,1] (.bool r) ⟨[(2,.box 1000000500 0),(3,.box 1000000501 0),(32,.bool u)],[],[(1000000500,some (Shard.avs a0)),(1000000501,some (Shard.avs a1))]⟩:=by
 unfold Es at h
 refine AR rfl rfl (Z ?_)
 refine AH h (fun h=>Z ?_) (fun h=>Z ?_)
 ·exact AJ trivial h
 ·refine AL ?_
  exact loF (PL fuel a0 a1 0 _ h) [] [(1000002500,1000000500),(1000002501,1000000501)]
theorem Sx (a0 a1 r) (h:IB a0 a1=some r):AC Tryz.prog 224 [.agg (Shard.avs a0),.agg (Shard.avs a1)] (.bool r):=by
 unfold IB at h
 refine acF Tryz.func224 mixed (h:=Z ?_)
 refine AH h (fun h=>Z ?_) (fun h=>Z ?_)
 ·exact ES (HU a0 a1 true _ h) [] [(1000000500,1000),(1000000501,1001)]
 ·refine AH h (fun h=>Z ?_) (fun h=>Z ?_)
  ·exact ES (HU a0 a1 true _ h) [] [(1000000500,1000),(1000000501,1001)]
  ·exact ES (HU a0 a1 (!decide ((a0.redexes.length:Int)=(a1.redexes.length:Int))) _ h) [] [(1000000500,1000),(1000000501,1001)]
theorem Q6 (a0 a1 r) (h:GA a0 a1=some r):AC Tryz.prog 158 [.rop (Shot.avs a0) 0,.int .i64 a1] (.bool r):=by
 unfold GA at h
 refine acF Tryz.func158 mixed (h:=Z ?_)
 replace h:=AD h; obtain⟨u,w,h⟩:=h
 refine Ad w rfl (Z ?_)
 refine AH h (fun h=>Z ?_) (fun h=>Z ?_)
 ·exact AJ (k2 L4 IY) h
 ·refine AL ?_
  refine AL ?_
  refine Ah [] .fin (by kernel_rfl) (Z ?_)
  exact AJ (k1 Sx) h
theorem Ny (n:Nat):(∀a0 a1 a2 a3 u r,Bd n a0 a1 a2 a3 u=some r→Ac Tryz.prog Tryz.f159 [1,1,1,1,1,0,1,0] (.bool r) ⟨[(0,.rop (Watched.avs a0) 0),(1,.int .i64 a1),(2,.int .i64 a2),(9,.rop (Watched.avs a0) 8),(10,.int .i64 (IntKind.i64.wrap ((IntKind.i64.wrap (a1*a3))+a2))),(11,.int .i64 u)],[],[]⟩):=by
 induction n with
 |zero=>exact((fun _ _ _ _ _ _ h=>by rw [Bd] at h; cases h))
 | succ n ih=>
  have ih0:=ih
  ·intro a0 a1 a2 a3 u r h
   rw [Bd] at h
   refine AR rfl rfl (Z ?_)
   refine AY (Z ?_)
   replace h:=AD h; obtain⟨w,y,h⟩:=h
   refine Ad y rfl (Z ?_)
   refine AH h (fun h=>Z ?_) (fun h=>Z ?_)
   ·exact AJ (k2 L5 ih0) h
   ·refine AL ?_
    refine Ah [] .fin (by kernel_rfl) (Z ?_)
    exact AJ (k2 IZ PH) h
theorem Nz (a0:Watched) (a1:Int) (a2:Int) (a3:Int) (u:Bool) (r:Bool) (h:FM a0 a1 a2 a3 u=some r):Ac Tryz.prog Tryz.f159 [1,1,1,1,0,1] (.bool r) ⟨[(0,.rop (Watched.avs a0) 0),(1,.int .i64 a1),(2,.int .i64 a2),(9,.rop (Watched.avs a0) 8),(10,.int .i64 (IntKind.i64.wrap ((IntKind.i64.wrap (a1*a3))+a2))),(88,.bool u)],[],[]⟩:=by
 unfold FM at h
 exact AJ (k1 Ny) h
theorem JZ (a0 a1 a2 a3 r) (h:FN a0 a1 a2 a3=some r):Ac Tryz.prog Tryz.f159 [1,1,1,1] (.bool r) ⟨[(0,.rop (Watched.avs a0) 0),(1,.int .i64 a1),(2,.int .i64 a2),(9,.rop (Watched.avs a0) 8),(10,.int .i64 (IntKind.i64.wrap ((IntKind.i64.wrap (a1*a3))+a2)))],[],[]⟩:=by
 unfold FN at h
 exact AJ (k2 Nz IZ) h
theorem N0 (a0:Watched) (a1:Int) (a2:Int) (a3:Int) (u:Bool) (r:Bool) (h:FO a0 a1 a2 a3 u=some r):Ac Tryz.prog Tryz.f159 [1,1,1,0,1,0,1] (.bool r) ⟨[(0,.rop (Watched.avs a0) 0),(1,.int .i64 a1),(2,.int .i64 a2),(9,.rop (Watched.avs a0) 8),(10,.int .i64 (IntKind.i64.wrap ((IntKind.i64.wrap (a1*a3))+a2))),(50,.bool u)],[],[]⟩:=by
 unfold FO at h
 exact AJ (k1 JZ) h
theorem N1 (a0:Watched) (a1:Int) (a2:Int) (a3:Int) (u:Bool) (r:Bool) (h:FP a0 a1 a2 a3 u=some r):Ac Tryz.prog Tryz.f159 [1,1,1,0,1,1,1] (.bool r) ⟨[(0,.rop (Watched.avs a0) 0),(1,.int .i64 a1),(2,.int .i64 a2),(9,.rop (Watched.avs a0) 8),(10,.int .i64 (IntKind.i64.wrap ((IntKind.i64.wrap (a1*a3))+a2))),(68,.bool u)],[],[]⟩:=by
 unfold FP at h
 exact AJ (k1 JZ) h
theorem N2 (a0:Watched) (a1:Int) (a2:Int) (a3:Int) (u:Bool) (r:Bool) (h:FQ a0 a1 a2 a3 u=some r):Ac Tryz.prog Tryz.f159 [1,1,1,0,1] (.bool r) ⟨[(0,.rop (Watched.avs a0) 0),(1,.int .i64 a1),(2,.int .i64 a2),(9,.rop (Watched.avs a0) 8),(10,.int .i64 (IntKind.i64.wrap ((IntKind.i64.wrap (a1*a3))+a2))),(32,.bool u)],[],[]⟩:=by
 unfold FQ at h
 exact AJ (k2 N0 N1) h
theorem Q7 (a0 a1 a2 a3 r) (h:GB a0 a1 a2 a3=some r):AC Tryz.prog 159 [.rop (Watched.avs a0) 0,.int .i64 a1,.int .i64 a2,.int .i64 a3] (.bool r):=by
 unfold GB at h
 refine acF Tryz.func159 mixed (h:=Z ?_)
 exact AJ (k1 N2) h
theorem Sy (n:Nat):(∀a0 u w r,CU n a0 u w=some r→Ac Tryz.prog Tryz.f103 [1,1,1,1,1,1,1,0,1,0] (.bool r) ⟨[(0,.rop (Watched.avs a0) 0),(3,.int .i64 (a0.cluster.grid.shards.length:Int)),(5,.bool u),(7,.int .i64 w)],[],[]⟩)∧
    (∀a0 u w y r,EW n a0 u w y=some r→Ac Tryz.prog Tryz.f103 [1,1,1,1,1,1,1,0,1,0,0,1,0,0,1,0] (.bool r) ⟨[(0,.rop (Watched.avs a0) 0),(3,.int .i64 (a0.cluster.grid.shards.length:Int)),(5,.bool u),(7,.int .i64 w),(8,.int .i64 y)],[],[]⟩):=by
 induction n with
 |zero=>exact⟨(fun _ _ _ _ h=>by rw [CU] at h; cases h),(fun _ _ _ _ _ h=>by rw [EW] at h; cases h)⟩
 | succ n ih=>
  obtain⟨ih0,ih1⟩:=ih
  refine⟨?_,?_⟩
  ·intro a0 u w r h
   rw [CU] at h
   exact AJ (k1 ih1) h
  ·intro a0 u w y r h
   rw [EW] at h
   exact AJ (k3 Q7 ih1 ih0) h
def Ta (n:Nat):=(Sy n).1
theorem Sz (n:Nat):(∀a0 u w r,E9 n a0 u w=some r→Ac Tryz.prog Tryz.f103 [1,1,1,1,1,1,0,1,0] (.bool r) ⟨[(0,.rop (Watched.avs a0) 0),(3,.int .i64 (a0.cluster.grid.shards.length:Int)),(4,.rop (Watched.avs a0) 8),(5,.bool u),(6,.int .i64 w)],[],[]⟩)∧
    (∀a0 w y r,Gc n a0 w y=some r→Ac Tryz.prog Tryz.f103 [1,1,1,1,1,1,0,1,0,0,1,0,0,1] (.bool r) ⟨[(0,.rop (Watched.avs a0) 0),(3,.int .i64 (a0.cluster.grid.shards.length:Int)),(4,.rop (Watched.avs a0) 8),(5,.bool y),(6,.int .i64 w)],[],[]⟩):=by
 induction n with
 |zero=>exact⟨(fun _ _ _ _ h=>by rw [E9] at h; cases h),(fun _ _ _ _ h=>by rw [Gc] at h; cases h)⟩
 | succ n ih=>
  obtain⟨ih0,ih1⟩:=ih
  refine⟨?_,?_⟩
  ·intro a0 u w r h
   rw [E9] at h
   exact AJ (k2 ih1 Ta) h
  ·intro a0 w y r h
   rw [Gc] at h
   refine AR rfl rfl (Z ?_)
   replace h:=AD h; obtain⟨j,k,h⟩:=h
   refine AK (As (Q6 _ _ _ k) (.cons (.rop rfl) (.cons (.refl _) .nil))) (Z ?_)
   exact AJ (k1 ih0) h
def Tb (n:Nat):=(Sz n).1
theorem Tc (a0:Watched) (u:Bool) (r:Bool) (h:FA a0 u=some r):Ac Tryz.prog Tryz.f103 [1,1,1,1,0,1] (.bool r) ⟨[(0,.rop (Watched.avs a0) 0),(3,.int .i64 (a0.cluster.grid.shards.length:Int)),(4,.rop (Watched.avs a0) 8),(70,.bool u)],[],[]⟩:=by
 unfold FA at h
 exact AJ (k1 Tb) h
theorem YJ (a0 r) (h:Om a0=some r):AC Tryz.prog 103 [.rop (Watched.avs a0) 0] (.bool r):=by
 unfold Om at h
 refine acF Tryz.func103 mixed (h:=Z ?_)
 replace h:=AD h; obtain⟨u,w,h⟩:=h
 refine AK (As (Sv _ _ w) (.cons (.rop rfl) .nil)) (Z ?_)
 exact AJ (k1 Tc) h
theorem Q8 (n:Nat):(∀a0 u r,DZ n a0 u=some r→Ac Tryz.prog Tryz.f104 [1,1,0,1,0] (.bool r) ⟨[(0,.rop (Watched.avs a0) 0),(4,.int .i64 u)],[],[]⟩):=by
 induction n with
 |zero=>exact((fun _ _ _ h=>by rw [DZ] at h; cases h))
 | succ n ih=>
  have ih0:=ih
  ·intro a0 u r h
   rw [DZ] at h
   exact AJ (k1 ih0) h
theorem Q9 (n:Nat):(∀a0 u r,Da n a0 u=some r→Ac Tryz.prog Tryz.f104 [1,0,1,0] (.bool r) ⟨[(0,.rop (Watched.avs a0) 0),(3,.int .i64 u)],[],[]⟩):=by
 induction n with
 |zero=>exact((fun _ _ _ h=>by rw [Da] at h; cases h))
 | succ n ih=>
  have ih0:=ih
  ·intro a0 u r h
   rw [Da] at h
   exact AJ (k2 ih0 Q8) h
theorem VV (a0 r) (h:KP a0=some r):AC Tryz.prog 104 [.rop (Watched.avs a0) 0] (.bool r):=by
 unfold KP at h
 refine acF Tryz.func104 mixed (h:=Z ?_)
 exact AJ (k1 Q9) h
theorem Td (a0:Service) (u:Bool) (r:Bool) (h:JM a0 u=some r):Ac Tryz.prog Tryz.f45 [1,1,1] (.bool r) ⟨[(0,.rop (Service.avs a0) 0),(3,.bool u)],[],[]⟩:=by
 unfold JM at h
 refine AR rfl rfl (Z ?_)
 refine AH h (fun h=>Z ?_) (fun h=>Z ?_)
 ·replace h:=AD h; obtain⟨w,y,h⟩:=h
  refine AK (As (PI _ _ y) (.cons (.rop rfl) .nil)) (Z ?_)
  exact AJ (k1 DU) h
 ·exact AJ trivial h
theorem NB (a0 r) (h:Hn a0=some r):Ac Tryz.prog Tryz.f45 [1,1] (.bool r) ⟨[(0,.rop (Service.avs a0) 0)],[],[]⟩:=by
 unfold Hn at h
 refine AR rfl rfl (Z ?_)
 refine Ah [] .fin (by kernel_rfl) (Z ?_)
 exact AJ (k1 Td) h
theorem NC (a0:Service) (u:Bool) (r:Bool) (h:JN a0 u=some r):Ac Tryz.prog Tryz.f45 [1,0,1,1,1] (.bool r) ⟨[(0,.rop (Service.avs a0) 0),(22,.bool u)],[],[]⟩:=by
 unfold JN at h
 exact AJ (k1 NB) h
theorem YK (a0 r) (h:On a0=some r):AC Tryz.prog 45 [.rop (Service.avs a0) 0] (.bool r):=by
 unfold On at h
 refine acF Tryz.func45 mixed (h:=Z ?_)
 replace h:=AD h; obtain⟨u,w,h⟩:=h
 refine AK (VU _ _ w) (Z ?_)
 refine AL ?_
 refine AH h (fun h=>Z ?_) (fun h=>Z ?_)
 ·replace h:=AD h; obtain⟨y,q,h⟩:=h
  refine AK (As (PI _ _ q) (.cons (.rop rfl) .nil)) (Z ?_)
  exact AJ (k1 NB) h
 ·replace h:=AD h; obtain⟨g,j,h⟩:=h
  refine AK (As (YJ _ _ j) (.cons (.rop rfl) .nil)) (Z ?_)
  refine AH h (fun h=>Z ?_) (fun h=>Z ?_)
  ·exact AJ (k1 NC) h
  ·replace h:=AD h; obtain⟨k,b,h⟩:=h
   refine AK (As (VV _ _ b) (.cons (.rop rfl) .nil)) (Z ?_)
   exact AJ (k1 NC) h
end Go.Proofs.YtclmbjbbojdojaaGreat.Ab
