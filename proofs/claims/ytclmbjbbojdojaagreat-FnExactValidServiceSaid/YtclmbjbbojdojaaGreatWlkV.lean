/-
 The functions do what their models say. Printed by wip/ab/gen.py.
-/
import Derived.Test.YtclmbjbbojdojaaGreatModV
import Derived.Test.YtclmbjbbojdojaaGreatTi2
import Derived.Test.YtclmbjbbojdojaaGreatWlkP
import Derived.Test.YtclmbjbbojdojaaGreatWlkI
namespace Go.Proofs.YtclmbjbbojdojaaGreat.Ab
set_option linter.unusedVariables false
set_option linter.unusedSimpArgs false
set_option maxRecDepth 20000
set_option maxHeartbeats 4000000
open Go.RowKit
theorem RI (a0 a1 r) (h:HH a0 a1=some r):AC Tryz.prog 282 [.ro (a0.map Address.ds),.int .i64 a1] (.int .i64 r):=by
 unfold HH at h
 refine acF Tryz.func282 mixed (h:=Z ?_)
 exact AJ trivial h
theorem KZ (a0 a1 r) (h:EX a0 a1=some r):AC Tryz.prog 255 [.agg (ShardCell.avs a0),.int .i64 a1] (.int .i64 r):=by
 unfold EX at h
 refine acF Tryz.func255 mixed (h:=Z ?_)
 exact AJ (k2 J5 RI) h
theorem MA (n:Nat):(∀a0 u w r,CV n a0 u w=some r→Ac Tryz.prog Tryz.f252 [1,1,1,0,1,0] (.int .i64 r) ⟨[(0,.ro (a0.map ShardCell.ds)),(1,.int .i64 u),(5,.int .i64 w)],[],[]⟩):=by
 induction n with
 |zero=>exact((fun _ _ _ _ h=>by rw [CV] at h; cases h))
 | succ n ih=>
  have ih0:=ih
  ·intro a0 u w r h
   rw [CV] at h
   exact AJ (k2 KZ ih0) h
theorem PN (a0 a1 r) (h:Fq a0 a1=some r):AC Tryz.prog 252 [.ro (a0.map ShardCell.ds),.int .i64 a1] (.int .i64 r):=by
 unfold Fq at h
 refine acF Tryz.func252 mixed (h:=Z ?_)
 exact AJ (k1 MA) h
theorem QK (a0 a1 r) (h:GR a0 a1=some r):AC Tryz.prog 253 [.ro (a0.map ShardVar.ds),.int .i64 a1] (.int .i64 r):=by
 unfold GR at h
 refine acF Tryz.func253 mixed (h:=Z ?_)
 exact AJ trivial h
theorem N7 (a0 a1 r) (h:FS a0 a1=some r):AC Tryz.prog 254 [.ro (a0.map ShardRedex.ds),.int .i64 a1] (.int .i64 r):=by
 unfold FS at h
 refine acF Tryz.func254 mixed (h:=Z ?_)
 exact AJ trivial h
theorem Va (a0 a1 r) (h:Iz a0 a1=some r):AC Tryz.prog 219 [.agg (Shard.avs a0),.int .i64 a1] (.int .i64 r):=by
 unfold Iz at h
 refine acF Tryz.func219 mixed (h:=Z ?_)
 exact AJ (k3 PN QK N7) h
theorem QL (n:Nat):(∀a0 u w r,EY n a0 u w=some r→Ac Tryz.prog Tryz.f155 [1,1,1,0,1,0] (.int .i64 r) ⟨[(0,.ro (a0.map Shard.ds)),(1,.int .i64 u),(5,.int .i64 w)],[],[]⟩):=by
 induction n with
 |zero=>exact((fun _ _ _ _ h=>by rw [EY] at h; cases h))
 | succ n ih=>
  have ih0:=ih
  ·intro a0 u w r h
   rw [EY] at h
   exact AJ (k2 Va ih0) h
theorem ND (a0 a1 r) (h:Hp a0 a1=some r):AC Tryz.prog 155 [.ro (a0.map Shard.ds),.int .i64 a1] (.int .i64 r):=by
 unfold Hp at h
 refine acF Tryz.func155 mixed (h:=Z ?_)
 exact AJ (k1 QL) h
theorem XH (a0 a1 r) (h:Lp a0 a1=some r):AC Tryz.prog 97 [.agg (Grid.avs a0),.int .i64 a1] (.int .i64 r):=by
 unfold Lp at h
 refine acF Tryz.func97 mixed (h:=Z ?_)
 exact AJ (k1 ND) h
theorem Ti (a0 a1 r) (h:Hq a0 a1=some r):AC Tryz.prog 220 [.agg (Parcel.avs a0),.int .i64 a1] (.int .i64 r):=by
 unfold Hq at h
 refine acF Tryz.func220 mixed (h:=Z ?_)
 exact AJ (k1 KZ) h
theorem PO (n:Nat):(∀a0 u w r,Ds n a0 u w=some r→Ac Tryz.prog Tryz.f156 [1,1,1,0,1,0] (.int .i64 r) ⟨[(0,.ro (a0.map Parcel.ds)),(1,.int .i64 u),(5,.int .i64 w)],[],[]⟩):=by
 induction n with
 |zero=>exact((fun _ _ _ _ h=>by rw [Ds] at h; cases h))
 | succ n ih=>
  have ih0:=ih
  ·intro a0 u w r h
   rw [Ds] at h
   exact AJ (k2 Ti ih0) h
theorem S2 (a0 a1 r) (h:Gw a0 a1=some r):AC Tryz.prog 156 [.ro (a0.map Parcel.ds),.int .i64 a1] (.int .i64 r):=by
 unfold Gw at h
 refine acF Tryz.func156 mixed (h:=Z ?_)
 exact AJ (k1 PO) h
theorem N8 (n:Nat):(∀a0 u w r,DN n a0 u w=some r→Ac Tryz.prog Tryz.f98 [1,1,1,0,1,0] (.int .i64 r) ⟨[(0,.ro (List.map (slD Parcel.ds) a0)),(1,.int .i64 u),(5,.int .i64 w)],[],[]⟩):=by
 induction n with
 |zero=>exact((fun _ _ _ _ h=>by rw [DN] at h; cases h))
 | succ n ih=>
  have ih0:=ih
  ·intro a0 u w r h
   rw [DN] at h
   exact AJ (k2 S2 ih0) h
theorem LB (a0 a1 r) (h:GF a0 a1=some r):AC Tryz.prog 98 [.ro (List.map (slD Parcel.ds) a0),.int .i64 a1] (.int .i64 r):=by
 unfold GF at h
 refine acF Tryz.func98 mixed (h:=Z ?_)
 exact AJ (k1 N8) h
theorem PP (n:Nat):(∀a0 u w r,Dt n a0 u w=some r→Ac Tryz.prog Tryz.f99 [1,1,1,0,1,0] (.int .i64 r) ⟨[(0,.ro (List.map (slD AB) a0)),(1,.int .i64 u),(5,.int .i64 w)],[],[]⟩):=by
 induction n with
 |zero=>exact((fun _ _ _ _ h=>by rw [Dt] at h; cases h))
 | succ n ih=>
  have ih0:=ih
  ·intro a0 u w r h
   rw [Dt] at h
   exact AJ (k2 J5 ih0) h
theorem MB (a0 a1 r) (h:Gx a0 a1=some r):AC Tryz.prog 99 [.ro (List.map (slD AB) a0),.int .i64 a1] (.int .i64 r):=by
 unfold Gx at h
 refine acF Tryz.func99 mixed (h:=Z ?_)
 exact AJ (k1 PP) h
theorem MC (a0 a1 r) (h:Gy a0 a1=some r):AC Tryz.prog 44 [.agg (Cluster.avs a0),.int .i64 a1] (.int .i64 r):=by
 unfold Gy at h
 refine acF Tryz.func44 mixed (h:=Z ?_)
 exact AJ (k4 XH LB MB J5) h
theorem Vb (a0 a1 r) (h:I0 a0 a1=some r):AC Tryz.prog 53 [.ro (a0.map AN),.int .i64 a1] (.int .i64 r):=by
 unfold I0 at h
 refine acF Tryz.func53 mixed (h:=Z ?_)
 exact AJ trivial h
theorem XI (a0 a1 r) (h:Lq a0 a1=some r):AC Tryz.prog 96 [.agg (Shot.avs a0),.int .i64 a1] (.int .i64 r):=by
 unfold Lq at h
 refine acF Tryz.func96 mixed (h:=Z ?_)
 exact AJ (k4 Vb ND MB LB) h
theorem S3 (a0 a1 r) (h:ID a0 a1=some r):AC Tryz.prog 43 [.agg (Watched.avs a0),.int .i64 a1] (.int .i64 r):=by
 unfold ID at h
 refine acF Tryz.func43 mixed (h:=Z ?_)
 exact AJ (k2 MC XI) h
theorem S4 (a0 a1 r) (h:IE a0 a1=some r):AC Tryz.prog 18 [.agg (Service.avs a0),.int .i64 a1] (.int .i64 r):=by
 unfold IE at h
 refine acF Tryz.func18 mixed (h:=Z ?_)
 exact AJ (k2 S3 MC) h
theorem PQ (a0 r) (h:Fr a0=some r):AC Tryz.prog 19 [.agg (Service.avs a0)] (.bool r):=by
 unfold Fr at h
 refine acF Tryz.func19 mixed (h:=Z ?_)
 exact AJ (k1 YK) h
theorem F0 (a0 r) (h:C9 a0=some r):AC Tryz.prog 161 [.agg (Address.avs a0)] (.agg (Address.rv r)):=by
 unfold C9 at h
 refine acF Tryz.func161 mixed (h:=Z ?_)
 exact AJ trivial h
theorem N9 (n:Nat):(∀a0 u w r,DO n a0 u w=some r→Ac Tryz.prog Tryz.f288 [1,1,0,1,0] (.ow (some 3) (r.map Address.ds)) ⟨[(0,.ro (a0.map Address.ds)),(3,.own 1000001000),(4,.int .i64 w)],[(1000001000,some ⟨List.map Address.ds u,some 3,0,.no⟩)],[]⟩):=by
 induction n with
 |zero=>exact((fun _ _ _ _ h=>by rw [DO] at h; cases h))
 | succ n ih=>
  have ih0:=ih
  ·intro a0 u w r h
   rw [DO] at h
   refine AR rfl rfl (Z ?_)
   refine AY (Z ?_)
   refine AH h (fun h=>Z ?_) (fun h=>Z ?_)
   ·refine AL ?_
    replace h:=AD h; obtain⟨y,q,h⟩:=h
    refine Ad q (Address.ds_len _) (Z ?_)
    replace h:=AD h; obtain⟨g,j,h⟩:=h
    refine AK (F0 _ _ j) (Z ?_)
    replace h:=AD h; obtain⟨k,b,h⟩:=h
    refine Ad b (Address.ds_len _) (Z ?_)
    replace h:=AD h; obtain⟨d,c,h⟩:=h
    refine GK (FL b) (Z ?_)
    refine Bo (d.map Address.ds) (by rw [← D8 c]; simp only [List.map_set,go_sem,Address.ds_eq]) (Z ?_)
    refine AL ?_
    exact lpF (ih0 a0 d (IntKind.i64.wrap (w+1)) _ h) [(1000001000,1000001000)] []
   ·exact AJ trivial h
theorem RJ (a0 r) (h:HI a0=some r):AC Tryz.prog 288 [.ro (a0.map Address.ds)] (.ow (some 3) (r.map Address.ds)):=by
 unfold HI at h
 refine acF Tryz.func288 mixed (h:=Z ?_)
 replace h:=AD h; obtain⟨u,w,h⟩:=h
 have hq_:=EF w
 obtain⟨hv2002a,hv2002b,hv2002c⟩:=hq_
 refine B4 (by refine⟨?_,?_,?_⟩ <;> omega) (Z ?_)
 refine C3 .no (Z ?_)
 refine Bo (u.map Address.ds) (by rw [← hv2002c]; simp only [List.map_replicate,go_sem,Address.ds_eq]) (Z ?_)
 refine AL ?_
 exact loF (N9 fuel a0 u 0 _ h) [(1000001000,32032)] []
theorem Ka (a0 r) (h:EZ a0=some r):AC Tryz.prog 261 [.agg (ShardCell.avs a0)] (.agg (ShardCell.rv r)):=by
 unfold EZ at h
 refine acF Tryz.func261 mixed (h:=Z ?_)
 exact AJ (k2 J6 RJ) h
theorem MD (n:Nat):(∀a0 u w r,CW n a0 u w=some r→Ac Tryz.prog Tryz.f258 [1,1,0,1,0] (.ow (some 5) (r.map ShardCell.ds)) ⟨[(0,.ro (a0.map ShardCell.ds)),(3,.own 1000001000),(4,.int .i64 w)],[(1000001000,some ⟨List.map ShardCell.ds u,some 5,0,.no⟩)],[]⟩):=by
 induction n with
 |zero=>exact((fun _ _ _ _ h=>by rw [CW] at h; cases h))
 | succ n ih=>
  have ih0:=ih
  ·intro a0 u w r h
   rw [CW] at h
   refine AR rfl rfl (Z ?_)
   refine AY (Z ?_)
   refine AH h (fun h=>Z ?_) (fun h=>Z ?_)
   ·refine AL ?_
    replace h:=AD h; obtain⟨y,q,h⟩:=h
    refine Ad q (ShardCell.ds_len _) (Z ?_)
    replace h:=AD h; obtain⟨g,j,h⟩:=h
    refine AK (Ka _ _ j) (Z ?_)
    replace h:=AD h; obtain⟨k,b,h⟩:=h
    refine Ad b (ShardCell.ds_len _) (Z ?_)
    replace h:=AD h; obtain⟨d,c,h⟩:=h
    refine GK (FL b) (Z ?_)
    refine Bo (d.map ShardCell.ds) (by rw [← D8 c]; simp only [List.map_set,go_sem,ShardCell.ds_eq]) (Z ?_)
    refine AL ?_
    exact lpF (ih0 a0 d (IntKind.i64.wrap (w+1)) _ h) [(1000001000,1000001000)] []
   ·exact AJ trivial h
theorem PR (a0 r) (h:Fs a0=some r):AC Tryz.prog 258 [.ro (a0.map ShardCell.ds)] (.ow (some 5) (r.map ShardCell.ds)):=by
 unfold Fs at h
 refine acF Tryz.func258 mixed (h:=Z ?_)
 replace h:=AD h; obtain⟨u,w,h⟩:=h
 have hq_:=EF w
 obtain⟨hv2002a,hv2002b,hv2002c⟩:=hq_
 refine B4 (by refine⟨?_,?_,?_⟩ <;> omega) (Z ?_)
 refine C3 .no (Z ?_)
 refine Bo (u.map ShardCell.ds) (by rw [← hv2002c]; simp only [List.map_replicate,go_sem,ShardCell.ds_eq]) (Z ?_)
 refine AL ?_
 exact loF (MD fuel a0 u 0 _ h) [(1000001000,32032)] []
theorem RK (a0 r) (h:HJ a0=some r):AC Tryz.prog 286 [.agg (ShardVar.avs a0)] (.agg (ShardVar.rv r)):=by
 unfold HJ at h
 refine acF Tryz.func286 mixed (h:=Z ?_)
 exact AJ (k1 F0) h
theorem Mo (n:Nat):(∀a0 u w r,Cp n a0 u w=some r→Ac Tryz.prog Tryz.f259 [1,1,0,1,0] (.ow (some 5) (r.map ShardVar.ds)) ⟨[(0,.ro (a0.map ShardVar.ds)),(3,.own 1000001000),(4,.int .i64 w)],[(1000001000,some ⟨List.map ShardVar.ds u,some 5,0,.no⟩)],[]⟩):=by
 induction n with
 |zero=>exact((fun _ _ _ _ h=>by rw [Cp] at h; cases h))
 | succ n ih=>
  have ih0:=ih
  ·intro a0 u w r h
   rw [Cp] at h
   refine AR rfl rfl (Z ?_)
   refine AY (Z ?_)
   refine AH h (fun h=>Z ?_) (fun h=>Z ?_)
   ·refine AL ?_
    replace h:=AD h; obtain⟨y,q,h⟩:=h
    refine Ad q (ShardVar.ds_len _) (Z ?_)
    replace h:=AD h; obtain⟨g,j,h⟩:=h
    refine AK (RK _ _ j) (Z ?_)
    replace h:=AD h; obtain⟨k,b,h⟩:=h
    refine Ad b (ShardVar.ds_len _) (Z ?_)
    replace h:=AD h; obtain⟨d,c,h⟩:=h
    refine GK (FL b) (Z ?_)
    refine Bo (d.map ShardVar.ds) (by rw [← D8 c]; simp only [List.map_set,go_sem,ShardVar.ds_eq]) (Z ?_)
    refine AL ?_
    exact lpF (ih0 a0 d (IntKind.i64.wrap (w+1)) _ h) [(1000001000,1000001000)] []
   ·exact AJ trivial h
theorem QM (a0 r) (h:GS a0=some r):AC Tryz.prog 259 [.ro (a0.map ShardVar.ds)] (.ow (some 5) (r.map ShardVar.ds)):=by
 unfold GS at h
 refine acF Tryz.func259 mixed (h:=Z ?_)
 replace h:=AD h; obtain⟨u,w,h⟩:=h
 have hq_:=EF w
 obtain⟨hv2002a,hv2002b,hv2002c⟩:=hq_
 refine B4 (by refine⟨?_,?_,?_⟩ <;> omega) (Z ?_)
 refine C3 .no (Z ?_)
 refine Bo (u.map ShardVar.ds) (by rw [← hv2002c]; simp only [List.map_replicate,go_sem,ShardVar.ds_eq]) (Z ?_)
 refine AL ?_
 exact loF (Mo fuel a0 u 0 _ h) [(1000001000,32032)] []
theorem PS (a0 r) (h:Ft a0=some r):AC Tryz.prog 287 [.agg (ShardRedex.avs a0)] (.agg (ShardRedex.rv r)):=by
 unfold Ft at h
 refine acF Tryz.func287 mixed (h:=Z ?_)
 exact AJ (k1 F0) h
theorem LL (n:Nat):(∀a0 u w r,CI n a0 u w=some r→Ac Tryz.prog Tryz.f260 [1,1,0,1,0] (.ow (some 6) (r.map ShardRedex.ds)) ⟨[(0,.ro (a0.map ShardRedex.ds)),(3,.own 1000001000),(4,.int .i64 w)],[(1000001000,some ⟨List.map ShardRedex.ds u,some 6,0,.no⟩)],[]⟩):=by
 induction n with
 |zero=>exact((fun _ _ _ _ h=>by rw [CI] at h; cases h))
 | succ n ih=>
  have ih0:=ih
  ·intro a0 u w r h
   rw [CI] at h
   refine AR rfl rfl (Z ?_)
   refine AY (Z ?_)
   refine AH h (fun h=>Z ?_) (fun h=>Z ?_)
   ·refine AL ?_
    replace h:=AD h; obtain⟨y,q,h⟩:=h
    refine Ad q (ShardRedex.ds_len _) (Z ?_)
    replace h:=AD h; obtain⟨g,j,h⟩:=h
    refine AK (PS _ _ j) (Z ?_)
    replace h:=AD h; obtain⟨k,b,h⟩:=h
    refine Ad b (ShardRedex.ds_len _) (Z ?_)
    replace h:=AD h; obtain⟨d,c,h⟩:=h
    refine GK (FL b) (Z ?_)
    refine Bo (d.map ShardRedex.ds) (by rw [← D8 c]; simp only [List.map_set,go_sem,ShardRedex.ds_eq]) (Z ?_)
    refine AL ?_
    exact lpF (ih0 a0 d (IntKind.i64.wrap (w+1)) _ h) [(1000001000,1000001000)] []
   ·exact AJ trivial h
theorem OA (a0 r) (h:FT a0=some r):AC Tryz.prog 260 [.ro (a0.map ShardRedex.ds)] (.ow (some 6) (r.map ShardRedex.ds)):=by
 unfold FT at h
 refine acF Tryz.func260 mixed (h:=Z ?_)
 replace h:=AD h; obtain⟨u,w,h⟩:=h
 have hq_:=EF w
 obtain⟨hv2002a,hv2002b,hv2002c⟩:=hq_
 refine B4 (by refine⟨?_,?_,?_⟩ <;> omega) (Z ?_)
 refine C3 .no (Z ?_)
 refine Bo (u.map ShardRedex.ds) (by rw [← hv2002c]; simp only [List.map_replicate,go_sem,ShardRedex.ds_eq]) (Z ?_)
 refine AL ?_
 exact loF (LL fuel a0 u 0 _ h) [(1000001000,32032)] []
theorem Vc (a0 r) (h:I1 a0=some r):AC Tryz.prog 226 [.agg (Shard.avs a0)] (.agg (Shard.rv r)):=by
 unfold I1 at h
 refine acF Tryz.func226 mixed (h:=Z ?_)
 exact AJ (k3 PR QM OA) h
theorem QN (n:Nat):(∀a0 u w r,Ea n a0 u w=some r→Ac Tryz.prog Tryz.f160 [1,1,0,1,0] (.ow (some 3) (r.map Shard.ds)) ⟨[(0,.ro (a0.map Shard.ds)),(3,.own 1000001000),(4,.int .i64 w)],[(1000001000,some ⟨List.map Shard.ds u,some 3,0,.no⟩)],[]⟩):=by
 induction n with
 |zero=>exact((fun _ _ _ _ h=>by rw [Ea] at h; cases h))
 | succ n ih=>
  have ih0:=ih
  ·intro a0 u w r h
   rw [Ea] at h
   refine AR rfl rfl (Z ?_)
   refine AY (Z ?_)
   refine AH h (fun h=>Z ?_) (fun h=>Z ?_)
   ·refine AL ?_
    replace h:=AD h; obtain⟨y,q,h⟩:=h
    refine Ad q (Shard.ds_len _) (Z ?_)
    replace h:=AD h; obtain⟨g,j,h⟩:=h
    refine AK (Vc _ _ j) (Z ?_)
    replace h:=AD h; obtain⟨k,b,h⟩:=h
    refine Ad b (Shard.ds_len _) (Z ?_)
    replace h:=AD h; obtain⟨d,c,h⟩:=h
    refine GK (FL b) (Z ?_)
    refine Bo (d.map Shard.ds) (by rw [← D8 c]; simp only [List.map_set,go_sem,Shard.ds_eq]) (Z ?_)
    refine AL ?_
    exact lpF (ih0 a0 d (IntKind.i64.wrap (w+1)) _ h) [(1000001000,1000001000)] []
   ·exact AJ trivial h
theorem NE (a0 r) (h:Hr a0=some r):AC Tryz.prog 160 [.ro (a0.map Shard.ds)] (.ow (some 3) (r.map Shard.ds)):=by
 unfold Hr at h
 refine acF Tryz.func160 mixed (h:=Z ?_)
 replace h:=AD h; obtain⟨u,w,h⟩:=h
 have hq_:=EF w
 obtain⟨hv2002a,hv2002b,hv2002c⟩:=hq_
 refine B4 (by refine⟨?_,?_,?_⟩ <;> omega) (Z ?_)
 refine C3 .no (Z ?_)
 refine Bo (u.map Shard.ds) (by rw [← hv2002c]; simp only [List.map_replicate,go_sem,Shard.ds_eq]) (Z ?_)
 refine AL ?_
 exact loF (QN fuel a0 u 0 _ h) [(1000001000,32032)] []
theorem XJ (a0 r) (h:Lr a0=some r):AC Tryz.prog 106 [.agg (Grid.avs a0)] (.agg (Grid.rv r)):=by
 unfold Lr at h
 refine acF Tryz.func106 mixed (h:=Z ?_)
 exact AJ (k2 NE F0) h
theorem Tj (a0 r) (h:Hs a0=some r):AC Tryz.prog 227 [.agg (Parcel.avs a0)] (.agg (Parcel.rv r)):=by
 unfold Hs at h
 refine acF Tryz.func227 mixed (h:=Z ?_)
 exact AJ (k2 Ka F0) h
theorem PT (n:Nat):(∀a0 u w r,Du n a0 u w=some r→Ac Tryz.prog Tryz.f162 [1,1,0,1,0] (.ow (some 12) (r.map Parcel.ds)) ⟨[(0,.ro (a0.map Parcel.ds)),(3,.own 1000001000),(4,.int .i64 w)],[(1000001000,some ⟨List.map Parcel.ds u,some 12,0,.no⟩)],[]⟩):=by
 induction n with
 |zero=>exact((fun _ _ _ _ h=>by rw [Du] at h; cases h))
 | succ n ih=>
  have ih0:=ih
  ·intro a0 u w r h
   rw [Du] at h
   refine AR rfl rfl (Z ?_)
   refine AY (Z ?_)
   refine AH h (fun h=>Z ?_) (fun h=>Z ?_)
   ·refine AL ?_
    replace h:=AD h; obtain⟨y,q,h⟩:=h
    refine Ad q (Parcel.ds_len _) (Z ?_)
    replace h:=AD h; obtain⟨g,j,h⟩:=h
    refine AK (Tj _ _ j) (Z ?_)
    replace h:=AD h; obtain⟨k,b,h⟩:=h
    refine Ad b (Parcel.ds_len _) (Z ?_)
    replace h:=AD h; obtain⟨d,c,h⟩:=h
    refine GK (FL b) (Z ?_)
    refine Bo (d.map Parcel.ds) (by rw [← D8 c]; simp only [List.map_set,go_sem,Parcel.ds_eq]) (Z ?_)
    refine AL ?_
    exact lpF (ih0 a0 d (IntKind.i64.wrap (w+1)) _ h) [(1000001000,1000001000)] []
   ·exact AJ trivial h
theorem S5 (a0 r) (h:Gz a0=some r):AC Tryz.prog 162 [.ro (a0.map Parcel.ds)] (.ow (some 12) (r.map Parcel.ds)):=by
 unfold Gz at h
 refine acF Tryz.func162 mixed (h:=Z ?_)
 replace h:=AD h; obtain⟨u,w,h⟩:=h
 have hq_:=EF w
 obtain⟨hv2002a,hv2002b,hv2002c⟩:=hq_
 refine B4 (by refine⟨?_,?_,?_⟩ <;> omega) (Z ?_)
 refine C3 .no (Z ?_)
 refine Bo (u.map Parcel.ds) (by rw [← hv2002c]; simp only [List.map_replicate,go_sem,Parcel.ds_eq]) (Z ?_)
 refine AL ?_
 exact loF (PT fuel a0 u 0 _ h) [(1000001000,32032)] []
theorem OB (n:Nat):(∀a0 u w r,DP n a0 u w=some r→Ac Tryz.prog Tryz.f107 [1,1,0,1,0] (.ow (some 1) (List.map (slD Parcel.ds) r)) ⟨[(0,.ro (List.map (slD Parcel.ds) a0)),(3,.own 1000001000),(4,.int .i64 w)],[(1000001000,some ⟨List.map (slD Parcel.ds) u,some 1,0,.no⟩)],[]⟩):=by
 induction n with
 |zero=>exact((fun _ _ _ _ h=>by rw [DP] at h; cases h))
 | succ n ih=>
  have ih0:=ih
  ·intro a0 u w r h
   rw [DP] at h
   refine AR rfl rfl (Z ?_)
   refine AY (Z ?_)
   refine AH h (fun h=>Z ?_) (fun h=>Z ?_)
   ·refine AL ?_
    replace h:=AD h; obtain⟨y,q,h⟩:=h
    refine Ad q rfl (Z ?_)
    replace h:=AD h; obtain⟨g,j,h⟩:=h
    refine AK (S5 _ _ j) (Z ?_)
    replace h:=AD h; obtain⟨k,b,h⟩:=h
    refine Ad b rfl (Z ?_)
    replace h:=AD h; obtain⟨d,c,h⟩:=h
    refine GK (FL b) (Z ?_)
    refine Bo (List.map (slD Parcel.ds) d) (by rw [← D8 c]; simp only [List.map_set,go_sem,slD]) (Z ?_)
    refine AL ?_
    exact lpF (ih0 a0 d (IntKind.i64.wrap (w+1)) _ h) [(1000001000,1000001000)] []
   ·exact AJ trivial h
theorem LC (a0 r) (h:GG a0=some r):AC Tryz.prog 107 [.ro (List.map (slD Parcel.ds) a0)] (.ow (some 1) (List.map (slD Parcel.ds) r)):=by
 unfold GG at h
 refine acF Tryz.func107 mixed (h:=Z ?_)
 replace h:=AD h; obtain⟨u,w,h⟩:=h
 have hq_:=EF w
 obtain⟨hv2002a,hv2002b,hv2002c⟩:=hq_
 refine B4 (by refine⟨?_,?_,?_⟩ <;> omega) (Z ?_)
 refine C3 .no (Z ?_)
 refine Bo (List.map (slD Parcel.ds) u) (by rw [← hv2002c]; simp only [List.map_replicate,go_sem,slD]) (Z ?_)
 refine AL ?_
 exact loF (OB fuel a0 u 0 _ h) [(1000001000,32032)] []
theorem PU (n:Nat):(∀a0 u w r,Dv n a0 u w=some r→Ac Tryz.prog Tryz.f108 [1,1,0,1,0] (.ow (some 1) (List.map (slD AB) r)) ⟨[(0,.ro (List.map (slD AB) a0)),(3,.own 1000001000),(4,.int .i64 w)],[(1000001000,some ⟨List.map (slD AB) u,some 1,0,.no⟩)],[]⟩):=by
 induction n with
 |zero=>exact((fun _ _ _ _ h=>by rw [Dv] at h; cases h))
 | succ n ih=>
  have ih0:=ih
  ·intro a0 u w r h
   rw [Dv] at h
   refine AR rfl rfl (Z ?_)
   refine AY (Z ?_)
   refine AH h (fun h=>Z ?_) (fun h=>Z ?_)
   ·refine AL ?_
    replace h:=AD h; obtain⟨y,q,h⟩:=h
    refine Ad q rfl (Z ?_)
    replace h:=AD h; obtain⟨g,j,h⟩:=h
    refine AK (J6 _ _ j) (Z ?_)
    replace h:=AD h; obtain⟨k,b,h⟩:=h
    refine Ad b rfl (Z ?_)
    replace h:=AD h; obtain⟨d,c,h⟩:=h
    refine GK (FL b) (Z ?_)
    refine Bo (List.map (slD AB) d) (by rw [← D8 c]; simp only [List.map_set,go_sem,slD]) (Z ?_)
    refine AL ?_
    exact lpF (ih0 a0 d (IntKind.i64.wrap (w+1)) _ h) [(1000001000,1000001000)] []
   ·exact AJ trivial h
theorem ME (a0 r) (h:G0 a0=some r):AC Tryz.prog 108 [.ro (List.map (slD AB) a0)] (.ow (some 1) (List.map (slD AB) r)):=by
 unfold G0 at h
 refine acF Tryz.func108 mixed (h:=Z ?_)
 replace h:=AD h; obtain⟨u,w,h⟩:=h
 have hq_:=EF w
 obtain⟨hv2002a,hv2002b,hv2002c⟩:=hq_
 refine B4 (by refine⟨?_,?_,?_⟩ <;> omega) (Z ?_)
 refine C3 .no (Z ?_)
 refine Bo (List.map (slD AB) u) (by rw [← hv2002c]; simp only [List.map_replicate,go_sem,slD]) (Z ?_)
 refine AL ?_
 exact loF (PU fuel a0 u 0 _ h) [(1000001000,32032)] []
theorem MF (a0 r) (h:G1 a0=some r):AC Tryz.prog 47 [.agg (Cluster.avs a0)] (.agg (Cluster.rv r)):=by
 unfold G1 at h
 refine acF Tryz.func47 mixed (h:=Z ?_)
 exact AJ (k4 XJ LC ME J6) h
theorem RL (n:Nat):(∀a0 u w r,FG n a0 u w=some r→Ac Tryz.prog Tryz.f60 [1,1,0,1,0] (.ow (some 1) (r.map AN)) ⟨[(0,.ro (a0.map AN)),(3,.own 1000001000),(4,.int .i64 w)],[(1000001000,some ⟨List.map AN u,some 1,0,.no⟩)],[]⟩):=by
 induction n with
 |zero=>exact((fun _ _ _ _ h=>by rw [FG] at h; cases h))
 | succ n ih=>
  have ih0:=ih
  ·intro a0 u w r h
   rw [FG] at h
   refine AR rfl rfl (Z ?_)
   refine AY (Z ?_)
   refine AH h (fun h=>Z ?_) (fun h=>Z ?_)
   ·refine AL ?_
    replace h:=AD h; obtain⟨y,q,h⟩:=h
    refine Ad q rfl (Z ?_)
    replace h:=AD h; obtain⟨g,j,h⟩:=h
    refine Ad j rfl (Z ?_)
    replace h:=AD h; obtain⟨k,b,h⟩:=h
    refine GK (FL j) (Z ?_)
    refine Bo (k.map AN) (by rw [← D8 b]; simp only [List.map_set,go_sem,slD]) (Z ?_)
    refine AL ?_
    exact lpF (ih0 a0 k (IntKind.i64.wrap (w+1)) _ h) [(1000001000,1000001000)] []
   ·exact AJ trivial h
theorem Vd (a0 r) (h:I2 a0=some r):AC Tryz.prog 60 [.ro (a0.map AN)] (.ow (some 1) (r.map AN)):=by
 unfold I2 at h
 refine acF Tryz.func60 mixed (h:=Z ?_)
 replace h:=AD h; obtain⟨u,w,h⟩:=h
 have hq_:=EF w
 obtain⟨hv2002a,hv2002b,hv2002c⟩:=hq_
 refine B4 (by refine⟨?_,?_,?_⟩ <;> omega) (Z ?_)
 refine C3 .no (Z ?_)
 refine Bo (u.map AN) (by rw [← hv2002c]; simp only [List.map_replicate,go_sem,slD]) (Z ?_)
 refine AL ?_
 exact loF (RL fuel a0 u 0 _ h) [(1000001000,32032)] []
theorem XK (a0 r) (h:Ls a0=some r):AC Tryz.prog 105 [.agg (Shot.avs a0)] (.agg (Shot.rv r)):=by
 unfold Ls at h
 refine acF Tryz.func105 mixed (h:=Z ?_)
 exact AJ (k4 Vd NE ME LC) h
theorem S6 (a0 r) (h:IF a0=some r):AC Tryz.prog 46 [.agg (Watched.avs a0)] (.agg (Watched.rv r)):=by
 unfold IF at h
 refine acF Tryz.func46 mixed (h:=Z ?_)
 exact AJ (k2 MF XK) h
theorem Ja (a0 r) (h:E1 a0=some r):AC Tryz.prog 20 [.agg (Service.avs a0)] (.agg (Service.rv r)):=by
 unfold E1 at h
 refine acF Tryz.func20 mixed (h:=Z ?_)
 exact AJ (k2 S6 MF) h
theorem HX (n:Nat):(∀ (a0:List (List Parcel)) (u:Int) (f1:((List Parcel)→Option Bool)) (g1:FuncId) (c1:List AV) (s1:Still c1) (h1:∀ (y0:List Parcel) (q:Bool),f1 y0=some q→AC Tryz.prog g1 (fnA c1 [.ro (y0.map Parcel.ds)]) (.bool q)) (r:Int),Ay n a0 u f1=some r→Ac Tryz.prog Tryz.f176 [1,0,1,0] (.int .i64 r) ⟨[(0,.ro (List.map (slD Parcel.ds) a0)),(1,.fn g1 c1),(7,.int .i64 (a0.length:Int)),(8,.int .i64 u)],[],[]⟩):=by
 induction n with
 |zero=>exact((fun _ _ _ _ _ _ _ _ h=>by rw [Ay] at h; cases h))
 | succ n ih=>
  have ih0:=ih
  ·intro a0 u f1 g1 c1 s1 h1 r h
   rw [Ay] at h
   refine AR rfl rfl ?_
   try simp only [go_sem,s1.k,s1.r,s1.c,s1.p,s1.o,s1.f]
   refine AY ?_
   try simp only [go_sem,s1.k,s1.r,s1.c,s1.p,s1.o,s1.f]
   refine AH h (fun h=>?_) (fun h=>?_)
   ·try simp only [go_sem,s1.k,s1.r,s1.c,s1.p,s1.o,s1.f]
    refine BF ?_
    try simp only [go_sem,s1.k,s1.r,s1.c,s1.p,s1.o,s1.f]
    replace h:=AD h; obtain⟨w,y,h⟩:=h
    refine Ad y rfl ?_
    try simp only [go_sem,s1.k,s1.r,s1.c,s1.p,s1.o,s1.f]
    replace h:=AD h; obtain⟨g,j,h⟩:=h
    refine AK (h1 _ _ j) ?_
    try simp only [go_sem,s1.k,s1.r,s1.c,s1.p,s1.o,s1.f]
    refine BF ?_
    try simp only [go_sem,s1.k,s1.r,s1.c,s1.p,s1.o,s1.f]
    refine AH h (fun h=>?_) (fun h=>?_)
    ·try simp only [go_sem,s1.k,s1.r,s1.c,s1.p,s1.o,s1.f]
     cases h
     simp only [go_sem,s1.k,s1.r,s1.c,s1.p,s1.o,s1.f]
    ·try simp only [go_sem,s1.k,s1.r,s1.c,s1.p,s1.o,s1.f]
     refine BF ?_
     try simp only [go_sem,s1.k,s1.r,s1.c,s1.p,s1.o,s1.f]
     refine My (Ck rfl rfl (ih0 a0 (IntKind.i64.wrap (u+1)) f1 g1 c1 s1 h1 _ h):) (.one ⟨_,.done _,[],[],?_⟩)
     try simp only [go_sem,s1.k,s1.r,s1.c,s1.p,s1.o,s1.f]
   ·try simp only [go_sem,s1.k,s1.r,s1.c,s1.p,s1.o,s1.f]
    refine BF ?_
    try simp only [go_sem,s1.k,s1.r,s1.c,s1.p,s1.o,s1.f]
    cases h
    simp only [go_sem,s1.k,s1.r,s1.c,s1.p,s1.o,s1.f]
theorem Ia (a0:List (List Parcel)) (f1:((List Parcel)→Option Bool)) (g1:FuncId) (c1:List AV) (s1:Still c1) (h1:∀ (y0:List Parcel) (q:Bool),f1 y0=some q→AC Tryz.prog g1 (fnA c1 [.ro (y0.map Parcel.ds)]) (.bool q)) (r:Int) (h:D6 a0 f1=some r):AC Tryz.prog 176 [.ro (List.map (slD Parcel.ds) a0),.fn g1 c1] (.int .i64 r):=by
 unfold D6 at h
 refine acF Tryz.func176 mixed (h:=?_)
 try simp only [go_sem,s1.k,s1.r,s1.c,s1.p,s1.o,s1.f]
 refine DW (Ck rfl rfl (HX fuel a0 0 f1 g1 c1 s1 h1 _ h):) (.one ⟨_,.done _,[],[],?_⟩)
 try simp only [go_sem,s1.k,s1.r,s1.c,s1.p,s1.o,s1.f]
theorem HY (a0:List (List Parcel)) (f1:((List Parcel)→Option Bool)) (g1:FuncId) (c1:List AV) (s1:Still c1) (h1:∀ (y0:List Parcel) (q:Bool),f1 y0=some q→AC Tryz.prog g1 (fnA c1 [.ro (y0.map Parcel.ds)]) (.bool q)) (r:Bool) (h:CF a0 f1=some r):AC Tryz.prog 118 [.ro (List.map (slD Parcel.ds) a0),.fn g1 c1] (.bool r):=by
 unfold CF at h
 refine acF Tryz.func118 mixed (h:=?_)
 try simp only [go_sem,s1.k,s1.r,s1.c,s1.p,s1.o,s1.f]
 replace h:=AD h; obtain⟨u,w,h⟩:=h
 refine AK (Ia _ _ g1 c1 s1 h1 _ w) ?_
 try simp only [go_sem,s1.k,s1.r,s1.c,s1.p,s1.o,s1.f]
 refine BF ?_
 try simp only [go_sem,s1.k,s1.r,s1.c,s1.p,s1.o,s1.f]
 cases h
 simp only [go_sem,s1.k,s1.r,s1.c,s1.p,s1.o,s1.f]
theorem S7 (a0 r) (h:Il a0=some r):AC Tryz.prog 177 [.bool a0] (.int .i64 r):=by
 unfold Il at h
 refine acF Tryz.func177 mixed (h:=Z ?_)
 exact AJ trivial h
theorem RM (n:Nat):(∀a0 u w r,EL n a0 u w=some r→Ac Tryz.prog Tryz.f120 [1,1,0,1,0] (.int .i64 r) ⟨[(3,.int .i64 u),(6,.ro (a0.map Parcel.ds)),(7,.int .i64 (a0.length:Int)),(8,.int .i64 w)],[],[]⟩):=by
 induction n with
 |zero=>exact((fun _ _ _ _ h=>by rw [EL] at h; cases h))
 | succ n ih=>
  have ih0:=ih
  ·intro a0 u w r h
   rw [EL] at h
   exact AJ (k2 S7 ih0) h
theorem PV (a0 r) (h:I3 a0=some r):AC Tryz.prog 120 [.ro (a0.map Parcel.ds)] (.int .i64 r):=by
 unfold I3 at h
 refine acF Tryz.func120 mixed (h:=Z ?_)
 exact AJ (k1 RM) h
theorem Jh (a0 r) (h:Db a0=some r):AC Tryz.prog 119 [.ro (a0.map Parcel.ds)] (.bool r):=by
 unfold Db at h
 refine acF Tryz.func119 mixed (h:=Z ?_)
 exact AJ (k1 PV) h
theorem G6 (a0 r) (h:CL a0=some r):AC Tryz.prog 50 [.rop (Cluster.avs a0) 0] (.bool r):=by
 unfold CL at h
 refine acF Tryz.func50 mixed (h:=Z ?_)
 replace h:=AD h; obtain⟨u,w,h⟩:=h
 refine AK (HY _ _ 119 [] (Still.of rfl) (fun y0 q hq=>Jh y0  q hq) _ w) (Z ?_)
 exact AJ trivial h
theorem Mp (a0 r) (h:Dh a0=some r):AC Tryz.prog 109 [.rop (Service.avs a0) 0] (.bool r):=by
 unfold Dh at h
 refine acF Tryz.func109 mixed (h:=Z ?_)
 exact AJ trivial h
theorem Mq (n:Nat):(∀a0 a1 u r,CM n a0 a1 u=some r→Ac Tryz.prog Tryz.f228 [1,0,1,0] (.int .i64 r) ⟨[(0,.ro (a0.map AN)),(1,.bool a1),(7,.int .i64 (a0.length:Int)),(8,.int .i64 u)],[],[]⟩):=by
 induction n with
 |zero=>exact((fun _ _ _ _ h=>by rw [CM] at h; cases h))
 | succ n ih=>
  have ih0:=ih
  ·intro a0 a1 u r h
   rw [CM] at h
   exact AJ (k1 ih0) h
theorem QO (a0 a1 r) (h:H2 a0 a1=some r):AC Tryz.prog 228 [.ro (a0.map AN),.bool a1] (.int .i64 r):=by
 unfold H2 at h
 refine acF Tryz.func228 mixed (h:=Z ?_)
 exact AJ (k1 Mq) h
theorem Ii (a0 a1 r) (h:Cq a0 a1=some r):AC Tryz.prog 163 [.ro (a0.map AN),.bool a1] (.bool r):=by
 unfold Cq at h
 refine acF Tryz.func163 mixed (h:=Z ?_)
 exact AJ (k1 QO) h
theorem G8 (n:Nat):(∀ (a0:List ShardCell) (a1:List ShardCell) (u:Int) (f2:(ShardCell→ShardCell→Option Bool)) (g2:FuncId) (c2:List AV) (s2:Still c2) (h2:∀ (y0:ShardCell) (y1:ShardCell) (q:Bool),f2 y0 y1=some q→AC Tryz.prog g2 (fnA c2 [.agg (ShardCell.avs y0),.agg (ShardCell.avs y1)]) (.bool q)) (r:Bool),A5 n a0 a1 u f2=some r→Ac Tryz.prog Tryz.f262 [1,1,0,1,0] (.bool r) ⟨[(1,.ro (a1.map ShardCell.ds)),(2,.fn g2 c2),(15,.ro (a0.map ShardCell.ds)),(16,.int .i64 (a0.length:Int)),(17,.int .i64 u)],[],[]⟩):=by
 induction n with
 |zero=>exact((fun _ _ _ _ _ _ _ _ _ h=>by rw [A5] at h; cases h))
 | succ n ih=>
  have ih0:=ih
  ·intro a0 a1 u f2 g2 c2 s2 h2 r h
   rw [A5] at h
   refine AR rfl rfl ?_
   try simp only [go_sem,s2.k,s2.r,s2.c,s2.p,s2.o,s2.f]
   refine AY ?_
   try simp only [go_sem,s2.k,s2.r,s2.c,s2.p,s2.o,s2.f]
   refine AH h (fun h=>?_) (fun h=>?_)
   ·try simp only [go_sem,s2.k,s2.r,s2.c,s2.p,s2.o,s2.f]
    refine BF ?_
    try simp only [go_sem,s2.k,s2.r,s2.c,s2.p,s2.o,s2.f]
    replace h:=AD h; obtain⟨w,y,h⟩:=h
    refine Ad y (ShardCell.ds_len _) ?_
    try simp only [go_sem,s2.k,s2.r,s2.c,s2.p,s2.o,s2.f]
    refine BF ?_
    try simp only [go_sem,s2.k,s2.r,s2.c,s2.p,s2.o,s2.f]
    replace h:=AD h; obtain⟨g,j,h⟩:=h
    refine Ad j (ShardCell.ds_len _) ?_
    try simp only [go_sem,s2.k,s2.r,s2.c,s2.p,s2.o,s2.f]
    refine BF ?_
    try simp only [go_sem,s2.k,s2.r,s2.c,s2.p,s2.o,s2.f]
    replace h:=AD h; obtain⟨b,d,h⟩:=h
    refine AK (h2 _ _ _ d) ?_
    try simp only [go_sem,s2.k,s2.r,s2.c,s2.p,s2.o,s2.f]
    refine BF ?_
    try simp only [go_sem,s2.k,s2.r,s2.c,s2.p,s2.o,s2.f]
    refine AH h (fun h=>?_) (fun h=>?_)
    ·try simp only [go_sem,s2.k,s2.r,s2.c,s2.p,s2.o,s2.f]
     cases h
     simp only [go_sem,s2.k,s2.r,s2.c,s2.p,s2.o,s2.f]
    ·try simp only [go_sem,s2.k,s2.r,s2.c,s2.p,s2.o,s2.f]
     refine BF ?_
     try simp only [go_sem,s2.k,s2.r,s2.c,s2.p,s2.o,s2.f]
     refine My (Ck rfl rfl (ih0 a0 a1 (IntKind.i64.wrap (u+1)) f2 g2 c2 s2 h2 _ h):) (.one ⟨_,.done _,[],[],?_⟩)
     try simp only [go_sem,s2.k,s2.r,s2.c,s2.p,s2.o,s2.f]
   ·try simp only [go_sem,s2.k,s2.r,s2.c,s2.p,s2.o,s2.f]
    refine BF ?_
    try simp only [go_sem,s2.k,s2.r,s2.c,s2.p,s2.o,s2.f]
    cases h
    simp only [go_sem,s2.k,s2.r,s2.c,s2.p,s2.o,s2.f]
theorem Hz (a0:List ShardCell) (a1:List ShardCell) (f2:(ShardCell→ShardCell→Option Bool)) (g2:FuncId) (c2:List AV) (s2:Still c2) (h2:∀ (y0:ShardCell) (y1:ShardCell) (q:Bool),f2 y0 y1=some q→AC Tryz.prog g2 (fnA c2 [.agg (ShardCell.avs y0),.agg (ShardCell.avs y1)]) (.bool q)) (r:Bool) (h:Bl a0 a1 f2=some r):AC Tryz.prog 262 [.ro (a0.map ShardCell.ds),.ro (a1.map ShardCell.ds),.fn g2 c2] (.bool r):=by
 unfold Bl at h
 refine acF Tryz.func262 mixed (h:=?_)
 try simp only [go_sem,s2.k,s2.r,s2.c,s2.p,s2.o,s2.f]
 refine AH h (fun h=>?_) (fun h=>?_)
 ·try simp only [go_sem,s2.k,s2.r,s2.c,s2.p,s2.o,s2.f]
  cases h
  simp only [go_sem,s2.k,s2.r,s2.c,s2.p,s2.o,s2.f]
 ·try simp only [go_sem,s2.k,s2.r,s2.c,s2.p,s2.o,s2.f]
  refine BF ?_
  try simp only [go_sem,s2.k,s2.r,s2.c,s2.p,s2.o,s2.f]
  refine DW (Ck rfl rfl (G8 fuel a0 a1 0 f2 g2 c2 s2 h2 _ h):) (.one ⟨_,.done _,[],[],?_⟩)
  try simp only [go_sem,s2.k,s2.r,s2.c,s2.p,s2.o,s2.f]
theorem Ib (n:Nat):(∀a0 a1 u r,BU n a0 a1 u=some r→Ac Tryz.prog Tryz.f263 [1,1,0,1,0] (.bool r) ⟨[(0,.ro (a0.map ShardVar.ds)),(1,.ro (a1.map ShardVar.ds)),(12,.int .i64 (a0.length:Int)),(13,.int .i64 u)],[],[]⟩):=by
 induction n with
 |zero=>exact((fun _ _ _ _ h=>by rw [BU] at h; cases h))
 | succ n ih=>
  have ih0:=ih
  ·intro a0 a1 u r h
   rw [BU] at h
   refine AR rfl rfl (Z ?_)
   refine AY (Z ?_)
   refine AH h (fun h=>Z ?_) (fun h=>Z ?_)
   ·refine AL ?_
    refine Ah [] .fin (by kernel_rfl) (Z ?_)
    exact AJ (k1 ih0) h
   ·exact AJ trivial h
theorem Ji (a0 a1 r) (h:CX a0 a1=some r):AC Tryz.prog 263 [.ro (a0.map ShardVar.ds),.ro (a1.map ShardVar.ds)] (.bool r):=by
 unfold CX at h
 refine acF Tryz.func263 mixed (h:=Z ?_)
 exact AJ (k1 Ib) h
theorem H0 (n:Nat):(∀a0 a1 u r,BK n a0 a1 u=some r→Ac Tryz.prog Tryz.f264 [1,1,0,1,0] (.bool r) ⟨[(0,.ro (a0.map ShardRedex.ds)),(1,.ro (a1.map ShardRedex.ds)),(12,.int .i64 (a0.length:Int)),(13,.int .i64 u)],[],[]⟩):=by
 induction n with
 |zero=>exact((fun _ _ _ _ h=>by rw [BK] at h; cases h))
 | succ n ih=>
  have ih0:=ih
  ·intro a0 a1 u r h
   rw [BK] at h
   refine AR rfl rfl (Z ?_)
   refine AY (Z ?_)
   refine AH h (fun h=>Z ?_) (fun h=>Z ?_)
   ·refine AL ?_
    refine Ah [] .fin (by kernel_rfl) (Z ?_)
    exact AJ (k1 ih0) h
   ·exact AJ trivial h
theorem Io (a0 a1 r) (h:CC a0 a1=some r):AC Tryz.prog 264 [.ro (a0.map ShardRedex.ds),.ro (a1.map ShardRedex.ds)] (.bool r):=by
 unfold CC at h
 refine acF Tryz.func264 mixed (h:=Z ?_)
 exact AJ (k1 H0) h
theorem S8 (a0 a1 r) (h:IG a0 a1=some r):AC Tryz.prog 229 [.agg (Shard.avs a0),.agg (Shard.avs a1)] (.bool r):=by
 unfold IG at h
 refine acF Tryz.func229 mixed (h:=Z ?_)
 replace h:=AD h; obtain⟨u,w,h⟩:=h
 refine AK (Hz _ _ _ 231 [] (Still.of rfl) (fun y0 y1 q hq=>Ge y0 y1  q hq) _ w) (Z ?_)
 exact AJ (k2 Ji Io) h
theorem Mr (a0 a1 r) (h:Di a0 a1=some r):AC Tryz.prog 164 [.rop (Shot.avs a0) 0,.int .i64 a1] (.bool r):=by
 unfold Di at h
 refine acF Tryz.func164 mixed (h:=Z ?_)
 exact AJ (k3 S8 K8 IM) h
theorem Jj (a0:Watched) (a3:Int) (u:Int) (r:Bool) (h:B0 a0 a3 u=some r):Ac Tryz.prog Tryz.f165 [1,1,1,1,1,1] (.bool r) ⟨[(0,.rop (Watched.avs a0) 0),(3,.int .i64 a3),(9,.rop (Watched.avs a0) 8),(11,.int .i64 u)],[],[]⟩:=by
 unfold B0 at h
 exact AJ (k1 PV) h
theorem Jk (a0:Watched) (a1:Int) (a2:Int) (a3:Int) (u:Bool) (r:Bool) (h:Ao a0 a1 a2 a3 u=some r):Ac Tryz.prog Tryz.f165 [1,1,1,1,0,1] (.bool r) ⟨[(0,.rop (Watched.avs a0) 0),(1,.int .i64 a1),(2,.int .i64 a2),(3,.int .i64 a3),(9,.rop (Watched.avs a0) 8),(78,.bool u)],[],[]⟩:=by
 unfold Ao at h
 exact AJ (k2 S7 Jj) h
theorem Jl (a0:Watched) (a1:Int) (a2:Int) (a3:Int) (u:Bool) (r:Bool) (h:CY a0 a1 a2 a3 u=some r):Ac Tryz.prog Tryz.f165 [1,1,1] (.bool r) ⟨[(0,.rop (Watched.avs a0) 0),(1,.int .i64 a1),(2,.int .i64 a2),(3,.int .i64 a3),(9,.rop (Watched.avs a0) 8),(10,.bool u)],[],[]⟩:=by
 unfold CY at h
 exact AJ (k1 Jk) h
theorem K0 (a0 a1 a2 a3 r) (h:Cb a0 a1 a2 a3=some r):AC Tryz.prog 165 [.rop (Watched.avs a0) 0,.int .i64 a1,.int .i64 a2,.int .i64 a3] (.bool r):=by
 unfold Cb at h
 refine acF Tryz.func165 mixed (h:=Z ?_)
 exact AJ (k1 Jl) h
theorem MG (n:Nat):(∀a0 u w r,Au n a0 u w=some r→Ac Tryz.prog Tryz.f110 [1,1,1,1,1,0,1,0] (.bool r) ⟨[(1,.box 1000004500 0),(4,.int .i64 u),(66,.int .i64 (IntKind.i64.wrap (u*u))),(67,.int .i64 w)],[],[(1000004500,some (Watched.avs a0))]⟩):=by
 induction n with
 |zero=>exact((fun _ _ _ _ h=>by rw [Au] at h; cases h))
 | succ n ih=>
  have ih0:=ih
  ·intro a0 u w r h
   rw [Au] at h
   refine AR rfl rfl (Z ?_)
   refine AY (Z ?_)
   refine AH h (fun h=>Z ?_) (fun h=>Z ?_)
   ·refine AL ?_
    refine Ah [] .fin (by kernel_rfl) (Z ?_)
    replace h:=AD h; obtain⟨y,q,h⟩:=h
    refine B4 (Oj q) (Z ?_)
    replace h:=AD h; obtain⟨g,j,h⟩:=h
    refine B4 (Oj j) (Z ?_)
    replace h:=AD h; obtain⟨k,b,h⟩:=h
    refine AK (K0 _ _ _ _ _ b) (Z ?_)
    refine AL ?_
    refine AH h (fun h=>Z ?_) (fun h=>Z ?_)
    ·exact AJ trivial h
    ·refine AL ?_
     exact lpF (ih0 a0 u (IntKind.i64.wrap (w+1)) _ h) [] [(1000004500,1000004500)]
   ·exact AJ trivial h
theorem MH (n:Nat):(∀a0 u w r,BC n a0 u w=some r→Ac Tryz.prog Tryz.f110 [1,1,1,1,0,1,0] (.bool r) ⟨[(1,.box 1000002500 0),(3,.box 1000002501 0),(4,.int .i64 u),(56,.int .i64 u),(57,.int .i64 w)],[],[(1000002500,some (Watched.avs a0)),(1000002501,some (Shot.avs a0.shot))]⟩):=by
 induction n with
 |zero=>exact((fun _ _ _ _ h=>by rw [BC] at h; cases h))
 | succ n ih=>
  have ih0:=ih
  ·intro a0 u w r h
   rw [BC] at h
   refine AR rfl rfl (Z ?_)
   refine AY (Z ?_)
   refine AH h (fun h=>Z ?_) (fun h=>Z ?_)
   ·refine AL ?_
    replace h:=AD h; obtain⟨y,q,h⟩:=h
    refine AK (Mr _ _ _ q) (Z ?_)
    refine AL ?_
    refine AH h (fun h=>Z ?_) (fun h=>Z ?_)
    ·exact AJ trivial h
    ·refine AL ?_
     exact lpF (ih0 a0 u (IntKind.i64.wrap (w+1)) _ h) [] [(1000002500,1000002500),(1000002501,1000002501)]
   ·refine AL ?_
    exact loF (MG fuel a0 u 0 _ h) [] [(1000004500,1000002500)]
theorem CN (a0:Watched) (u:Int) (w:Bool) (r:Bool) (h:BD a0 u w=some r):Ac Tryz.prog Tryz.f110 [1,1,1,0,1] (.bool r) ⟨[(1,.box 1000000500 0),(3,.box 1000000501 0),(4,.int .i64 u),(55,.bool w)],[],[(1000000500,some (Watched.avs a0)),(1000000501,some (Shot.avs a0.shot))]⟩:=by
 unfold BD at h
 refine AR rfl rfl (Z ?_)
 refine AH h (fun h=>Z ?_) (fun h=>Z ?_)
 ·exact AJ trivial h
 ·refine AL ?_
  exact loF (MH fuel a0 u 0 _ h) [] [(1000002500,1000000500),(1000002501,1000000501)]
theorem PW (a0 r) (h:Fu a0=some r):AC Tryz.prog 110 [.agg (Watched.avs a0)] (.bool r):=by
 unfold Fu at h
 refine acF Tryz.func110 mixed (h:=Z ?_)
 replace h:=AD h; obtain⟨u,w,h⟩:=h
 refine AK (HT _ _ w) (Z ?_)
 refine AL ?_
 refine AH h (fun h=>Z ?_) (fun h=>Z ?_)
 ·exact AJ trivial h
 ·refine AL ?_
  refine Ah [false,false,false,false,false,true,true] (Tr.sq [5,6] .fin) (by kernel_rfl) (Z ?_)
  replace h:=AD h; obtain⟨y,q,h⟩:=h
  refine AK (As (D3 _ _ q) (.cons (.rop rfl) .nil)) (Z ?_)
  refine AL ?_
  refine AH h (fun h=>Z ?_) (fun h=>Z ?_)
  ·exact ES (CN a0 y true _ h) [] [(1000000500,1000),(1000000501,4004)]
  ·refine AH h (fun h=>Z ?_) (fun h=>Z ?_)
   ·exact ES (CN a0 y true _ h) [] [(1000000500,1000),(1000000501,4004)]
   ·refine AH h (fun h=>Z ?_) (fun h=>Z ?_)
    ·exact ES (CN a0 y true _ h) [] [(1000000500,1000),(1000000501,4004)]
    ·refine AH h (fun h=>Z ?_) (fun h=>Z ?_)
     ·exact ES (CN a0 y true _ h) [] [(1000000500,1000),(1000000501,4004)]
     ·replace h:=AD h; obtain⟨g,j,h⟩:=h
      refine AK (JV _ _ _ j) (Z ?_)
      refine AH h (fun h=>Z ?_) (fun h=>Z ?_)
      ·exact ES (CN a0 y true _ h) [] [(1000000500,1000),(1000000501,4004)]
      ·replace h:=AD h; obtain⟨k,b,h⟩:=h
       refine AK (Ii _ _ _ b) (Z ?_)
       exact ES (CN a0 y (!k) _ h) [] [(1000000500,1000),(1000000501,4004)]
theorem QP (a0 r) (h:GT a0=some r):AC Tryz.prog 111 [.rop (Shot.avs a0) 0] (.bool r):=by
 unfold GT at h
 refine acF Tryz.func111 mixed (h:=Z ?_)
 exact AJ (k1 Ii) h
theorem K1 (a0 r) (h:Eg a0=some r):AC Tryz.prog 48 [.rop (Service.avs a0) 0] (.bool r):=by
 unfold Eg at h
 refine acF Tryz.func48 mixed (h:=Z ?_)
 replace h:=AD h; obtain⟨u,w,h⟩:=h
 refine AK (Mp _ _ w) (Z ?_)
 refine AL ?_
 refine AH h (fun h=>Z ?_) (fun h=>Z ?_)
 ·replace h:=AD h; obtain⟨y,q,h⟩:=h
  refine AK (HT _ _ q) (Z ?_)
  refine AH h (fun h=>Z ?_) (fun h=>Z ?_)
  ·replace h:=AD h; obtain⟨g,j,h⟩:=h
   refine AK (As (G6 _ _ j) (.cons (.rop rfl) .nil)) (Z ?_)
   exact AJ trivial h
  ·exact AJ trivial h
 ·refine AL ?_
  replace h:=AD h; obtain⟨k,b,h⟩:=h
  refine AK (PW _ _ b) (Z ?_)
  refine AH h (fun h=>Z ?_) (fun h=>Z ?_)
  ·replace h:=AD h; obtain⟨d,c,h⟩:=h
   refine AK (As (QP _ _ c) (.cons (.rop rfl) .nil)) (Z ?_)
   exact AJ trivial h
  ·exact AJ trivial h
theorem PX (a0 r) (h:Et a0=some r):AC Tryz.prog 21 [.agg (Service.avs a0)] (.bool r):=by
 unfold Et at h
 refine acF Tryz.func21 mixed (h:=Z ?_)
 replace h:=AD h; obtain⟨u,w,h⟩:=h
 refine AK (K1 _ _ w) (Z ?_)
 refine AH h (fun h=>Z ?_) (fun h=>Z ?_)
 ·replace h:=AD h; obtain⟨y,q,h⟩:=h
  refine AK (HT _ _ q) (Z ?_)
  refine AH h (fun h=>Z ?_) (fun h=>Z ?_)
  ·replace h:=AD h; obtain⟨g,j,h⟩:=h
   refine AK (As (G6 _ _ j) (.cons (.rop rfl) .nil)) (Z ?_)
   refine AH h (fun h=>Z ?_) (fun h=>Z ?_)
   ·replace h:=AD h; obtain⟨k,b,h⟩:=h
    refine AK (As (D3 _ _ b) (.cons (.rop rfl) .nil)) (Z ?_)
    replace h:=AD h; obtain⟨d,c,h⟩:=h
    refine AK (As (D3 _ _ c) (.cons (.rop rfl) .nil)) (Z ?_)
    exact AJ (k1 Jy) h
   ·exact AJ trivial h
  ·exact AJ trivial h
 ·exact AJ trivial h
theorem J2 (a0 r) (h:D1 a0=some r):AC Tryz.prog 4 [.agg (Service.avs a0)] (.bool r):=by
 unfold D1 at h
 refine acF Tryz.func4 mixed (h:=Z ?_)
 replace h:=AD h; obtain⟨u,w,h⟩:=h
 refine AK (S4 _ _ _ w) (Z ?_)
 refine AL ?_
 refine AH h (fun h=>Z ?_) (fun h=>Z ?_)
 ·exact AJ trivial h
 ·refine AL ?_
  replace h:=AD h; obtain⟨y,q,h⟩:=h
  refine AK (Ja _ _ q) (Z ?_)
  replace h:=AD h; obtain⟨g,j,h⟩:=h
  refine AK (PQ _ _ j) (Z ?_)
  refine AL ?_
  replace h:=AD h; obtain⟨k,b,h⟩:=h
  refine AK (Ja _ _ b) (Z ?_)
  refine AL ?_
  replace h:=AD h; obtain⟨d,c,h⟩:=h
  refine AK (PX _ _ c) (Z ?_)
  refine AL ?_
  refine AH h (fun h=>Z ?_) (fun h=>Z ?_)
  ·exact AJ trivial h
  ·refine AL ?_
   refine Ah [] .fin (by kernel_rfl) (Z ?_)
   exact AJ (k2 Ja S9) h
end Go.Proofs.YtclmbjbbojdojaaGreat.Ab
