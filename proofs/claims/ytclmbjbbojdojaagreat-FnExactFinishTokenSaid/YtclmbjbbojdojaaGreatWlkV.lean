/-
 The functions do what their models say. Printed by wip/ab/gen.py.
-/
import Derived.Test.YtclmbjbbojdojaaGreatModV
import Derived.Test.YtclmbjbbojdojaaGreatTi2
import Derived.Test.YtclmbjbbojdojaaGreatWlkP
import Derived.Test.YtclmbjbbojdojaaGreatWlkI
namespace Go.Proofs.YtclmbjbbojdojaaGreat.Ab
set_option linter.unusedVariables false
set_option linter.unusedSimpArgs false
set_option maxRecDepth 20000
set_option maxHeartbeats 4000000
open Go.RowKit
theorem TP (a0 a1 r) (h:IF a0 a1=some r):AC Tryz.prog 282 [.ro (a0.map Address.ds),.int .i64 a1] (.int .i64 r):=by
 unfold IF at h
 refine acF Tryz.func282 mixed (h:=Z ?_)
 exact AF trivial h
theorem Lu (a0 a1 r) (h:FG a0 a1=some r):AC Tryz.prog 255 [.agg (ShardCell.avs a0),.int .i64 a1] (.int .i64 r):=by
 unfold FG at h
 refine acF Tryz.func255 mixed (h:=Z ?_)
 exact AF (k2 LC TP) h
theorem Nk (n:Nat):(∀a0 u w r,Cz n a0 u w=some r→Aa Tryz.prog Tryz.f252 [1,1,1,0,1,0] (.int .i64 r) ⟨[(0,.ro (a0.map ShardCell.ds)),(1,.int .i64 u),(5,.int .i64 w)],[],[]⟩):=by
 induction n with
 |zero=>exact((fun _ _ _ _ h=>by rw [Cz] at h; cases h))
 | succ n ih=>
  have ih0:=ih
  ·intro a0 u w r h
   rw [Cz] at h
   exact AF (k2 Lu ih0) h
theorem Q8 (a0 a1 r) (h:Gl a0 a1=some r):AC Tryz.prog 252 [.ro (a0.map ShardCell.ds),.int .i64 a1] (.int .i64 r):=by
 unfold Gl at h
 refine acF Tryz.func252 mixed (h:=Z ?_)
 exact AF (k1 Nk) h
theorem SI (a0 a1 r) (h:HL a0 a1=some r):AC Tryz.prog 253 [.ro (a0.map ShardVar.ds),.int .i64 a1] (.int .i64 r):=by
 unfold HL at h
 refine acF Tryz.func253 mixed (h:=Z ?_)
 exact AF trivial h
theorem Po (a0 a1 r) (h:GG a0 a1=some r):AC Tryz.prog 254 [.ro (a0.map ShardRedex.ds),.int .i64 a1] (.int .i64 r):=by
 unfold GG at h
 refine acF Tryz.func254 mixed (h:=Z ?_)
 exact AF trivial h
theorem Xx (a0 a1 r) (h:Jt a0 a1=some r):AC Tryz.prog 219 [.agg (Shard.avs a0),.int .i64 a1] (.int .i64 r):=by
 unfold Jt at h
 refine acF Tryz.func219 mixed (h:=Z ?_)
 exact AF (k3 Q8 SI Po) h
theorem SJ (n:Nat):(∀a0 u w r,FH n a0 u w=some r→Aa Tryz.prog Tryz.f155 [1,1,1,0,1,0] (.int .i64 r) ⟨[(0,.ro (a0.map Shard.ds)),(1,.int .i64 u),(5,.int .i64 w)],[],[]⟩):=by
 induction n with
 |zero=>exact((fun _ _ _ _ h=>by rw [FH] at h; cases h))
 | succ n ih=>
  have ih0:=ih
  ·intro a0 u w r h
   rw [FH] at h
   exact AF (k2 Xx ih0) h
theorem Vu (a0 a1 r) (h:KP a0 a1=some r):AC Tryz.prog 155 [.ro (a0.map Shard.ds),.int .i64 a1] (.int .i64 r):=by
 unfold KP at h
 refine acF Tryz.func155 mixed (h:=Z ?_)
 exact AF (k1 SJ) h
theorem Ze (a0 a1 r) (h:NL a0 a1=some r):AC Tryz.prog 97 [.agg (Grid.avs a0),.int .i64 a1] (.int .i64 r):=by
 unfold NL at h
 refine acF Tryz.func97 mixed (h:=Z ?_)
 exact AF (k1 Vu) h
theorem Vv (a0 a1 r) (h:Ip a0 a1=some r):AC Tryz.prog 220 [.agg (Parcel.avs a0),.int .i64 a1] (.int .i64 r):=by
 unfold Ip at h
 refine acF Tryz.func220 mixed (h:=Z ?_)
 exact AF (k1 Lu) h
theorem Q9 (n:Nat):(∀a0 u w r,EX n a0 u w=some r→Aa Tryz.prog Tryz.f156 [1,1,1,0,1,0] (.int .i64 r) ⟨[(0,.ro (a0.map Parcel.ds)),(1,.int .i64 u),(5,.int .i64 w)],[],[]⟩):=by
 induction n with
 |zero=>exact((fun _ _ _ _ h=>by rw [EX] at h; cases h))
 | succ n ih=>
  have ih0:=ih
  ·intro a0 u w r h
   rw [EX] at h
   exact AF (k2 Vv ih0) h
theorem VJ (a0 a1 r) (h:Hu a0 a1=some r):AC Tryz.prog 156 [.ro (a0.map Parcel.ds),.int .i64 a1] (.int .i64 r):=by
 unfold Hu at h
 refine acF Tryz.func156 mixed (h:=Z ?_)
 exact AF (k1 Q9) h
theorem Pp (n:Nat):(∀a0 u w r,Dz n a0 u w=some r→Aa Tryz.prog Tryz.f98 [1,1,1,0,1,0] (.int .i64 r) ⟨[(0,.ro (List.map (slD Parcel.ds) a0)),(1,.int .i64 u),(5,.int .i64 w)],[],[]⟩):=by
 induction n with
 |zero=>exact((fun _ _ _ _ h=>by rw [Dz] at h; cases h))
 | succ n ih=>
  have ih0:=ih
  ·intro a0 u w r h
   rw [Dz] at h
   exact AF (k2 VJ ih0) h
theorem TQ (a0 a1 r) (h:IG a0 a1=some r):AC Tryz.prog 98 [.ro (List.map (slD Parcel.ds) a0),.int .i64 a1] (.int .i64 r):=by
 unfold IG at h
 refine acF Tryz.func98 mixed (h:=Z ?_)
 exact AF (k1 Pp) h
theorem RA (n:Nat):(∀a0 u w r,EY n a0 u w=some r→Aa Tryz.prog Tryz.f99 [1,1,1,0,1,0] (.int .i64 r) ⟨[(0,.ro (List.map (slD AB) a0)),(1,.int .i64 u),(5,.int .i64 w)],[],[]⟩):=by
 induction n with
 |zero=>exact((fun _ _ _ _ h=>by rw [EY] at h; cases h))
 | succ n ih=>
  have ih0:=ih
  ·intro a0 u w r h
   rw [EY] at h
   exact AF (k2 LC ih0) h
theorem VK (a0 a1 r) (h:JI a0 a1=some r):AC Tryz.prog 99 [.ro (List.map (slD AB) a0),.int .i64 a1] (.int .i64 r):=by
 unfold JI at h
 refine acF Tryz.func99 mixed (h:=Z ?_)
 exact AF (k1 RA) h
theorem U5 (a0 a1 r) (h:I6 a0 a1=some r):AC Tryz.prog 44 [.agg (Cluster.avs a0),.int .i64 a1] (.int .i64 r):=by
 unfold I6 at h
 refine acF Tryz.func44 mixed (h:=Z ?_)
 exact AF (k4 Ze TQ VK LC) h
theorem Xm (a0 a1 r) (h:LZ a0 a1=some r):AC Tryz.prog 53 [.ro (a0.map BA),.int .i64 a1] (.int .i64 r):=by
 unfold LZ at h
 refine acF Tryz.func53 mixed (h:=Z ?_)
 exact AF trivial h
theorem Gv (a0 r) (h:Di a0=some r):AC Tryz.prog 161 [.agg (Address.avs a0)] (.agg (Address.rv r)):=by
 unfold Di at h
 refine acF Tryz.func161 mixed (h:=Z ?_)
 exact AF trivial h
theorem Pq (n:Nat):(∀a0 u w r,D0 n a0 u w=some r→Aa Tryz.prog Tryz.f288 [1,1,0,1,0] (.ow (some 3) (r.map Address.ds)) ⟨[(0,.ro (a0.map Address.ds)),(3,.own 1000001000),(4,.int .i64 w)],[(1000001000,some ⟨List.map Address.ds u,some 3,0,.no⟩)],[]⟩):=by
 induction n with
 |zero=>exact((fun _ _ _ _ h=>by rw [D0] at h; cases h))
 | succ n ih=>
  have ih0:=ih
  ·intro a0 u w r h
   rw [D0] at h
   refine Ah rfl rfl (Z ?_)
   refine Ae (Z ?_)
   refine AJ h (fun h=>Z ?_) (fun h=>Z ?_)
   ·refine AW ?_
    replace h:=AD h; obtain⟨y,q,h⟩:=h
    refine AO q (Address.ds_len _) (Z ?_)
    replace h:=AD h; obtain⟨g,j,h⟩:=h
    refine AY (Gv _ _ j) (Z ?_)
    replace h:=AD h; obtain⟨k,b,h⟩:=h
    refine AO b (Address.ds_len _) (Z ?_)
    replace h:=AD h; obtain⟨d,c,h⟩:=h
    refine Ai (AU b) (Z ?_)
    refine AP (d.map Address.ds) (by rw [← AL c]; simp only [List.map_set,go_sem,Address.ds_eq]) (Z ?_)
    exact AF (k1 ih0) h
   ·exact AF trivial h
theorem TR (a0 r) (h:II a0=some r):AC Tryz.prog 288 [.ro (a0.map Address.ds)] (.ow (some 3) (r.map Address.ds)):=by
 unfold II at h
 refine acF Tryz.func288 mixed (h:=Z ?_)
 replace h:=AD h; obtain⟨u,w,h⟩:=h
 have hq_:=D6 w
 obtain⟨hv2002a,hv2002b,hv2002c⟩:=hq_
 refine Ad (by refine⟨?_,?_,?_⟩ <;> omega) (Z ?_)
 refine BW .no (Z ?_)
 refine AP (u.map Address.ds) (by rw [← hv2002c]; simp only [List.map_replicate,go_sem,Address.ds_eq]) (Z ?_)
 exact AF (k1 Pq) h
theorem Lv (a0 r) (h:FI a0=some r):AC Tryz.prog 261 [.agg (ShardCell.avs a0)] (.agg (ShardCell.rv r)):=by
 unfold FI at h
 refine acF Tryz.func261 mixed (h:=Z ?_)
 exact AF (k2 LD TR) h
theorem Nl (n:Nat):(∀a0 u w r,C0 n a0 u w=some r→Aa Tryz.prog Tryz.f258 [1,1,0,1,0] (.ow (some 5) (r.map ShardCell.ds)) ⟨[(0,.ro (a0.map ShardCell.ds)),(3,.own 1000001000),(4,.int .i64 w)],[(1000001000,some ⟨List.map ShardCell.ds u,some 5,0,.no⟩)],[]⟩):=by
 induction n with
 |zero=>exact((fun _ _ _ _ h=>by rw [C0] at h; cases h))
 | succ n ih=>
  have ih0:=ih
  ·intro a0 u w r h
   rw [C0] at h
   refine Ah rfl rfl (Z ?_)
   refine Ae (Z ?_)
   refine AJ h (fun h=>Z ?_) (fun h=>Z ?_)
   ·refine AW ?_
    replace h:=AD h; obtain⟨y,q,h⟩:=h
    refine AO q (ShardCell.ds_len _) (Z ?_)
    replace h:=AD h; obtain⟨g,j,h⟩:=h
    refine AY (Lv _ _ j) (Z ?_)
    replace h:=AD h; obtain⟨k,b,h⟩:=h
    refine AO b (ShardCell.ds_len _) (Z ?_)
    replace h:=AD h; obtain⟨d,c,h⟩:=h
    refine Ai (AU b) (Z ?_)
    refine AP (d.map ShardCell.ds) (by rw [← AL c]; simp only [List.map_set,go_sem,ShardCell.ds_eq]) (Z ?_)
    exact AF (k1 ih0) h
   ·exact AF trivial h
theorem RB (a0 r) (h:Gm a0=some r):AC Tryz.prog 258 [.ro (a0.map ShardCell.ds)] (.ow (some 5) (r.map ShardCell.ds)):=by
 unfold Gm at h
 refine acF Tryz.func258 mixed (h:=Z ?_)
 replace h:=AD h; obtain⟨u,w,h⟩:=h
 have hq_:=D6 w
 obtain⟨hv2002a,hv2002b,hv2002c⟩:=hq_
 refine Ad (by refine⟨?_,?_,?_⟩ <;> omega) (Z ?_)
 refine BW .no (Z ?_)
 refine AP (u.map ShardCell.ds) (by rw [← hv2002c]; simp only [List.map_replicate,go_sem,ShardCell.ds_eq]) (Z ?_)
 exact AF (k1 Nl) h
theorem TS (a0 r) (h:IJ a0=some r):AC Tryz.prog 286 [.agg (ShardVar.avs a0)] (.agg (ShardVar.rv r)):=by
 unfold IJ at h
 refine acF Tryz.func286 mixed (h:=Z ?_)
 exact AF (k1 Gv) h
theorem OW (n:Nat):(∀a0 u w r,DL n a0 u w=some r→Aa Tryz.prog Tryz.f259 [1,1,0,1,0] (.ow (some 5) (r.map ShardVar.ds)) ⟨[(0,.ro (a0.map ShardVar.ds)),(3,.own 1000001000),(4,.int .i64 w)],[(1000001000,some ⟨List.map ShardVar.ds u,some 5,0,.no⟩)],[]⟩):=by
 induction n with
 |zero=>exact((fun _ _ _ _ h=>by rw [DL] at h; cases h))
 | succ n ih=>
  have ih0:=ih
  ·intro a0 u w r h
   rw [DL] at h
   refine Ah rfl rfl (Z ?_)
   refine Ae (Z ?_)
   refine AJ h (fun h=>Z ?_) (fun h=>Z ?_)
   ·refine AW ?_
    replace h:=AD h; obtain⟨y,q,h⟩:=h
    refine AO q (ShardVar.ds_len _) (Z ?_)
    replace h:=AD h; obtain⟨g,j,h⟩:=h
    refine AY (TS _ _ j) (Z ?_)
    replace h:=AD h; obtain⟨k,b,h⟩:=h
    refine AO b (ShardVar.ds_len _) (Z ?_)
    replace h:=AD h; obtain⟨d,c,h⟩:=h
    refine Ai (AU b) (Z ?_)
    refine AP (d.map ShardVar.ds) (by rw [← AL c]; simp only [List.map_set,go_sem,ShardVar.ds_eq]) (Z ?_)
    exact AF (k1 ih0) h
   ·exact AF trivial h
theorem SK (a0 r) (h:HM a0=some r):AC Tryz.prog 259 [.ro (a0.map ShardVar.ds)] (.ow (some 5) (r.map ShardVar.ds)):=by
 unfold HM at h
 refine acF Tryz.func259 mixed (h:=Z ?_)
 replace h:=AD h; obtain⟨u,w,h⟩:=h
 have hq_:=D6 w
 obtain⟨hv2002a,hv2002b,hv2002c⟩:=hq_
 refine Ad (by refine⟨?_,?_,?_⟩ <;> omega) (Z ?_)
 refine BW .no (Z ?_)
 refine AP (u.map ShardVar.ds) (by rw [← hv2002c]; simp only [List.map_replicate,go_sem,ShardVar.ds_eq]) (Z ?_)
 exact AF (k1 OW) h
theorem RC (a0 r) (h:Gn a0=some r):AC Tryz.prog 287 [.agg (ShardRedex.avs a0)] (.agg (ShardRedex.rv r)):=by
 unfold Gn at h
 refine acF Tryz.func287 mixed (h:=Z ?_)
 exact AF (k1 Gv) h
theorem Mp (n:Nat):(∀a0 u w r,Cg n a0 u w=some r→Aa Tryz.prog Tryz.f260 [1,1,0,1,0] (.ow (some 6) (r.map ShardRedex.ds)) ⟨[(0,.ro (a0.map ShardRedex.ds)),(3,.own 1000001000),(4,.int .i64 w)],[(1000001000,some ⟨List.map ShardRedex.ds u,some 6,0,.no⟩)],[]⟩):=by
 induction n with
 |zero=>exact((fun _ _ _ _ h=>by rw [Cg] at h; cases h))
 | succ n ih=>
  have ih0:=ih
  ·intro a0 u w r h
   rw [Cg] at h
   refine Ah rfl rfl (Z ?_)
   refine Ae (Z ?_)
   refine AJ h (fun h=>Z ?_) (fun h=>Z ?_)
   ·refine AW ?_
    replace h:=AD h; obtain⟨y,q,h⟩:=h
    refine AO q (ShardRedex.ds_len _) (Z ?_)
    replace h:=AD h; obtain⟨g,j,h⟩:=h
    refine AY (RC _ _ j) (Z ?_)
    replace h:=AD h; obtain⟨k,b,h⟩:=h
    refine AO b (ShardRedex.ds_len _) (Z ?_)
    replace h:=AD h; obtain⟨d,c,h⟩:=h
    refine Ai (AU b) (Z ?_)
    refine AP (d.map ShardRedex.ds) (by rw [← AL c]; simp only [List.map_set,go_sem,ShardRedex.ds_eq]) (Z ?_)
    exact AF (k1 ih0) h
   ·exact AF trivial h
theorem Pr (a0 r) (h:GH a0=some r):AC Tryz.prog 260 [.ro (a0.map ShardRedex.ds)] (.ow (some 6) (r.map ShardRedex.ds)):=by
 unfold GH at h
 refine acF Tryz.func260 mixed (h:=Z ?_)
 replace h:=AD h; obtain⟨u,w,h⟩:=h
 have hq_:=D6 w
 obtain⟨hv2002a,hv2002b,hv2002c⟩:=hq_
 refine Ad (by refine⟨?_,?_,?_⟩ <;> omega) (Z ?_)
 refine BW .no (Z ?_)
 refine AP (u.map ShardRedex.ds) (by rw [← hv2002c]; simp only [List.map_replicate,go_sem,ShardRedex.ds_eq]) (Z ?_)
 exact AF (k1 Mp) h
theorem Xy (a0 r) (h:Ju a0=some r):AC Tryz.prog 226 [.agg (Shard.avs a0)] (.agg (Shard.rv r)):=by
 unfold Ju at h
 refine acF Tryz.func226 mixed (h:=Z ?_)
 exact AF (k3 RB SK Pr) h
theorem SL (n:Nat):(∀a0 u w r,FJ n a0 u w=some r→Aa Tryz.prog Tryz.f160 [1,1,0,1,0] (.ow (some 3) (r.map Shard.ds)) ⟨[(0,.ro (a0.map Shard.ds)),(3,.own 1000001000),(4,.int .i64 w)],[(1000001000,some ⟨List.map Shard.ds u,some 3,0,.no⟩)],[]⟩):=by
 induction n with
 |zero=>exact((fun _ _ _ _ h=>by rw [FJ] at h; cases h))
 | succ n ih=>
  have ih0:=ih
  ·intro a0 u w r h
   rw [FJ] at h
   refine Ah rfl rfl (Z ?_)
   refine Ae (Z ?_)
   refine AJ h (fun h=>Z ?_) (fun h=>Z ?_)
   ·refine AW ?_
    replace h:=AD h; obtain⟨y,q,h⟩:=h
    refine AO q (Shard.ds_len _) (Z ?_)
    replace h:=AD h; obtain⟨g,j,h⟩:=h
    refine AY (Xy _ _ j) (Z ?_)
    replace h:=AD h; obtain⟨k,b,h⟩:=h
    refine AO b (Shard.ds_len _) (Z ?_)
    replace h:=AD h; obtain⟨d,c,h⟩:=h
    refine Ai (AU b) (Z ?_)
    refine AP (d.map Shard.ds) (by rw [← AL c]; simp only [List.map_set,go_sem,Shard.ds_eq]) (Z ?_)
    exact AF (k1 ih0) h
   ·exact AF trivial h
theorem Vw (a0 r) (h:KQ a0=some r):AC Tryz.prog 160 [.ro (a0.map Shard.ds)] (.ow (some 3) (r.map Shard.ds)):=by
 unfold KQ at h
 refine acF Tryz.func160 mixed (h:=Z ?_)
 replace h:=AD h; obtain⟨u,w,h⟩:=h
 have hq_:=D6 w
 obtain⟨hv2002a,hv2002b,hv2002c⟩:=hq_
 refine Ad (by refine⟨?_,?_,?_⟩ <;> omega) (Z ?_)
 refine BW .no (Z ?_)
 refine AP (u.map Shard.ds) (by rw [← hv2002c]; simp only [List.map_replicate,go_sem,Shard.ds_eq]) (Z ?_)
 exact AF (k1 SL) h
theorem Zf (a0 r) (h:NM a0=some r):AC Tryz.prog 106 [.agg (Grid.avs a0)] (.agg (Grid.rv r)):=by
 unfold NM at h
 refine acF Tryz.func106 mixed (h:=Z ?_)
 exact AF (k2 Vw Gv) h
theorem Vx (a0 r) (h:Iq a0=some r):AC Tryz.prog 227 [.agg (Parcel.avs a0)] (.agg (Parcel.rv r)):=by
 unfold Iq at h
 refine acF Tryz.func227 mixed (h:=Z ?_)
 exact AF (k2 Lv Gv) h
theorem RD (n:Nat):(∀a0 u w r,EZ n a0 u w=some r→Aa Tryz.prog Tryz.f162 [1,1,0,1,0] (.ow (some 12) (r.map Parcel.ds)) ⟨[(0,.ro (a0.map Parcel.ds)),(3,.own 1000001000),(4,.int .i64 w)],[(1000001000,some ⟨List.map Parcel.ds u,some 12,0,.no⟩)],[]⟩):=by
 induction n with
 |zero=>exact((fun _ _ _ _ h=>by rw [EZ] at h; cases h))
 | succ n ih=>
  have ih0:=ih
  ·intro a0 u w r h
   rw [EZ] at h
   refine Ah rfl rfl (Z ?_)
   refine Ae (Z ?_)
   refine AJ h (fun h=>Z ?_) (fun h=>Z ?_)
   ·refine AW ?_
    replace h:=AD h; obtain⟨y,q,h⟩:=h
    refine AO q (Parcel.ds_len _) (Z ?_)
    replace h:=AD h; obtain⟨g,j,h⟩:=h
    refine AY (Vx _ _ j) (Z ?_)
    replace h:=AD h; obtain⟨k,b,h⟩:=h
    refine AO b (Parcel.ds_len _) (Z ?_)
    replace h:=AD h; obtain⟨d,c,h⟩:=h
    refine Ai (AU b) (Z ?_)
    refine AP (d.map Parcel.ds) (by rw [← AL c]; simp only [List.map_set,go_sem,Parcel.ds_eq]) (Z ?_)
    exact AF (k1 ih0) h
   ·exact AF trivial h
theorem VL (a0 r) (h:Hv a0=some r):AC Tryz.prog 162 [.ro (a0.map Parcel.ds)] (.ow (some 12) (r.map Parcel.ds)):=by
 unfold Hv at h
 refine acF Tryz.func162 mixed (h:=Z ?_)
 replace h:=AD h; obtain⟨u,w,h⟩:=h
 have hq_:=D6 w
 obtain⟨hv2002a,hv2002b,hv2002c⟩:=hq_
 refine Ad (by refine⟨?_,?_,?_⟩ <;> omega) (Z ?_)
 refine BW .no (Z ?_)
 refine AP (u.map Parcel.ds) (by rw [← hv2002c]; simp only [List.map_replicate,go_sem,Parcel.ds_eq]) (Z ?_)
 exact AF (k1 RD) h
theorem Ps (n:Nat):(∀a0 u w r,D1 n a0 u w=some r→Aa Tryz.prog Tryz.f107 [1,1,0,1,0] (.ow (some 1) (List.map (slD Parcel.ds) r)) ⟨[(0,.ro (List.map (slD Parcel.ds) a0)),(3,.own 1000001000),(4,.int .i64 w)],[(1000001000,some ⟨List.map (slD Parcel.ds) u,some 1,0,.no⟩)],[]⟩):=by
 induction n with
 |zero=>exact((fun _ _ _ _ h=>by rw [D1] at h; cases h))
 | succ n ih=>
  have ih0:=ih
  ·intro a0 u w r h
   rw [D1] at h
   refine Ah rfl rfl (Z ?_)
   refine Ae (Z ?_)
   refine AJ h (fun h=>Z ?_) (fun h=>Z ?_)
   ·refine AW ?_
    replace h:=AD h; obtain⟨y,q,h⟩:=h
    refine AO q rfl (Z ?_)
    replace h:=AD h; obtain⟨g,j,h⟩:=h
    refine AY (VL _ _ j) (Z ?_)
    replace h:=AD h; obtain⟨k,b,h⟩:=h
    refine AO b rfl (Z ?_)
    replace h:=AD h; obtain⟨d,c,h⟩:=h
    refine Ai (AU b) (Z ?_)
    refine AP (List.map (slD Parcel.ds) d) (by rw [← AL c]; simp only [List.map_set,go_sem,slD]) (Z ?_)
    exact AF (k1 ih0) h
   ·exact AF trivial h
theorem TT (a0 r) (h:IK a0=some r):AC Tryz.prog 107 [.ro (List.map (slD Parcel.ds) a0)] (.ow (some 1) (List.map (slD Parcel.ds) r)):=by
 unfold IK at h
 refine acF Tryz.func107 mixed (h:=Z ?_)
 replace h:=AD h; obtain⟨u,w,h⟩:=h
 have hq_:=D6 w
 obtain⟨hv2002a,hv2002b,hv2002c⟩:=hq_
 refine Ad (by refine⟨?_,?_,?_⟩ <;> omega) (Z ?_)
 refine BW .no (Z ?_)
 refine AP (List.map (slD Parcel.ds) u) (by rw [← hv2002c]; simp only [List.map_replicate,go_sem,slD]) (Z ?_)
 exact AF (k1 Ps) h
theorem RE (n:Nat):(∀a0 u w r,Ea n a0 u w=some r→Aa Tryz.prog Tryz.f108 [1,1,0,1,0] (.ow (some 1) (List.map (slD AB) r)) ⟨[(0,.ro (List.map (slD AB) a0)),(3,.own 1000001000),(4,.int .i64 w)],[(1000001000,some ⟨List.map (slD AB) u,some 1,0,.no⟩)],[]⟩):=by
 induction n with
 |zero=>exact((fun _ _ _ _ h=>by rw [Ea] at h; cases h))
 | succ n ih=>
  have ih0:=ih
  ·intro a0 u w r h
   rw [Ea] at h
   refine Ah rfl rfl (Z ?_)
   refine Ae (Z ?_)
   refine AJ h (fun h=>Z ?_) (fun h=>Z ?_)
   ·refine AW ?_
    replace h:=AD h; obtain⟨y,q,h⟩:=h
    refine AO q rfl (Z ?_)
    replace h:=AD h; obtain⟨g,j,h⟩:=h
    refine AY (LD _ _ j) (Z ?_)
    replace h:=AD h; obtain⟨k,b,h⟩:=h
    refine AO b rfl (Z ?_)
    replace h:=AD h; obtain⟨d,c,h⟩:=h
    refine Ai (AU b) (Z ?_)
    refine AP (List.map (slD AB) d) (by rw [← AL c]; simp only [List.map_set,go_sem,slD]) (Z ?_)
    exact AF (k1 ih0) h
   ·exact AF trivial h
theorem VM (a0 r) (h:JJ a0=some r):AC Tryz.prog 108 [.ro (List.map (slD AB) a0)] (.ow (some 1) (List.map (slD AB) r)):=by
 unfold JJ at h
 refine acF Tryz.func108 mixed (h:=Z ?_)
 replace h:=AD h; obtain⟨u,w,h⟩:=h
 have hq_:=D6 w
 obtain⟨hv2002a,hv2002b,hv2002c⟩:=hq_
 refine Ad (by refine⟨?_,?_,?_⟩ <;> omega) (Z ?_)
 refine BW .no (Z ?_)
 refine AP (List.map (slD AB) u) (by rw [← hv2002c]; simp only [List.map_replicate,go_sem,slD]) (Z ?_)
 exact AF (k1 RE) h
theorem U7 (a0 r) (h:I8 a0=some r):AC Tryz.prog 47 [.agg (Cluster.avs a0)] (.agg (Cluster.rv r)):=by
 unfold I8 at h
 refine acF Tryz.func47 mixed (h:=Z ?_)
 exact AF (k4 Zf TT VM LD) h
theorem TU (n:Nat):(∀a0 u w r,F6 n a0 u w=some r→Aa Tryz.prog Tryz.f60 [1,1,0,1,0] (.ow (some 1) (r.map BA)) ⟨[(0,.ro (a0.map BA)),(3,.own 1000001000),(4,.int .i64 w)],[(1000001000,some ⟨List.map BA u,some 1,0,.no⟩)],[]⟩):=by
 induction n with
 |zero=>exact((fun _ _ _ _ h=>by rw [F6] at h; cases h))
 | succ n ih=>
  have ih0:=ih
  ·intro a0 u w r h
   rw [F6] at h
   refine Ah rfl rfl (Z ?_)
   refine Ae (Z ?_)
   refine AJ h (fun h=>Z ?_) (fun h=>Z ?_)
   ·refine AW ?_
    replace h:=AD h; obtain⟨y,q,h⟩:=h
    refine AO q rfl (Z ?_)
    replace h:=AD h; obtain⟨g,j,h⟩:=h
    refine AO j rfl (Z ?_)
    replace h:=AD h; obtain⟨k,b,h⟩:=h
    refine Ai (AU j) (Z ?_)
    refine AP (k.map BA) (by rw [← AL b]; simp only [List.map_set,go_sem,slD]) (Z ?_)
    exact AF (k1 ih0) h
   ·exact AF trivial h
theorem Xp (a0 r) (h:Lb a0=some r):AC Tryz.prog 60 [.ro (a0.map BA)] (.ow (some 1) (r.map BA)):=by
 unfold Lb at h
 refine acF Tryz.func60 mixed (h:=Z ?_)
 replace h:=AD h; obtain⟨u,w,h⟩:=h
 have hq_:=D6 w
 obtain⟨hv2002a,hv2002b,hv2002c⟩:=hq_
 refine Ad (by refine⟨?_,?_,?_⟩ <;> omega) (Z ?_)
 refine BW .no (Z ?_)
 refine AP (u.map BA) (by rw [← hv2002c]; simp only [List.map_replicate,go_sem,slD]) (Z ?_)
 exact AF (k1 TU) h
theorem Ib (n:Nat):(∀ (a0:List (List Parcel)) (u:Int) (f1:((List Parcel)→Option Bool)) (g1:FuncId) (c1:List AV) (s1:Still c1) (h1:∀ (y0:List Parcel) (q:Bool),f1 y0=some q→AC Tryz.prog g1 (fnA c1 [.ro (y0.map Parcel.ds)]) (.bool q)) (r:Int),A1 n a0 u f1=some r→Aa Tryz.prog Tryz.f176 [1,0,1,0] (.int .i64 r) ⟨[(0,.ro (List.map (slD Parcel.ds) a0)),(1,.fn g1 c1),(7,.int .i64 (a0.length:Int)),(8,.int .i64 u)],[],[]⟩):=by
 induction n with
 |zero=>exact((fun _ _ _ _ _ _ _ _ h=>by rw [A1] at h; cases h))
 | succ n ih=>
  have ih0:=ih
  ·intro a0 u f1 g1 c1 s1 h1 r h
   rw [A1] at h
   refine Ah rfl rfl ?_
   try simp only [go_sem,s1.k,s1.r,s1.c,s1.p,s1.o,s1.f]
   refine Ae ?_
   try simp only [go_sem,s1.k,s1.r,s1.c,s1.p,s1.o,s1.f]
   refine AJ h (fun h=>?_) (fun h=>?_)
   ·try simp only [go_sem,s1.k,s1.r,s1.c,s1.p,s1.o,s1.f]
    refine Bv ?_
    try simp only [go_sem,s1.k,s1.r,s1.c,s1.p,s1.o,s1.f]
    replace h:=AD h; obtain⟨w,y,h⟩:=h
    refine AO y rfl ?_
    try simp only [go_sem,s1.k,s1.r,s1.c,s1.p,s1.o,s1.f]
    replace h:=AD h; obtain⟨g,j,h⟩:=h
    refine AY (h1 _ _ j) ?_
    try simp only [go_sem,s1.k,s1.r,s1.c,s1.p,s1.o,s1.f]
    refine Bv ?_
    try simp only [go_sem,s1.k,s1.r,s1.c,s1.p,s1.o,s1.f]
    refine AJ h (fun h=>?_) (fun h=>?_)
    ·try simp only [go_sem,s1.k,s1.r,s1.c,s1.p,s1.o,s1.f]
     cases h
     simp only [go_sem,s1.k,s1.r,s1.c,s1.p,s1.o,s1.f]
    ·try simp only [go_sem,s1.k,s1.r,s1.c,s1.p,s1.o,s1.f]
     refine Bv ?_
     try simp only [go_sem,s1.k,s1.r,s1.c,s1.p,s1.o,s1.f]
     refine QU (CH rfl rfl (ih0 a0 (IntKind.i64.wrap (u+1)) f1 g1 c1 s1 h1 _ h):) (.one ⟨_,.done _,[],[],?_⟩)
     try simp only [go_sem,s1.k,s1.r,s1.c,s1.p,s1.o,s1.f]
   ·try simp only [go_sem,s1.k,s1.r,s1.c,s1.p,s1.o,s1.f]
    refine Bv ?_
    try simp only [go_sem,s1.k,s1.r,s1.c,s1.p,s1.o,s1.f]
    cases h
    simp only [go_sem,s1.k,s1.r,s1.c,s1.p,s1.o,s1.f]
theorem JX (a0:List (List Parcel)) (f1:((List Parcel)→Option Bool)) (g1:FuncId) (c1:List AV) (s1:Still c1) (h1:∀ (y0:List Parcel) (q:Bool),f1 y0=some q→AC Tryz.prog g1 (fnA c1 [.ro (y0.map Parcel.ds)]) (.bool q)) (r:Int) (h:Ej a0 f1=some r):AC Tryz.prog 176 [.ro (List.map (slD Parcel.ds) a0),.fn g1 c1] (.int .i64 r):=by
 unfold Ej at h
 refine acF Tryz.func176 mixed (h:=?_)
 try simp only [go_sem,s1.k,s1.r,s1.c,s1.p,s1.o,s1.f]
 refine CX (CH rfl rfl (Ib fuel a0 0 f1 g1 c1 s1 h1 _ h):) (.one ⟨_,.done _,[],[],?_⟩)
 try simp only [go_sem,s1.k,s1.r,s1.c,s1.p,s1.o,s1.f]
theorem Ic (a0:List (List Parcel)) (f1:((List Parcel)→Option Bool)) (g1:FuncId) (c1:List AV) (s1:Still c1) (h1:∀ (y0:List Parcel) (q:Bool),f1 y0=some q→AC Tryz.prog g1 (fnA c1 [.ro (y0.map Parcel.ds)]) (.bool q)) (r:Bool) (h:Ca a0 f1=some r):AC Tryz.prog 118 [.ro (List.map (slD Parcel.ds) a0),.fn g1 c1] (.bool r):=by
 unfold Ca at h
 refine acF Tryz.func118 mixed (h:=?_)
 try simp only [go_sem,s1.k,s1.r,s1.c,s1.p,s1.o,s1.f]
 replace h:=AD h; obtain⟨u,w,h⟩:=h
 refine AY (JX _ _ g1 c1 s1 h1 _ w) ?_
 try simp only [go_sem,s1.k,s1.r,s1.c,s1.p,s1.o,s1.f]
 refine Bv ?_
 try simp only [go_sem,s1.k,s1.r,s1.c,s1.p,s1.o,s1.f]
 cases h
 simp only [go_sem,s1.k,s1.r,s1.c,s1.p,s1.o,s1.f]
theorem a5 (a0 r) (h:Qc a0=some r):AC Tryz.prog 177 [.bool a0] (.int .i64 r):=by
 unfold Qc at h
 refine acF Tryz.func177 mixed (h:=Z ?_)
 exact AF trivial h
theorem TV (n:Nat):(∀a0 u w r,E1 n a0 u w=some r→Aa Tryz.prog Tryz.f120 [1,1,0,1,0] (.int .i64 r) ⟨[(3,.int .i64 u),(6,.ro (a0.map Parcel.ds)),(7,.int .i64 (a0.length:Int)),(8,.int .i64 w)],[],[]⟩):=by
 induction n with
 |zero=>exact((fun _ _ _ _ h=>by rw [E1] at h; cases h))
 | succ n ih=>
  have ih0:=ih
  ·intro a0 u w r h
   rw [E1] at h
   exact AF (k2 a5 ih0) h
theorem Qt (a0 r) (h:Lc a0=some r):AC Tryz.prog 120 [.ro (a0.map Parcel.ds)] (.int .i64 r):=by
 unfold Lc at h
 refine acF Tryz.func120 mixed (h:=Z ?_)
 exact AF (k1 TV) h
theorem Km (a0 r) (h:ED a0=some r):AC Tryz.prog 119 [.ro (a0.map Parcel.ds)] (.bool r):=by
 unfold ED at h
 refine acF Tryz.func119 mixed (h:=Z ?_)
 exact AF (k1 Qt) h
theorem Lo (a0 r) (h:Dc a0=some r):AC Tryz.prog 50 [.rop (Cluster.avs a0) 0] (.bool r):=by
 unfold Dc at h
 refine acF Tryz.func50 mixed (h:=Z ?_)
 replace h:=AD h; obtain⟨u,w,h⟩:=h
 refine AY (Ic _ _ 119 [] (Still.of rfl) (fun y0 q hq=>Km y0  q hq) _ w) (Z ?_)
 exact AF trivial h
end Go.Proofs.YtclmbjbbojdojaaGreat.Ab
