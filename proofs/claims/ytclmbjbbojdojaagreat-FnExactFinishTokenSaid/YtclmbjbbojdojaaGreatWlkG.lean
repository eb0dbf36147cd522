/-
 The functions do what their models say. Printed by wip/ab/gen.py.
-/
import Derived.Test.YtclmbjbbojdojaaGreatModG
import Derived.Test.YtclmbjbbojdojaaGreatTi2
import Derived.Test.YtclmbjbbojdojaaGreatWlkY
namespace Go.Proofs.YtclmbjbbojdojaaGreat.Ab
set_option linter.defProp false
set_option linter.unusedVariables false
set_option linter.unusedSimpArgs false
set_option maxRecDepth 20000
set_option maxHeartbeats 4000000
open Go.RowKit
@[go_sem] def tkG0 (b:Nat) (x0:List Agent) (x1:List Port) (x2:List (List Int)) (x3:List (List Int)) (x4:List (List Int)) (x5:List (List Int)):List (Nat×Tok):=[(b,⟨List.map Agent.ds x0,some 5,0,.no⟩),(b+1,⟨List.map Port.ds x1,some 2,0,.no⟩),(b+2,⟨List.map (slD AB) x2,some 1,0,.no⟩),(b+3,⟨List.map (slD AB) x3,some 1,0,.no⟩),(b+4,⟨List.map (snD AB) x4,some 1,0,.nl⟩),(b+5,⟨List.map (slD AB) x5,some 1,0,.no⟩)]
@[go_sem] def tkG1 (b:Nat) (x0:List Agent) (x1:List Port) (x2:List (List Int)) (x3:List (List Int)) (x4:List (List Int)) (x5:List (List Int)) (x6:List Int):List (Nat×Tok):=[(b,⟨List.map Agent.ds x0,some 5,0,.no⟩),(b+1,⟨List.map Port.ds x1,some 2,0,.no⟩),(b+2,⟨List.map (slD AB) x2,some 1,0,.no⟩),(b+3,⟨List.map (slD AB) x3,some 1,0,.no⟩),(b+4,⟨List.map (snD AB) x4,some 1,0,.nl⟩),(b+5,⟨List.map (slD AB) x5,some 1,0,.no⟩),(b+6,⟨List.map AB x6,some 1,0,.no⟩)]
@[go_sem] def tkG2 (b:Nat) (x0:List Agent) (x1:List Port) (x2:List (List Int)) (x3:List (List Int)) (x4:List (List Int)) (x5:List (List Int)):List (Nat×Option Tok):=[(b,some ⟨List.map Agent.ds x0,some 5,0,.no⟩),(b+1,some ⟨List.map Port.ds x1,some 2,0,.no⟩),(b+2,some ⟨List.map (slD AB) x2,some 1,0,.no⟩),(b+3,some ⟨List.map (slD AB) x3,some 1,0,.no⟩),(b+4,some ⟨List.map (snD AB) x4,some 1,0,.nl⟩),(b+5,some ⟨List.map (slD AB) x5,some 1,0,.no⟩)]
@[go_sem] def tkG3 (b:Nat) (x0:List Agent) (x1:List Port) (x2:List (List Int)) (x3:List (List Int)) (x4:List (List Int)) (x5:List (List Int)) (x6:List Int):List (Nat×Option Tok):=[(b,some ⟨List.map Agent.ds x0,some 5,0,.no⟩),(b+1,some ⟨List.map Port.ds x1,some 2,0,.no⟩),(b+2,some ⟨List.map (slD AB) x2,some 1,0,.no⟩),(b+3,some ⟨List.map (slD AB) x3,some 1,0,.no⟩),(b+4,some ⟨List.map (snD AB) x4,some 1,0,.nl⟩),(b+5,some ⟨List.map (slD AB) x5,some 1,0,.no⟩),(b+6,some ⟨List.map AB x6,some 1,0,.no⟩)]
@[go_sem] def tkG4 (b:Nat):List AV:=[.own b,.own (b+1),.own (b+2),.own (b+3),.own (b+4),.own (b+5)]
theorem Ot (a0 r) (h:In a0=some r):AC Tryz.prog 283 [.rop (ShardCell.avs a0) 0] (.agg (Agent.rv r)):=by
 unfold In at h
 refine acF Tryz.func283 mixed (h:=Z ?_)
 refine AW ?_
 refine CT [false,false,false,false,false,false,false,false,false,false,false,false,false,false,false,false,false,false,false,false,false,false,false,false,false,true] (Tr.sq [25] .fin) (by kernel_rfl) (Z ?_)
 replace h:=AD h; obtain⟨u,w,h⟩:=h
 refine AY (K1 _ _ w) (Z ?_)
 replace h:=AD h; obtain⟨y,q,h⟩:=h
 have hq_:=D6 q
 obtain⟨hv2023a,hv2023b,hv2023c⟩:=hq_
 refine Ad (by refine⟨?_,?_,?_⟩ <;> omega) (Z ?_)
 refine BW .no (Z ?_)
 refine AP (y.map Port.ds) (by rw [← hv2023c]; simp only [List.map_replicate,go_sem,Port.ds_eq]) (Z ?_)
 exact AF trivial h
theorem Na (a0 r) (h:Hq a0=some r):AC Tryz.prog 256 [.rop (ShardCell.avs a0) 0] (.bool r):=by
 unfold Hq at h
 refine acF Tryz.func256 mixed (h:=Z ?_)
 exact AF (k2 Ot Vl) h
theorem ON (n:Nat):(∀a0 u r,Ay n a0 u=some r→Aa Tryz.prog Tryz.f222 [1,1,1,0,1,0] (.bool r) ⟨[(0,.rop (Grid.avs a0) 0),(3,.box 1000010500 0),(4,.int .i64 u)],[],[(1000010500,some [.int .i64 0,.int .i64 0,.int .i64 0])]⟩)∧
    (∀a0 u w y r,C6 n a0 u w y=some r→Aa Tryz.prog Tryz.f222 [1,1,1,0,1,0,0,1,0,0,1,0,1] (.bool r) ⟨[(0,.rop (Grid.avs a0) 0),(3,.box 1000011500 0),(4,.int .i64 u),(5,.rop (Shard.avs w) 0),(53,.bool y)],[],[(1000011500,some [.int .i64 0,.int .i64 0,.int .i64 0])]⟩)∧
    (∀a0 u w q r,BP n a0 u w q=some r→Aa Tryz.prog Tryz.f222 [1,1,1,0,1,0,0,1,0,0,1,1,0,1,0] (.bool r) ⟨[(0,.rop (Grid.avs a0) 0),(3,.box 1000017500 0),(4,.int .i64 u),(5,.rop (Shard.avs w) 0),(6,.int .i64 q)],[],[(1000017500,some [.int .i64 0,.int .i64 0,.int .i64 0])]⟩)∧
    (∀a0 u w g r,BQ n a0 u w g=some r→Aa Tryz.prog Tryz.f222 [1,1,1,0,1,0,0,1,0,0,1,1,1,1,0] (.bool r) ⟨[(0,.rop (Grid.avs a0) 0),(3,.box 1000018500 0),(4,.int .i64 u),(5,.rop (Shard.avs w) 0),(7,.int .i64 g)],[],[(1000018500,some [.int .i64 0,.int .i64 0,.int .i64 0])]⟩)∧
    (∀a0 u g w j r,CF n a0 u g w j=some r→Aa Tryz.prog Tryz.f222 [1,1,1,0,1,0,0,1,0,0,1,1,1,1,0,0,1,0,0,1,1] (.bool r) ⟨[(0,.rop (Grid.avs a0) 0),(3,.box 1000019500 0),(4,.int .i64 u),(5,.rop (Shard.avs w) 0),(7,.int .i64 g),(104,.bool j)],[],[(1000019500,some [.int .i64 0,.int .i64 0,.int .i64 0])]⟩):=by
 induction n with
 |zero=>exact⟨(fun _ _ _ h=>by rw [Ay] at h; cases h),(fun _ _ _ _ _ h=>by rw [C6] at h; cases h),(fun _ _ _ _ _ h=>by rw [BP] at h; cases h),(fun _ _ _ _ _ h=>by rw [BQ] at h; cases h),(fun _ _ _ _ _ _ h=>by rw [CF] at h; cases h)⟩
 | succ n ih=>
  obtain⟨ih0,ih1,ih2,ih3,ih4⟩:=ih
  refine⟨?_,?_,?_,?_,?_⟩
  ·intro a0 u r h
   rw [Ay] at h
   exact AF (k1 ih1) h
  ·intro a0 u w y r h
   rw [C6] at h
   exact AF (k1 ih2) h
  ·intro a0 u w q r h
   rw [BP] at h
   exact AF (k3 Na ih2 ih3) h
  ·intro a0 u w g r h
   rw [BQ] at h
   exact AF (k2 ih4 ih0) h
  ·intro a0 u g w j r h
   rw [CF] at h
   exact AF (k1 ih3) h
def PU (n:Nat):=(ON n).1
theorem VB (a0 r) (h:JD a0=some r):AC Tryz.prog 222 [.rop (Grid.avs a0) 0] (.bool r):=by
 unfold JD at h
 refine acF Tryz.func222 mixed (h:=Z ?_)
 exact AF (k2 D5 PU) h
theorem PV (n:Nat):(∀a0 a1 u r,Du n a0 a1 u=some r→Aa Tryz.prog Tryz.f223 [1,1,0,1,0] (.bool r) ⟨[(0,.ro (a0.map AB)),(1,.int .i64 a1),(5,.int .i64 u)],[],[]⟩):=by
 induction n with
 |zero=>exact((fun _ _ _ _ h=>by rw [Du] at h; cases h))
 | succ n ih=>
  have ih0:=ih
  ·intro a0 a1 u r h
   rw [Du] at h
   exact AF (k2 D5 ih0) h
theorem MZ (a0 a1 r) (h:Fx a0 a1=some r):AC Tryz.prog 223 [.ro (a0.map AB),.int .i64 a1] (.bool r):=by
 unfold Fx at h
 refine acF Tryz.func223 mixed (h:=Z ?_)
 exact AF (k1 PV) h
theorem S9 (n:Nat):(∀a0 a1 u r,G1 n a0 a1 u=some r→Aa Tryz.prog Tryz.f284 [1,1,0,1,0] (.bool r) ⟨[(0,.ro (a0.map AB)),(1,.ro (a1.map AB)),(5,.int .i64 u)],[],[]⟩):=by
 induction n with
 |zero=>exact((fun _ _ _ _ h=>by rw [G1] at h; cases h))
 | succ n ih=>
  have ih0:=ih
  ·intro a0 a1 u r h
   rw [G1] at h
   exact AF (k1 ih0) h
theorem Xr (a0 a1 r) (h:Lf a0 a1=some r):AC Tryz.prog 284 [.ro (a0.map AB),.ro (a1.map AB)] (.bool r):=by
 unfold Lf at h
 refine acF Tryz.func284 mixed (h:=Z ?_)
 exact AF (k1 S9) h
theorem LH (n:Nat):(∀a0 a1 u r,CS n a0 a1 u=some r→Aa Tryz.prog Tryz.f285 [1,1,0,1,0] (.bool r) ⟨[(0,.ro (a0.map Address.ds)),(1,.ro (a1.map Address.ds)),(5,.int .i64 u)],[],[]⟩):=by
 induction n with
 |zero=>exact((fun _ _ _ _ h=>by rw [CS] at h; cases h))
 | succ n ih=>
  have ih0:=ih
  ·intro a0 a1 u r h
   rw [CS] at h
   exact AF (k1 ih0) h
theorem Mi (a0 a1 r) (h:ES a0 a1=some r):AC Tryz.prog 285 [.ro (a0.map Address.ds),.ro (a1.map Address.ds)] (.bool r):=by
 unfold ES at h
 refine acF Tryz.func285 mixed (h:=Z ?_)
 exact AF (k1 LH) h
theorem R9 (a0 a1 r) (h:HI a0 a1=some r):AC Tryz.prog 257 [.rop (ShardCell.avs a0) 0,.rop (ShardCell.avs a1) 0] (.bool r):=by
 unfold HI at h
 refine acF Tryz.func257 mixed (h:=Z ?_)
 exact AF (k2 Xr Mi) h
theorem VC (a0 a1 r) (h:JE a0 a1=some r):AC Tryz.prog 225 [.rop (Parcel.avs a0) 0,.int .i64 a1] (.bool r):=by
 unfold JE at h
 refine acF Tryz.func225 mixed (h:=Z ?_)
 exact AF (k2 R9 Na) h
theorem PW (n:Nat):(∀a0 u r,BT n a0 u=some r→Aa Tryz.prog Tryz.f179 [1,1,1,1,0,1,0] (.bool r) ⟨[(0,.rop (Cluster.avs a0) 0),(3,.int .i64 (a0.grid.shards.length:Int)),(5,.int .i64 u)],[],[]⟩)∧
    (∀a0 u w r,CU n a0 u w=some r→Aa Tryz.prog Tryz.f179 [1,1,1,1,0,1,0,0,1,0,0,1,1,0] (.bool r) ⟨[(0,.rop (Cluster.avs a0) 0),(3,.int .i64 (a0.grid.shards.length:Int)),(5,.int .i64 u),(6,.int .i64 w)],[],[]⟩):=by
 induction n with
 |zero=>exact⟨(fun _ _ _ h=>by rw [BT] at h; cases h),(fun _ _ _ _ h=>by rw [CU] at h; cases h)⟩
 | succ n ih=>
  obtain⟨ih0,ih1⟩:=ih
  refine⟨?_,?_⟩
  ·intro a0 u r h
   rw [BT] at h
   exact AF (k1 ih1) h
  ·intro a0 u w r h
   rw [CU] at h
   refine Ah rfl rfl (Z ?_)
   refine Ae (Z ?_)
   replace h:=AD h; obtain⟨g,j,h⟩:=h
   refine AO j rfl (Z ?_)
   refine AJ h (fun h=>Z ?_) (fun h=>Z ?_)
   ·refine AW ?_
    refine CT [] .fin (by kernel_rfl) (Z ?_)
    replace h:=AD h; obtain⟨k,b,h⟩:=h
    refine AO b rfl (Z ?_)
    replace h:=AD h; obtain⟨d,c,h⟩:=h
    refine AO c (Parcel.ds_len _) (Z ?_)
    replace h:=AD h; obtain⟨e,i,h⟩:=h
    refine Ad (XM i) (Z ?_)
    exact AF (k2 VC ih1) h
   ·exact AF (k1 ih0) h
def Qw (n:Nat):=(PW n).1
theorem PX (n:Nat):(∀a0 u r,B1 n a0 u=some r→Aa Tryz.prog Tryz.f179 [1,1,1,0,1,0] (.bool r) ⟨[(0,.rop (Cluster.avs a0) 0),(3,.int .i64 (a0.grid.shards.length:Int)),(4,.int .i64 u)],[],[]⟩)∧
    (∀a0 u w r,ET n a0 u w=some r→Aa Tryz.prog Tryz.f179 [1,1,1,0,1,0,0,1,0,0,1] (.bool r) ⟨[(0,.rop (Cluster.avs a0) 0),(3,.int .i64 (a0.grid.shards.length:Int)),(4,.int .i64 u),(84,.bool w)],[],[]⟩):=by
 induction n with
 |zero=>exact⟨(fun _ _ _ h=>by rw [B1] at h; cases h),(fun _ _ _ _ h=>by rw [ET] at h; cases h)⟩
 | succ n ih=>
  obtain⟨ih0,ih1⟩:=ih
  refine⟨?_,?_⟩
  ·intro a0 u r h
   rw [B1] at h
   exact AF (k3 MZ ih1 Qw) h
  ·intro a0 u w r h
   rw [ET] at h
   exact AF (k1 ih0) h
def Qx (n:Nat):=(PX n).1
theorem Qy (a0:Cluster) (u:Bool) (r:Bool) (h:CV a0 u=some r):Aa Tryz.prog Tryz.f179 [1,1,0,1] (.bool r) ⟨[(0,.rop (Cluster.avs a0) 0),(3,.int .i64 (a0.grid.shards.length:Int)),(55,.bool u)],[],[]⟩:=by
 unfold CV at h
 exact AF (k1 Qx) h
theorem VD (a0 r) (h:JF a0=some r):AC Tryz.prog 179 [.rop (Cluster.avs a0) 0] (.bool r):=by
 unfold JF at h
 refine acF Tryz.func179 mixed (h:=Z ?_)
 exact AF (k3 VB Qy MZ) h
theorem Mj (n:Nat):(∀a0 a1 u w r,B3 n a0 a1 u w=some r→Dl Tryz.prog Tryz.f267 [1,1,1,0,1,0] (.int .i64 r.1) (tkG0 1501 r.2.agents r.2.ports r.2.cells r.2.vars r.2.ends r.2.pairs) [(1,(tkG4 1501))] ⟨[(0,.box 1 0),(1,.rop (ShardCell.avs a1) 0),(5,.int .i64 (a0.ports.length:Int)),(6,.int .i64 w)],(tkG2 1000001000 a0.agents u a0.cells a0.vars a0.ends a0.pairs),[(1,some (tkG4 1000001000))]⟩):=by
 induction n with
 |zero=>exact((fun _ _ _ _ _ h=>by rw [B3] at h; cases h))
 | succ n ih=>
  have ih0:=ih
  ·intro a0 a1 u w r h
   rw [B3] at h
   refine BO rfl rfl (Z ?_)
   refine Ae (Z ?_)
   refine AJ h (fun h=>Z ?_) (fun h=>Z ?_)
   ·refine AW ?_
    refine CT [false,false,false,false,false,false,false,false,false,false,false,false,false,true,true,true,true] (Tr.sq [13,14,15,16] .fin) (by kernel_rfl) (Z ?_)
    replace h:=AD h; obtain⟨y,q,h⟩:=h
    have hq_:=Al q
    obtain⟨hv8013a,hv8013b⟩:=hq_
    refine BW .no (Z ?_)
    refine Ad (by refine⟨?_,?_⟩ <;> (try simp only [List.length_map,List.length_append,List.length_cons,List.length_nil] at*) <;> (try unfold maxLen) <;> omega) (Z ?_)
    refine AP (y.map Port.ds) (by rw [← hv8013b]; simp only [List.map_append,List.map_cons,List.map_nil,List.nil_append,List.append_nil,go_sem,Port.ds_eq]) (Z ?_)
    exact AF (k1 ih0) h
   ·refine AW ?_
    refine CT [false,false,false,false,false,false,false,false,true,true,true,true] (Tr.sq [8,9,10,11] .fin) (by kernel_rfl) (Z ?_)
    replace h:=AD h; obtain⟨g,j,h⟩:=h
    refine AY (Ot _ _ j) (Z ?_)
    replace h:=AD h; obtain⟨k,b,h⟩:=h
    have hq_:=Al b
    obtain⟨hv9008a,hv9008b⟩:=hq_
    refine BW .no (Z ?_)
    refine Ad (by refine⟨?_,?_⟩ <;> (try simp only [List.length_map,List.length_append,List.length_cons,List.length_nil] at*) <;> (try unfold maxLen) <;> omega) (Z ?_)
    refine AP (k.map Agent.ds) (by rw [← hv9008b]; simp only [List.map_append,List.map_cons,List.map_nil,List.nil_append,List.append_nil,go_sem,Agent.ds_eq]) (Z ?_)
    exact AF trivial h
theorem KZ (a0 a1 r) (h:El a0 a1=some r):AG Tryz.prog 267 [.box 1 0,.rop (ShardCell.avs a1) 0] (tkG0 1001 a0.agents a0.ports a0.cells a0.vars a0.ends a0.pairs) [(1,(tkG4 1001))] (.int .i64 r.1) (tkG0 1501 r.2.agents r.2.ports r.2.cells r.2.vars r.2.ends r.2.pairs) [(1,(tkG4 1501))] :=by
 unfold El at h
 refine agF Tryz.func267 mixed (h:=Z ?_)
 exact AF (k1 Mj) h
theorem PY (n:Nat):(∀a0 u w y q g j k b d r,B4 n a0 u w y q g j k b d=some r→Dl Tryz.prog Tryz.f234 [1,1,1,1,1,1,0,1,0] (.tup [.box 1601 0,.own 1507]) (tkG1 1501 r.1.agents r.1.ports r.1.cells r.1.vars r.1.ends r.1.pairs r.2) [(1601,(tkG4 1501))] ⟨[(0,.rop (Grid.avs a0) 0),(6,.box 1000017500 0),(10,.own 1000017006),(12,.int .i64 b),(13,.int .i64 d)],(tkG3 1000017000 u w y k q g j),[(1000017500,some (tkG4 1000017000))]⟩)∧
    (∀a0 u w y q g j k d c e i r,De n a0 u w y q g j k d c e i=some r→Dl Tryz.prog Tryz.f234 [1,1,1,1,1,1,0,1,0,0,1,0,0,1,0,1,0] (.tup [.box 1601 0,.own 1507]) (tkG1 1501 r.1.agents r.1.ports r.1.cells r.1.vars r.1.ends r.1.pairs r.2) [(1601,(tkG4 1501))] ⟨[(0,.rop (Grid.avs a0) 0),(6,.box 1000021500 0),(10,.own 1000021006),(12,.int .i64 c),(13,.int .i64 d),(14,.own 1000021007),(15,.int .i64 i)],[(1000021000,some ⟨List.map Agent.ds u,some 5,0,.no⟩),(1000021001,some ⟨List.map Port.ds w,some 2,0,.no⟩),(1000021002,some ⟨List.map (slD AB) y,some 1,0,.no⟩),(1000021003,some ⟨List.map (slD AB) k,some 1,0,.no⟩),(1000021004,some ⟨List.map (snD AB) q,some 1,0,.nl⟩),(1000021005,some ⟨List.map (slD AB) g,some 1,0,.no⟩),(1000021006,some ⟨List.map AB j,some 1,0,.no⟩),(1000021007,some ⟨List.map AB e,some 1,0,.no⟩)],[(1000021500,some (tkG4 1000021000))]⟩):=by
 induction n with
 |zero=>exact⟨(fun _ _ _ _ _ _ _ _ _ _ _ h=>by rw [B4] at h; cases h),(fun _ _ _ _ _ _ _ _ _ _ _ _ _ h=>by rw [De] at h; cases h)⟩
 | succ n ih=>
  obtain⟨ih0,ih1⟩:=ih
  refine⟨?_,?_⟩
  ·intro a0 u w y q g j k b d r h
   rw [B4] at h
   refine BO rfl rfl (Z ?_)
   refine Ae (Z ?_)
   refine AJ h (fun h=>Z ?_) (fun h=>Z ?_)
   ·refine AW ?_
    refine AW ?_
    refine CX (Je rfl rfl (ih1 a0 u w y q g j k d b [] 0 _ h):) (.one ⟨_,.lit 14 2000000000 21000 0 1 .no [] _ _ (by (first|rfl|(simp only [go_sem]; rfl))) (by simp only [go_sem]; rfl) (by (first|rfl|(simp only [go_sem]; rfl))) (by (first|rfl|(simp only [go_sem]; rfl))) (by decide) (by decide) (by simp only [go_sem]) (.done _),(r7 1000021000 1000017000 [(1000021007,2000000000)]),[(1000021500,1000017500)],?_⟩)
    simp only [go_sem]
    all_goals try rfl
   ·refine AW ?_
    replace h:=AD h; obtain⟨l,t,h⟩:=h
    have hq_:=D6 t
    obtain⟨hv28002a,hv28002b,hv28002c⟩:=hq_
    refine Ad (by refine⟨?_,?_,?_⟩ <;> omega) (Z ?_)
    refine BW .nl (Z ?_)
    refine AP (List.map (snD AB) l) (by rw [← hv28002c]; simp only [List.map_replicate,go_sem,snD]) (Z ?_)
    exact AF trivial h
  ·intro a0 u w y q g j k d c e i r h
   rw [De] at h
   refine BO rfl rfl (Z ?_)
   refine Ae (Z ?_)
   replace h:=AD h; obtain⟨s,o,h⟩:=h
   refine AO o (Shard.ds_len _) (Z ?_)
   refine AJ h (fun h=>Z ?_) (fun h=>Z ?_)
   ·refine AW ?_
    replace h:=AD h; obtain⟨z,u1,h⟩:=h
    have hq_:=Al u1
    obtain⟨hv25003a,hv25003b⟩:=hq_
    refine BW .no (Z ?_)
    refine Ad (by refine⟨?_,?_⟩ <;> (try simp only [List.length_map,List.length_append,List.length_cons,List.length_nil] at*) <;> (try unfold maxLen) <;> omega) (Z ?_)
    refine AP (z.map AB) (by rw [← hv25003b]; simp only [List.map_append,List.map_cons,List.map_nil,List.nil_append,List.append_nil,go_sem,slD]) (Z ?_)
    exact AF (k1 ih1) h
   ·refine AW ?_
    replace h:=AD h; obtain⟨u2,u3,h⟩:=h
    have hq_:=Al u3
    obtain⟨hv27007a,hv27007b⟩:=hq_
    refine BW .no (Z ?_)
    refine Ad (by refine⟨?_,?_⟩ <;> (try simp only [List.length_map,List.length_append,List.length_cons,List.length_nil] at*) <;> (try unfold maxLen) <;> omega) (Z ?_)
    refine AP (List.map (slD AB) u2) (by rw [← hv27007b]; simp only [List.map_append,List.map_cons,List.map_nil,List.nil_append,List.append_nil,go_sem,slD]) (Z ?_)
    exact AF (k1 ih0) h
def Qz (n:Nat):=(PY n).1
theorem Q0 (n:Nat):(∀a0 a1 u w y q g j k b r,Cv n a0 a1 u w y q g j k b=some r→Dl Tryz.prog Tryz.f234 [1,1,1,1,0,1,0] (.tup [.box 1601 0,.own 1507]) (tkG1 1501 r.1.agents r.1.ports r.1.cells r.1.vars r.1.ends r.1.pairs r.2) [(1601,(tkG4 1501))] ⟨[(0,.rop (Grid.avs a0) 0),(1,.ro (a1.map ShardCell.ds)),(6,.box 1000011500 0),(10,.own 1000011006),(11,.int .i64 b)],(tkG3 1000011000 u w y q g j k),[(1000011500,some (tkG4 1000011000))]⟩):=by
 induction n with
 |zero=>exact((fun _ _ _ _ _ _ _ _ _ _ _ h=>by rw [Cv] at h; cases h))
 | succ n ih=>
  have ih0:=ih
  ·intro a0 a1 u w y q g j k b r h
   rw [Cv] at h
   refine BO rfl rfl (Z ?_)
   refine Ae (Z ?_)
   refine AJ h (fun h=>Z ?_) (fun h=>Z ?_)
   ·refine AW ?_
    replace h:=AD h; obtain⟨d,c,h⟩:=h
    refine AO c (ShardCell.ds_len _) (Z ?_)
    replace h:=AD h; obtain⟨e,i,h⟩:=h
    refine caG ⟨[],(r6 1001 1000011000 []),[(1,1000011500,0)],(r6 1501 256080 []),[],true⟩ (KZ _ _ _ i) (Z ?_)
    replace h:=AD h; obtain⟨l,t,h⟩:=h
    have hq_:=Al t
    obtain⟨hv16007a,hv16007b⟩:=hq_
    refine BW .no (Z ?_)
    refine Ad (by refine⟨?_,?_⟩ <;> (try simp only [List.length_map,List.length_append,List.length_cons,List.length_nil] at*) <;> (try unfold maxLen) <;> omega) (Z ?_)
    refine AP (l.map AB) (by rw [← hv16007b]; simp only [List.map_append,List.map_cons,List.map_nil,List.nil_append,List.append_nil,go_sem,slD]) (Z ?_)
    exact AF (k1 ih0) h
   ·exact AF (k1 Qz) h
theorem PZ (n:Nat):(∀a0 a1 u w y q g j k r,CW n a0 a1 u w y q g j k=some r→Dl Tryz.prog Tryz.f234 [1,1,0,1,0] (.tup [.box 1601 0,.own 1507]) (tkG1 1501 r.1.agents r.1.ports r.1.cells r.1.vars r.1.ends r.1.pairs r.2) [(1601,(tkG4 1501))] ⟨[(0,.rop (Grid.avs a0) 0),(1,.ro (a1.map ShardCell.ds)),(6,.box 1000005500 0),(7,.int .i64 k)],(tkG2 1000005000 u w y q g j),[(1000005500,some (tkG4 1000005000))]⟩)∧
    (∀a0 a1 k b d c e i l t s r,Df n a0 a1 k b d c e i l t s=some r→Dl Tryz.prog Tryz.f234 [1,1,0,1,0,0,1,0,0,1,0,1,0] (.tup [.box 1601 0,.own 1507]) (tkG1 1501 r.1.agents r.1.ports r.1.cells r.1.vars r.1.ends r.1.pairs r.2) [(1601,(tkG4 1501))] ⟨[(0,.rop (Grid.avs a0) 0),(1,.ro (a1.map ShardCell.ds)),(6,.box 1000009500 0),(7,.int .i64 k),(8,.own 1000009006),(9,.int .i64 s)],(tkG3 1000009000 b d c e i l t),[(1000009500,some (tkG4 1000009000))]⟩):=by
 induction n with
 |zero=>exact⟨(fun _ _ _ _ _ _ _ _ _ _ h=>by rw [CW] at h; cases h),(fun _ _ _ _ _ _ _ _ _ _ _ _ h=>by rw [Df] at h; cases h)⟩
 | succ n ih=>
  obtain⟨ih0,ih1⟩:=ih
  refine⟨?_,?_⟩
  ·intro a0 a1 u w y q g j k r h
   rw [CW] at h
   refine BO rfl rfl (Z ?_)
   refine Ae (Z ?_)
   refine AJ h (fun h=>Z ?_) (fun h=>Z ?_)
   ·refine AW ?_
    refine AW ?_
    refine CX (Je rfl rfl (ih1 a0 a1 k u w y q g j [] 0 _ h):) (.one ⟨_,.lit 8 2000000000 6000 0 1 .no [] _ _ (by (first|rfl|(simp only [go_sem]; rfl))) (by simp only [go_sem]; rfl) (by (first|rfl|(simp only [go_sem]; rfl))) (by (first|rfl|(simp only [go_sem]; rfl))) (by decide) (by decide) (by simp only [go_sem]) (.done _),(r6 1000009000 1000005000 [(1000009006,2000000000)]),[(1000009500,1000005500)],?_⟩)
    simp only [go_sem]
    all_goals try rfl
   ·refine AW ?_
    refine AW ?_
    refine CX (Je rfl rfl (Q0 fuel a0 a1 u w y q g j [] 0 _ h):) (.one ⟨_,.lit 10 2000000000 12000 0 1 .no [] _ _ (by (first|rfl|(simp only [go_sem]; rfl))) (by simp only [go_sem]; rfl) (by (first|rfl|(simp only [go_sem]; rfl))) (by (first|rfl|(simp only [go_sem]; rfl))) (by decide) (by decide) (by simp only [go_sem]) (.done _),(r6 1000011000 1000005000 [(1000011006,2000000000)]),[(1000011500,1000005500)],?_⟩)
    simp only [go_sem]
    all_goals try rfl
  ·intro a0 a1 k b d c e i l t s r h
   rw [Df] at h
   refine BO rfl rfl (Z ?_)
   refine Ae (Z ?_)
   replace h:=AD h; obtain⟨o,z,h⟩:=h
   refine AO z (Shard.ds_len _) (Z ?_)
   refine AJ h (fun h=>Z ?_) (fun h=>Z ?_)
   ·refine AW ?_
    replace h:=AD h; obtain⟨u1,u2,h⟩:=h
    refine AO u2 (Shard.ds_len _) (Z ?_)
    replace h:=AD h; obtain⟨u3,u4,h⟩:=h
    refine AO u4 (ShardCell.ds_len _) (Z ?_)
    replace h:=AD h; obtain⟨u5,u6,h⟩:=h
    refine caG ⟨[],(r6 1001 1000009000 []),[(1,1000009500,0)],(r6 1501 160192 []),[],true⟩ (KZ _ _ _ u6) (Z ?_)
    replace h:=AD h; obtain⟨u7,u8,h⟩:=h
    have hq_:=Al u8
    obtain⟨hv10014a,hv10014b⟩:=hq_
    refine BW .no (Z ?_)
    refine Ad (by refine⟨?_,?_⟩ <;> (try simp only [List.length_map,List.length_append,List.length_cons,List.length_nil] at*) <;> (try unfold maxLen) <;> omega) (Z ?_)
    refine AP (u7.map AB) (by rw [← hv10014b]; simp only [List.map_append,List.map_cons,List.map_nil,List.nil_append,List.append_nil,go_sem,slD]) (Z ?_)
    exact AF (k1 ih1) h
   ·refine AW ?_
    replace h:=AD h; obtain⟨u9,u10,h⟩:=h
    have hq_:=Al u10
    obtain⟨hv11007a,hv11007b⟩:=hq_
    refine BW .no (Z ?_)
    refine Ad (by refine⟨?_,?_⟩ <;> (try simp only [List.length_map,List.length_append,List.length_cons,List.length_nil] at*) <;> (try unfold maxLen) <;> omega) (Z ?_)
    refine AP (List.map (slD AB) u9) (by rw [← hv11007b]; simp only [List.map_append,List.map_cons,List.map_nil,List.nil_append,List.append_nil,go_sem,slD]) (Z ?_)
    exact AF (k1 ih0) h
def Q1 (n:Nat):=(PZ n).1
theorem Vm (a0 a1 r) (h:He a0 a1=some r):AG Tryz.prog 234 [.rop (Grid.avs a0) 0,.ro (a1.map ShardCell.ds)] [] [] (.tup [.box 1601 0,.own 1507]) (tkG1 1501 r.1.agents r.1.ports r.1.cells r.1.vars r.1.ends r.1.pairs r.2) [(1601,(tkG4 1501))] :=by
 unfold He at h
 refine agF Tryz.func234 mixed (h:=Z ?_)
 replace h:=AD h; obtain⟨u,w,h⟩:=h
 have hq_:=D6 w
 obtain⟨hv2000a,hv2000b,hv2000c⟩:=hq_
 refine Ad (by refine⟨?_,?_,?_⟩ <;> omega) (Z ?_)
 refine BW .no (Z ?_)
 refine AP (u.map Port.ds) (by rw [← hv2000c]; simp only [List.map_replicate,go_sem,Port.ds_eq]) (Z ?_)
 refine AW ?_
 refine CX (Je rfl rfl (Q1 fuel a0 a1 [(⟨1,0,0,[],u⟩:Agent)] [(⟨0,0⟩:Port)] [] [] [] [] 0 _ h):) (.one ⟨_,.clit 2006 0 2000000000 2002 1 5 .no _ _ _ (by (first|rfl|(simp only [go_sem]; rfl))) (by rfl) (by (first|rfl|(simp only [go_sem]; rfl))) (by rfl) (by simp only [Be]; exact⟨_,by (first|rfl|(simp only [go_sem]; rfl)),by rfl,⟨rfl,rfl⟩⟩) (by rfl) (by decide) (by decide) (by (first|rfl|(simp only [go_sem]; rfl))) (by (first|rfl|(simp only [go_sem]; rfl))) (.clit 2006 1 2000000001 2004 1 2 .no _ _ _ (by (first|rfl|(simp only [go_sem]; rfl))) (by rfl) (by (first|rfl|(simp only [go_sem]; rfl))) (by rfl) (by simp only [Be]; exact⟨rfl,rfl⟩) (by rfl) (by decide) (by decide) (by (first|rfl|(simp only [go_sem]; rfl))) (by (first|rfl|(simp only [go_sem]; rfl))) (.cell 2006 2 2000000002 (some 1) .no _ (by simp only [go_sem]; rfl) (by rfl) (by simp only [go_sem]) (.cell 2006 3 2000000003 (some 1) .no _ (by simp only [go_sem]; rfl) (by rfl) (by simp only [go_sem]) (.cell 2006 4 2000000004 (some 1) .nl _ (by simp only [go_sem]; rfl) (by rfl) (by simp only [go_sem]) (.cell 2006 5 2000000005 (some 1) .no _ (by simp only [go_sem]; rfl) (by rfl) (by simp only [go_sem]) (.done _)))))),(r6 1000005000 2000000000 []),[(1000005500,2006)],?_⟩)
 simp only [go_sem]
 all_goals try rfl
theorem AK (a0 a1 r) (h:Fy a0 a1=some r):AC Tryz.prog 238 [.rop (Grid.avs a0) 0,.agg (Address.avs a1)] (.bool r):=by
 unfold Fy at h
 refine acF Tryz.func238 mixed (h:=Z ?_)
 exact AF (k1 D5) h
theorem FR (a0 a1 a2 r) (h:Cl a0 a1 a2=some r):AG Tryz.prog 239 [.box 1 0,.int .i64 a1,.int .i64 a2] (tkG0 1001 a0.agents a0.ports a0.cells a0.vars a0.ends a0.pairs) [(1,(tkG4 1001))] (.tup []) (tkG0 1501 r.agents r.ports r.cells r.vars r.ends r.pairs) [(1,(tkG4 1501))] :=by
 unfold Cl at h
 refine agF Tryz.func239 mixed (h:=Z ?_)
 replace h:=AD h; obtain⟨u,w,h⟩:=h
 have hq_:=Al w
 obtain⟨hv2009a,hv2009b⟩:=hq_
 refine BW .no (Z ?_)
 refine Ad (by refine⟨?_,?_⟩ <;> (try simp only [List.length_map,List.length_append,List.length_cons,List.length_nil] at*) <;> (try unfold maxLen) <;> omega) (Z ?_)
 refine AP (List.map (slD AB) u) (by rw [← hv2009b]; simp only [List.map_append,List.map_cons,List.map_nil,List.nil_append,List.append_nil,go_sem,slD]) (Z ?_)
 refine AW ?_
 replace h:=AD h; obtain⟨y,q,h⟩:=h
 replace h:=AD h; obtain⟨g,j,h⟩:=h
 have hq_:=Al j
 obtain⟨hv3014a,hv3014b⟩:=hq_
 have hv3014n:=gC hv3014b
 replace h:=AD h; obtain⟨k,b,h⟩:=h
 replace h:=AD h; obtain⟨d,c,h⟩:=h
 refine fJ (fun S=>⟨[(24,if S 0=true then .box 1 0 else .any),(25,if S 1=true then .box 1 0 else .any),(26,if S 2=true then .box 1 4 else .any),(27,if S 3=true then .own 1005 else .any),(28,if S 4=true then .int .i64 a1 else .any),(29,if S 5=true then .box 1 0 else .any),(30,if S 6=true then .box 1 0 else .any),(31,if S 7=true then .box 1 4 else .any),(32,if S 8=true then .own 1005 else .any),(33,if S 9=true then .int .i64 a1 else .any),(34,if S 10=true then .elt 1005 1 (Int.toNat a1) 0 else .any),(35,if S 14=true then .any else if S 11=true then .sub 1005 0 [(1,Int.toNat a1,0)] else .any),(36,if S 12=true then .int .i64 (a0.pairs.length:Int) else .any),(37,if S 13=true then .bsl 3013 1 1 else .any),(38,if S 14=true then .own 48224 else .any),(39,if S 15=true then .elt 1005 1 (Int.toNat a1) 0 else .any),(0,.box 1 0),(1,.int .i64 a1),(2,.int .i64 a2),(7,.box 1 0),(8,.box 1 0),(9,.box 1 5),(10,.own 1006),(11,.int .i64 (a0.pairs.length:Int)),(6,.int .i64 (a0.pairs.length:Int)),(12,.box 1 0),(13,.box 1 0),(14,.box 1 0),(15,.box 1 5),(16,.own 1006),(17,.int .i64 a1),(18,.int .i64 a2),(19,.bsl 2007 2 1),(20,.bsl 2008 1 1),(21,.own 32144),(22,.box 1 0),(23,.box 1 5)],(optK (S 14) (48224,(if S 16=true then none else (some ⟨List.map AB g,some 1,0,.no⟩))) (optK (S 14) (5000003014,none) [(1001,(some ⟨List.map Agent.ds a0.agents,some 5,0,.no⟩)),(1002,(some ⟨List.map Port.ds a0.ports,some 2,0,.no⟩)),(1003,(some ⟨List.map (slD AB) a0.cells,some 1,0,.no⟩)),(1004,(some ⟨List.map (slD AB) a0.vars,some 1,0,.no⟩)),(1005,(if S 16=true then (some ⟨List.map (snD AB) d,some 1,1,.nl⟩) else (if S 14=true then (some ⟨putR [(1,Int.toNat a1,0)] (List.map (snD AB) a0.ends) .gone,some 1,0,.nl⟩) else (some ⟨List.map (snD AB) a0.ends,some 1,0,.nl⟩)))),(1006,none),(32144,(some ⟨List.map (slD AB) u,some 1,0,.no⟩))])),(optK (S 13) (3013,(some [.int .i64 (a0.pairs.length:Int)])) [(1,(some [.own 1001,.own 1002,.own 1003,.own 1004,.own 1005,.own 32144])),(2007,none),(2008,(some [.bsl 2007 2 1]))])⟩) [([],[16]),([0],[16]),([1],[16]),([2],[16]),([],[16]),([],[14,16]),([5],[14,16]),([6],[14,16]),([7],[14,16]),([],[14,16]),([8,9],[14,16]),([10],[14,16]),([],[13,14,16]),([12],[14,16]),([11,13],[16]),([0,1,2,3,4,5,6,7,8,9,10,11,12,13,14],[16]),([0,1,2,3,4,5,6,7,8,9,10,11,12,13,14,15],[])] (by kernel_rfl) ?_ ?_ ?_
 ·(first|done|(simp (config:= {contextual:=true}) [go_sem,Fp,leO1,decide_eq_true_eq]; done))
 ·refine Do (by kernel_rfl) (by kernel_rfl) (fun S hS hd hu=>?_) ?_
  ·simp only [BU,A6,and_true] at hu
   have hu0:=hu
   try simp only [go_sem,hS,hu0]
   (first|done|(simp (config:= {contextual:=true}) [go_sem,Fp,leO1,hS,hu0]; done))
  refine Do (by kernel_rfl) (by kernel_rfl) (fun S hS hd hu=>?_) ?_
  ·simp only [Bs,BM,and_true] at hd
   have hd0:=hd
   simp only [BU,A6,and_true] at hu
   have hu0:=hu
   try simp only [go_sem,hS,hd0,hu0]
   (first|done|(simp (config:= {contextual:=true}) [go_sem,Fp,leO1,hS,hd0,hu0]; done))
  refine Do (by kernel_rfl) (by kernel_rfl) (fun S hS hd hu=>?_) ?_
  ·simp only [Bs,BM,and_true] at hd
   have hd0:=hd
   simp only [BU,A6,and_true] at hu
   have hu0:=hu
   try simp only [go_sem,hS,hd0,hu0]
   (first|done|(simp (config:= {contextual:=true}) [go_sem,Fp,leO1,hS,hd0,hu0]; done))
  refine Do (by kernel_rfl) (by kernel_rfl) (fun S hS hd hu=>?_) ?_
  ·simp only [Bs,BM,and_true] at hd
   have hd0:=hd
   simp only [BU,A6,and_true] at hu
   have hu0:=hu
   try simp only [go_sem,hS,hd0,hu0]
   (first|done|(simp (config:= {contextual:=true}) [go_sem,Fp,leO1,hS,hd0,hu0]; done))
  refine Do (by kernel_rfl) (by kernel_rfl) (fun S hS hd hu=>?_) ?_
  ·simp only [BU,A6,and_true] at hu
   have hu0:=hu
   try simp only [go_sem,hS,hu0]
   (first|done|(simp (config:= {contextual:=true}) [go_sem,Fp,leO1,hS,hu0]; done))
  refine Do (by kernel_rfl) (by kernel_rfl) (fun S hS hd hu=>?_) ?_
  ·simp only [BU,A6,and_true] at hu
   obtain⟨hu0,hu1⟩:=hu
   try simp only [go_sem,hS,hu0,hu1]
   (first|done|(simp (config:= {contextual:=true}) [go_sem,Fp,leO1,hS,hu0,hu1]; done))
  refine Do (by kernel_rfl) (by kernel_rfl) (fun S hS hd hu=>?_) ?_
  ·simp only [Bs,BM,and_true] at hd
   have hd0:=hd
   simp only [BU,A6,and_true] at hu
   obtain⟨hu0,hu1⟩:=hu
   try simp only [go_sem,hS,hd0,hu0,hu1]
   (first|done|(simp (config:= {contextual:=true}) [go_sem,Fp,leO1,hS,hd0,hu0,hu1]; done))
  refine Do (by kernel_rfl) (by kernel_rfl) (fun S hS hd hu=>?_) ?_
  ·simp only [Bs,BM,and_true] at hd
   have hd0:=hd
   simp only [BU,A6,and_true] at hu
   obtain⟨hu0,hu1⟩:=hu
   try simp only [go_sem,hS,hd0,hu0,hu1]
   (first|done|(simp (config:= {contextual:=true}) [go_sem,Fp,leO1,hS,hd0,hu0,hu1]; done))
  refine Do (by kernel_rfl) (by kernel_rfl) (fun S hS hd hu=>?_) ?_
  ·simp only [Bs,BM,and_true] at hd
   have hd0:=hd
   simp only [BU,A6,and_true] at hu
   obtain⟨hu0,hu1⟩:=hu
   try simp only [go_sem,hS,hd0,hu0,hu1]
   (first|done|(simp (config:= {contextual:=true}) [go_sem,Fp,leO1,hS,hd0,hu0,hu1]; done))
  refine Do (by kernel_rfl) (by kernel_rfl) (fun S hS hd hu=>?_) ?_
  ·simp only [BU,A6,and_true] at hu
   obtain⟨hu0,hu1⟩:=hu
   try simp only [go_sem,hS,hu0,hu1]
   (first|done|(simp (config:= {contextual:=true}) [go_sem,Fp,leO1,hS,hu0,hu1]; done))
  refine Do (by kernel_rfl) (by kernel_rfl) (fun S hS hd hu=>?_) ?_
  ·simp only [Bs,BM,and_true] at hd
   obtain⟨hd0,hd1⟩:=hd
   simp only [BU,A6,and_true] at hu
   obtain⟨hu0,hu1⟩:=hu
   try simp only [go_sem,hS,hd0,hd1,hu0,hu1]
   refine AO q rfl ?_
   try simp only [go_sem,hS,hd0,hd1,hu0,hu1]
   (first|done|(simp (config:= {contextual:=true}) [go_sem,Fp,leO1,hS,hd0,hd1,hu0,hu1]; done))
  refine Do (by kernel_rfl) (by kernel_rfl) (fun S hS hd hu=>?_) ?_
  ·simp only [Bs,BM,and_true] at hd
   have hd0:=hd
   simp only [BU,A6,and_true] at hu
   obtain⟨hu0,hu1⟩:=hu
   try simp only [go_sem,hS,hd0,hu0,hu1]
   refine Ai (AU q) ?_
   try simp only [go_sem,hS,hd0,hu0,hu1]
   (first|done|(simp (config:= {contextual:=true}) [go_sem,Fp,leO1,hS,hd0,hu0,hu1]; done))
  refine Do (by kernel_rfl) (by kernel_rfl) (fun S hS hd hu=>?_) ?_
  ·simp only [BU,A6,and_true] at hu
   obtain⟨hu0,hu1,hu2⟩:=hu
   try simp only [go_sem,hS,hu0,hu1,hu2]
   (first|done|(simp (config:= {contextual:=true}) [go_sem,Fp,leO1,hS,hu0,hu1,hu2]; done))
  refine Do (by kernel_rfl) (by kernel_rfl) (fun S hS hd hu=>?_) ?_
  ·simp only [Bs,BM,and_true] at hd
   have hd0:=hd
   simp only [BU,A6,and_true] at hu
   obtain⟨hu0,hu1⟩:=hu
   try simp only [go_sem,hS,hd0,hu0,hu1]
   (first|done|(simp (config:= {contextual:=true}) [go_sem,Fp,leO1,hS,hd0,hu0,hu1]; done))
  refine Do (by kernel_rfl) (by kernel_rfl) (fun S hS hd hu=>?_) ?_
  ·simp only [Bs,BM,and_true] at hd
   obtain⟨hd0,hd1⟩:=hd
   simp only [BU,A6,and_true] at hu
   have hu0:=hu
   try simp only [go_sem,hS,hd0,hd1,hu0]
   refine j7 (.takeS 35 1005 5000003014 0 [] [(1,Int.toNat a1,0)] ⟨List.map (snD AB) a0.ends,some 1,0,.nl⟩ (slN AB y) 1 (y.map AB) (by (first|rfl|(simp only [go_sem]; rfl))) (by (first|rfl|(simp only [go_sem]; rfl))) rfl (KC (AU (f:=(snD AB)) q) rfl (by rfl)) (bk (by intro x; exact rfl)) (by simp) (by decide) (by simp only [go_sem,hS,hd0,hd1,hu0]) (.done _)) ?_
   try simp only [go_sem,hS,hd0,hd1,hu0]
   refine BW .no ?_
   try simp only [go_sem,hS,hd0,hd1,hu0]
   refine Ad (by refine⟨?_,?_⟩ <;> (try simp only [List.length_map,List.length_append,List.length_cons,List.length_nil] at*) <;> (try unfold maxLen) <;> omega) ?_
   try simp only [go_sem,hS,hd0,hd1,hu0]
   refine AP (g.map AB) (by rw [← hv3014b]; simp only [List.map_append,List.map_cons,List.map_nil,List.nil_append,List.append_nil,go_sem,slD]) ?_
   try simp only [go_sem,hS,hd0,hd1,hu0]
   (first|done|(simp (config:= {contextual:=true}) [go_sem,Fp,leO1,hS,hd0,hd1,hu0]; done))
  refine Do (by kernel_rfl) (by kernel_rfl) (fun S hS hd hu=>?_) ?_
  ·simp only [Bs,BM,and_true] at hd
   obtain⟨hd0,hd1,hd2,hd3,hd4,hd5,hd6,hd7,hd8,hd9,hd10,hd11,hd12,hd13,hd14⟩:=hd
   simp only [BU,A6,and_true] at hu
   have hu0:=hu
   try simp only [go_sem,hS,hd0,hd1,hd2,hd3,hd4,hd5,hd6,hd7,hd8,hd9,hd10,hd11,hd12,hd13,hd14,hu0]
   refine bj b rfl rfl ?_
   try simp only [go_sem,hS,hd0,hd1,hd2,hd3,hd4,hd5,hd6,hd7,hd8,hd9,hd10,hd11,hd12,hd13,hd14,hu0]
   (first|done|(simp (config:= {contextual:=true}) [go_sem,Fp,leO1,hS,hd0,hd1,hd2,hd3,hd4,hd5,hd6,hd7,hd8,hd9,hd10,hd11,hd12,hd13,hd14,hu0]; done))
  refine Do (by kernel_rfl) (by kernel_rfl) (fun S hS hd hu=>?_) ?_
  ·simp only [Bs,BM,and_true] at hd
   obtain⟨hd0,hd1,hd2,hd3,hd4,hd5,hd6,hd7,hd8,hd9,hd10,hd11,hd12,hd13,hd14,hd15⟩:=hd
   try simp only [go_sem,hS,hd0,hd1,hd2,hd3,hd4,hd5,hd6,hd7,hd8,hd9,hd10,hd11,hd12,hd13,hd14,hd15]
   refine Ai (bh (sz:=1) (AU (f:=(snD AB)) q) (d':=(slN AB y)) (by rfl)) ?_
   try simp only [go_sem,hS,hd0,hd1,hd2,hd3,hd4,hd5,hd6,hd7,hd8,hd9,hd10,hd11,hd12,hd13,hd14,hd15]
   refine AP (List.map (snD AB) d) ((congrArg (fun l=>List.set l _ _) (Ei (AU (f:=(snD AB)) q) (d':=(slN AB y)) (by rfl))).trans ((List.set_set ..).trans (by rw [← AL c]; simp only [List.map_set,go_sem,snD,gB hv3014n,List.set_cons_zero,List.set_cons_succ]))) ?_
   try simp only [go_sem,hS,hd0,hd1,hd2,hd3,hd4,hd5,hd6,hd7,hd8,hd9,hd10,hd11,hd12,hd13,hd14,hd15]
   (first|done|(simp (config:= {contextual:=true}) [go_sem,Fp,leO1,hS,hd0,hd1,hd2,hd3,hd4,hd5,hd6,hd7,hd8,hd9,hd10,hd11,hd12,hd13,hd14,hd15]; done))
  exact jy
 try simp only [go_sem]
 refine AW ?_
 replace h:=AD h; obtain⟨e,i,h⟩:=h
 replace h:=AD h; obtain⟨t,s,h⟩:=h
 have hq_:=Al s
 obtain⟨hv4014a,hv4014b⟩:=hq_
 have hv4014n:=gC hv4014b
 replace h:=AD h; obtain⟨o,z,h⟩:=h
 replace h:=AD h; obtain⟨u1,u2,h⟩:=h
 refine fJ (fun S=>⟨[(40,if S 0=true then .box 1 0 else .any),(41,if S 1=true then .box 1 0 else .any),(42,if S 2=true then .box 1 4 else .any),(43,if S 3=true then .own 1005 else .any),(44,if S 4=true then .int .i64 a2 else .any),(45,if S 5=true then .box 1 0 else .any),(46,if S 6=true then .box 1 0 else .any),(47,if S 7=true then .box 1 4 else .any),(48,if S 8=true then .own 1005 else .any),(49,if S 9=true then .int .i64 a2 else .any),(50,if S 10=true then .elt 1005 1 (Int.toNat a2) 0 else .any),(51,if S 14=true then .any else if S 11=true then .sub 1005 1 [(1,Int.toNat a2,0)] else .any),(52,if S 12=true then .int .i64 (a0.pairs.length:Int) else .any),(53,if S 13=true then .bsl 4013 1 1 else .any),(54,if S 14=true then .own 64224 else .any),(55,if S 15=true then .elt 1005 1 (Int.toNat a2) 0 else .any),(0,.box 1 0),(1,.int .i64 a1),(2,.int .i64 a2),(7,.box 1 0),(8,.box 1 0),(9,.box 1 5),(10,.own 1006),(11,.int .i64 (a0.pairs.length:Int)),(6,.int .i64 (a0.pairs.length:Int)),(12,.box 1 0),(13,.box 1 0),(14,.box 1 0),(15,.box 1 5),(16,.own 1006),(17,.int .i64 a1),(18,.int .i64 a2),(19,.bsl 2007 2 1),(20,.bsl 2008 1 1),(21,.own 32144),(22,.box 1 0),(23,.box 1 5),(24,.box 1 0),(25,.box 1 0),(26,.box 1 4),(27,.own 1005),(28,.int .i64 a1),(29,.box 1 0),(30,.box 1 0),(31,.box 1 4),(32,.own 1005),(33,.int .i64 a1),(34,.elt 1005 1 (Int.toNat a1) 0),(35,.any),(36,.int .i64 (a0.pairs.length:Int)),(37,.bsl 3013 1 1),(38,.own 48224),(39,.elt 1005 1 (Int.toNat a1) 0)],(optK (S 14) (64224,(if S 16=true then none else (some ⟨List.map AB t,some 1,0,.no⟩))) (optK (S 14) (5000004014,none) [(1001,(some ⟨List.map Agent.ds a0.agents,some 5,0,.no⟩)),(1002,(some ⟨List.map Port.ds a0.ports,some 2,0,.no⟩)),(1003,(some ⟨List.map (slD AB) a0.cells,some 1,0,.no⟩)),(1004,(some ⟨List.map (slD AB) a0.vars,some 1,0,.no⟩)),(1005,(if S 16=true then (some ⟨List.map (snD AB) u1,some 1,2,.nl⟩) else (if S 14=true then (some ⟨putR [(1,Int.toNat a2,0)] (List.map (snD AB) d) .gone,some 1,1,.nl⟩) else (some ⟨List.map (snD AB) d,some 1,1,.nl⟩)))),(1006,none),(32144,(some ⟨List.map (slD AB) u,some 1,0,.no⟩)),(5000003014,none),(48224,none)])),(optK (S 13) (4013,(some [.int .i64 (a0.pairs.length:Int)])) [(1,(some [.own 1001,.own 1002,.own 1003,.own 1004,.own 1005,.own 32144])),(2007,none),(2008,(some [.bsl 2007 2 1])),(3013,(some [.int .i64 (a0.pairs.length:Int)]))])⟩) [([],[16]),([0],[16]),([1],[16]),([2],[16]),([],[16]),([],[14,16]),([5],[14,16]),([6],[14,16]),([7],[14,16]),([],[14,16]),([8,9],[14,16]),([10],[14,16]),([],[13,14,16]),([12],[14,16]),([11,13],[16]),([0,1,2,3,4,5,6,7,8,9,10,11,12,13,14],[16]),([0,1,2,3,4,5,6,7,8,9,10,11,12,13,14,15],[])] (by kernel_rfl) ?_ ?_ ?_
 ·(first|done|(simp (config:= {contextual:=true}) [go_sem,Fp,leO1,decide_eq_true_eq]; done))
 ·refine Do (by kernel_rfl) (by kernel_rfl) (fun S hS hd hu=>?_) ?_
  ·simp only [BU,A6,and_true] at hu
   have hu0:=hu
   try simp only [go_sem,hS,hu0]
   (first|done|(simp (config:= {contextual:=true}) [go_sem,Fp,leO1,hS,hu0]; done))
  refine Do (by kernel_rfl) (by kernel_rfl) (fun S hS hd hu=>?_) ?_
  ·simp only [Bs,BM,and_true] at hd
   have hd0:=hd
   simp only [BU,A6,and_true] at hu
   have hu0:=hu
   try simp only [go_sem,hS,hd0,hu0]
   (first|done|(simp (config:= {contextual:=true}) [go_sem,Fp,leO1,hS,hd0,hu0]; done))
  refine Do (by kernel_rfl) (by kernel_rfl) (fun S hS hd hu=>?_) ?_
  ·simp only [Bs,BM,and_true] at hd
   have hd0:=hd
   simp only [BU,A6,and_true] at hu
   have hu0:=hu
   try simp only [go_sem,hS,hd0,hu0]
   (first|done|(simp (config:= {contextual:=true}) [go_sem,Fp,leO1,hS,hd0,hu0]; done))
  refine Do (by kernel_rfl) (by kernel_rfl) (fun S hS hd hu=>?_) ?_
  ·simp only [Bs,BM,and_true] at hd
   have hd0:=hd
   simp only [BU,A6,and_true] at hu
   have hu0:=hu
   try simp only [go_sem,hS,hd0,hu0]
   (first|done|(simp (config:= {contextual:=true}) [go_sem,Fp,leO1,hS,hd0,hu0]; done))
  refine Do (by kernel_rfl) (by kernel_rfl) (fun S hS hd hu=>?_) ?_
  ·simp only [BU,A6,and_true] at hu
   have hu0:=hu
   try simp only [go_sem,hS,hu0]
   (first|done|(simp (config:= {contextual:=true}) [go_sem,Fp,leO1,hS,hu0]; done))
  refine Do (by kernel_rfl) (by kernel_rfl) (fun S hS hd hu=>?_) ?_
  ·simp only [BU,A6,and_true] at hu
   obtain⟨hu0,hu1⟩:=hu
   try simp only [go_sem,hS,hu0,hu1]
   (first|done|(simp (config:= {contextual:=true}) [go_sem,Fp,leO1,hS,hu0,hu1]; done))
  refine Do (by kernel_rfl) (by kernel_rfl) (fun S hS hd hu=>?_) ?_
  ·simp only [Bs,BM,and_true] at hd
   have hd0:=hd
   simp only [BU,A6,and_true] at hu
   obtain⟨hu0,hu1⟩:=hu
   try simp only [go_sem,hS,hd0,hu0,hu1]
   (first|done|(simp (config:= {contextual:=true}) [go_sem,Fp,leO1,hS,hd0,hu0,hu1]; done))
  refine Do (by kernel_rfl) (by kernel_rfl) (fun S hS hd hu=>?_) ?_
  ·simp only [Bs,BM,and_true] at hd
   have hd0:=hd
   simp only [BU,A6,and_true] at hu
   obtain⟨hu0,hu1⟩:=hu
   try simp only [go_sem,hS,hd0,hu0,hu1]
   (first|done|(simp (config:= {contextual:=true}) [go_sem,Fp,leO1,hS,hd0,hu0,hu1]; done))
  refine Do (by kernel_rfl) (by kernel_rfl) (fun S hS hd hu=>?_) ?_
  ·simp only [Bs,BM,and_true] at hd
   have hd0:=hd
   simp only [BU,A6,and_true] at hu
   obtain⟨hu0,hu1⟩:=hu
   try simp only [go_sem,hS,hd0,hu0,hu1]
   (first|done|(simp (config:= {contextual:=true}) [go_sem,Fp,leO1,hS,hd0,hu0,hu1]; done))
  refine Do (by kernel_rfl) (by kernel_rfl) (fun S hS hd hu=>?_) ?_
  ·simp only [BU,A6,and_true] at hu
   obtain⟨hu0,hu1⟩:=hu
   try simp only [go_sem,hS,hu0,hu1]
   (first|done|(simp (config:= {contextual:=true}) [go_sem,Fp,leO1,hS,hu0,hu1]; done))
  refine Do (by kernel_rfl) (by kernel_rfl) (fun S hS hd hu=>?_) ?_
  ·simp only [Bs,BM,and_true] at hd
   obtain⟨hd0,hd1⟩:=hd
   simp only [BU,A6,and_true] at hu
   obtain⟨hu0,hu1⟩:=hu
   try simp only [go_sem,hS,hd0,hd1,hu0,hu1]
   refine AO i rfl ?_
   try simp only [go_sem,hS,hd0,hd1,hu0,hu1]
   (first|done|(simp (config:= {contextual:=true}) [go_sem,Fp,leO1,hS,hd0,hd1,hu0,hu1]; done))
  refine Do (by kernel_rfl) (by kernel_rfl) (fun S hS hd hu=>?_) ?_
  ·simp only [Bs,BM,and_true] at hd
   have hd0:=hd
   simp only [BU,A6,and_true] at hu
   obtain⟨hu0,hu1⟩:=hu
   try simp only [go_sem,hS,hd0,hu0,hu1]
   refine Ai (AU i) ?_
   try simp only [go_sem,hS,hd0,hu0,hu1]
   (first|done|(simp (config:= {contextual:=true}) [go_sem,Fp,leO1,hS,hd0,hu0,hu1]; done))
  refine Do (by kernel_rfl) (by kernel_rfl) (fun S hS hd hu=>?_) ?_
  ·simp only [BU,A6,and_true] at hu
   obtain⟨hu0,hu1,hu2⟩:=hu
   try simp only [go_sem,hS,hu0,hu1,hu2]
   (first|done|(simp (config:= {contextual:=true}) [go_sem,Fp,leO1,hS,hu0,hu1,hu2]; done))
  refine Do (by kernel_rfl) (by kernel_rfl) (fun S hS hd hu=>?_) ?_
  ·simp only [Bs,BM,and_true] at hd
   have hd0:=hd
   simp only [BU,A6,and_true] at hu
   obtain⟨hu0,hu1⟩:=hu
   try simp only [go_sem,hS,hd0,hu0,hu1]
   (first|done|(simp (config:= {contextual:=true}) [go_sem,Fp,leO1,hS,hd0,hu0,hu1]; done))
  refine Do (by kernel_rfl) (by kernel_rfl) (fun S hS hd hu=>?_) ?_
  ·simp only [Bs,BM,and_true] at hd
   obtain⟨hd0,hd1⟩:=hd
   simp only [BU,A6,and_true] at hu
   have hu0:=hu
   try simp only [go_sem,hS,hd0,hd1,hu0]
   refine j7 (.takeS 51 1005 5000004014 1 [] [(1,Int.toNat a2,0)] ⟨List.map (snD AB) d,some 1,1,.nl⟩ (slN AB e) 1 (e.map AB) (by (first|rfl|(simp only [go_sem]; rfl))) (by (first|rfl|(simp only [go_sem]; rfl))) rfl (KC (AU (f:=(snD AB)) i) rfl (by rfl)) (bk (by intro x; exact rfl)) (by simp) (by decide) (by simp only [go_sem,hS,hd0,hd1,hu0]) (.done _)) ?_
   try simp only [go_sem,hS,hd0,hd1,hu0]
   refine BW .no ?_
   try simp only [go_sem,hS,hd0,hd1,hu0]
   refine Ad (by refine⟨?_,?_⟩ <;> (try simp only [List.length_map,List.length_append,List.length_cons,List.length_nil] at*) <;> (try unfold maxLen) <;> omega) ?_
   try simp only [go_sem,hS,hd0,hd1,hu0]
   refine AP (t.map AB) (by rw [← hv4014b]; simp only [List.map_append,List.map_cons,List.map_nil,List.nil_append,List.append_nil,go_sem,slD]) ?_
   try simp only [go_sem,hS,hd0,hd1,hu0]
   (first|done|(simp (config:= {contextual:=true}) [go_sem,Fp,leO1,hS,hd0,hd1,hu0]; done))
  refine Do (by kernel_rfl) (by kernel_rfl) (fun S hS hd hu=>?_) ?_
  ·simp only [Bs,BM,and_true] at hd
   obtain⟨hd0,hd1,hd2,hd3,hd4,hd5,hd6,hd7,hd8,hd9,hd10,hd11,hd12,hd13,hd14⟩:=hd
   simp only [BU,A6,and_true] at hu
   have hu0:=hu
   try simp only [go_sem,hS,hd0,hd1,hd2,hd3,hd4,hd5,hd6,hd7,hd8,hd9,hd10,hd11,hd12,hd13,hd14,hu0]
   refine bj z rfl rfl ?_
   try simp only [go_sem,hS,hd0,hd1,hd2,hd3,hd4,hd5,hd6,hd7,hd8,hd9,hd10,hd11,hd12,hd13,hd14,hu0]
   (first|done|(simp (config:= {contextual:=true}) [go_sem,Fp,leO1,hS,hd0,hd1,hd2,hd3,hd4,hd5,hd6,hd7,hd8,hd9,hd10,hd11,hd12,hd13,hd14,hu0]; done))
  refine Do (by kernel_rfl) (by kernel_rfl) (fun S hS hd hu=>?_) ?_
  ·simp only [Bs,BM,and_true] at hd
   obtain⟨hd0,hd1,hd2,hd3,hd4,hd5,hd6,hd7,hd8,hd9,hd10,hd11,hd12,hd13,hd14,hd15⟩:=hd
   try simp only [go_sem,hS,hd0,hd1,hd2,hd3,hd4,hd5,hd6,hd7,hd8,hd9,hd10,hd11,hd12,hd13,hd14,hd15]
   refine Ai (bh (sz:=1) (AU (f:=(snD AB)) i) (d':=(slN AB e)) (by rfl)) ?_
   try simp only [go_sem,hS,hd0,hd1,hd2,hd3,hd4,hd5,hd6,hd7,hd8,hd9,hd10,hd11,hd12,hd13,hd14,hd15]
   refine AP (List.map (snD AB) u1) ((congrArg (fun l=>List.set l _ _) (Ei (AU (f:=(snD AB)) i) (d':=(slN AB e)) (by rfl))).trans ((List.set_set ..).trans (by rw [← AL u2]; simp only [List.map_set,go_sem,snD,gB hv4014n,List.set_cons_zero,List.set_cons_succ]))) ?_
   try simp only [go_sem,hS,hd0,hd1,hd2,hd3,hd4,hd5,hd6,hd7,hd8,hd9,hd10,hd11,hd12,hd13,hd14,hd15]
   (first|done|(simp (config:= {contextual:=true}) [go_sem,Fp,leO1,hS,hd0,hd1,hd2,hd3,hd4,hd5,hd6,hd7,hd8,hd9,hd10,hd11,hd12,hd13,hd14,hd15]; done))
  exact jy
 try simp only [go_sem]
 exact AF trivial h
theorem Eg (a0 a1 r) (h:CY a0 a1=some r):AC Tryz.prog 240 [.rop (L27Links.avs a0) 0,.agg (Address.avs a1)] (.int .i64 r):=by
 unfold CY at h
 refine acF Tryz.func240 mixed (h:=Z ?_)
 exact AF trivial h
theorem Mk (a0:L27Links) (a2:Address) (a3:Address) (u:Bool) (r:Bool × L27Links) (h:Cf a0 a2 a3 u=some r):Dl Tryz.prog Tryz.f236 [1,0,1] (.bool r.1) (tkG0 1501 r.2.agents r.2.ports r.2.cells r.2.vars r.2.ends r.2.pairs) [(1,(tkG4 1501))] ⟨[(0,.box 1 0),(6,.box 1000000500 0),(7,.box 1000000501 0),(18,.bool u)],(tkG2 1000000000 a0.agents a0.ports a0.cells a0.vars a0.ends a0.pairs),[(1,some (tkG4 1000000000)),(1000000500,some (Address.avs a2)),(1000000501,some (Address.avs a3))]⟩:=by
 unfold Cf at h
 refine BO rfl rfl (Z ?_)
 refine AJ h (fun h=>Z ?_) (fun h=>Z ?_)
 ·exact AF trivial h
 ·refine AW ?_
  refine CT [false,false,false,false,false,false,false,true] (Tr.sq [7] .fin) (by kernel_rfl) (Z ?_)
  replace h:=AD h; obtain⟨w,y,h⟩:=h
  refine AY (Eg _ _ _ y) (Z ?_)
  replace h:=AD h; obtain⟨q,g,h⟩:=h
  refine AY (Eg _ _ _ g) (Z ?_)
  replace h:=AD h; obtain⟨j,k,h⟩:=h
  refine caG ⟨[],(r6 1001 1000000000 []),[(1,1,0)],(r6 1501 64112 []),[],true⟩ (FR _ _ _ _ k) (Z ?_)
  exact AF trivial h
theorem Hg (a0 a1 a2 a3 r) (h:Bk a0 a1 a2 a3=some r):AG Tryz.prog 236 [.box 1 0,.rop (Grid.avs a1) 0,.agg [.int .i64 a2.machine,.int .i64 a2.kind,.int .i64 a2.index],.agg [.int .i64 a3.machine,.int .i64 a3.kind,.int .i64 a3.index]] (tkG0 1001 a0.agents a0.ports a0.cells a0.vars a0.ends a0.pairs) [(1,(tkG4 1001))] (.bool r.1) (tkG0 1501 r.2.agents r.2.ports r.2.cells r.2.vars r.2.ends r.2.pairs) [(1,(tkG4 1501))] :=by
 unfold Bk at h
 refine agF Tryz.func236 mixed (h:=Z ?_)
 exact AF (k2 AK Mk) h
theorem Nb (n:Nat):(∀a1 a2 a3 u w y q g j k r,Bt n a1 a2 a3 u w y q g j k=some r→Dl Tryz.prog Tryz.f237 [1,0,1,0] (.bool r.1) (tkG0 1501 r.2.agents r.2.ports r.2.cells r.2.vars r.2.ends r.2.pairs) [(1,(tkG4 1501))] ⟨[(0,.box 1 0),(1,.rop (Grid.avs a1) 0),(2,.rop (ShardCell.avs a2) 0),(3,.int .i64 a3),(9,.int .i64 k)],(tkG2 1000001000 u w y q g j),[(1,some (tkG4 1000001000))]⟩):=by
 induction n with
 |zero=>exact((fun _ _ _ _ _ _ _ _ _ _ _ h=>by rw [Bt] at h; cases h))
 | succ n ih=>
  have ih0:=ih
  ·intro a1 a2 a3 u w y q g j k r h
   rw [Bt] at h
   refine BO rfl rfl (Z ?_)
   refine Ae (Z ?_)
   refine AJ h (fun h=>Z ?_) (fun h=>Z ?_)
   ·refine AW ?_
    replace h:=AD h; obtain⟨b,d,h⟩:=h
    refine AO d (Address.ds_len _) (Z ?_)
    replace h:=AD h; obtain⟨c,e,h⟩:=h
    refine AY (AK _ _ _ e) (Z ?_)
    refine AW ?_
    refine AJ h (fun h=>Z ?_) (fun h=>Z ?_)
    ·exact AF trivial h
    ·refine AW ?_
     replace h:=AD h; obtain⟨i,l,h⟩:=h
     refine AO l (Address.ds_len _) (Z ?_)
     replace h:=AD h; obtain⟨t,s,h⟩:=h
     refine AY (Eg _ _ _ s) (Z ?_)
     replace h:=AD h; obtain⟨o,z,h⟩:=h
     refine caG ⟨[],(r6 1001 1000001000 []),[(1,1,0)],(r6 1501 112224 []),[],true⟩ (FR _ _ _ _ z) (Z ?_)
     exact AF (k1 ih0) h
   ·exact AF trivial h
theorem K2 (a0 a1 a2 a3 r) (h:EU a0 a1 a2 a3=some r):AG Tryz.prog 237 [.box 1 0,.rop (Grid.avs a1) 0,.rop (ShardCell.avs a2) 0,.int .i64 a3] (tkG0 1001 a0.agents a0.ports a0.cells a0.vars a0.ends a0.pairs) [(1,(tkG4 1001))] (.bool r.1) (tkG0 1501 r.2.agents r.2.ports r.2.cells r.2.vars r.2.ends r.2.pairs) [(1,(tkG4 1501))] :=by
 unfold EU at h
 refine agF Tryz.func237 mixed (h:=Z ?_)
 exact AF (k1 Nb) h
theorem SA (n:Nat):(∀a0 u w y q g k b r,DS n a0 u w y q g k b=some r→Dl Tryz.prog Tryz.f235 [1,1,1,0,1,0] (.bool r.1) (tkG0 1501 r.2.agents r.2.ports r.2.cells r.2.vars r.2.ends r.2.pairs) [(1,(tkG4 1501))] ⟨[(0,.rop (Grid.avs a0) 0),(1,.box 1 0),(5,.int .i64 b)],(tkG2 1000013000 u w y q g k),[(1,some (tkG4 1000013000))]⟩)∧
    (∀a0 b d c e i l t s o r,DT n a0 b d c e i l t s o=some r→Dl Tryz.prog Tryz.f235 [1,1,1,0,1,0,0,1,0,0,1,0,1,0] (.bool r.1) (tkG0 1501 r.2.agents r.2.ports r.2.cells r.2.vars r.2.ends r.2.pairs) [(1,(tkG4 1501))] ⟨[(0,.rop (Grid.avs a0) 0),(1,.box 1 0),(5,.int .i64 b),(6,.rop (Shard.avs d) 0),(7,.int .i64 o)],(tkG2 1000021000 c e i l t s),[(1,some (tkG4 1000021000))]⟩)∧
    (∀a0 b d (z:List Agent) u1 u2 u3 u4 u5 u6 r,DU n a0 b d z u1 u2 u3 u4 u5 u6=some r→Dl Tryz.prog Tryz.f235 [1,1,1,0,1,0,0,1,0,0,1,1,0,1,0] (.bool r.1) (tkG0 1501 r.2.agents r.2.ports r.2.cells r.2.vars r.2.ends r.2.pairs) [(1,(tkG4 1501))] ⟨[(0,.rop (Grid.avs a0) 0),(1,.box 1 0),(5,.int .i64 b),(6,.rop (Shard.avs d) 0),(8,.int .i64 u6)],(tkG2 1000023000 z u1 u2 u3 u4 u5),[(1,some (tkG4 1000023000))]⟩)∧
    (∀a0 b d u7 u8 u9 u10 u11 u12 u13 r,DV n a0 b d u7 u8 u9 u10 u11 u12 u13=some r→Dl Tryz.prog Tryz.f235 [1,1,1,0,1,0,0,1,0,0,1,1,1,1,0] (.bool r.1) (tkG0 1501 r.2.agents r.2.ports r.2.cells r.2.vars r.2.ends r.2.pairs) [(1,(tkG4 1501))] ⟨[(0,.rop (Grid.avs a0) 0),(1,.box 1 0),(5,.int .i64 b),(6,.rop (Shard.avs d) 0),(9,.int .i64 u13)],(tkG2 1000024000 u7 u8 u9 u10 u11 u12),[(1,some (tkG4 1000024000))]⟩)∧
    (∀a0 b u13 d u14 u15 u16 u17 u18 u19 u20 r,Ew n a0 b u13 d u14 u15 u16 u17 u18 u19 u20=some r→Dl Tryz.prog Tryz.f235 [1,1,1,0,1,0,0,1,0,0,1,1,1,1,0,0,1,0,0,1] (.bool r.1) (tkG0 1501 r.2.agents r.2.ports r.2.cells r.2.vars r.2.ends r.2.pairs) [(1,(tkG4 1501))] ⟨[(0,.rop (Grid.avs a0) 0),(1,.box 1 0),(5,.int .i64 b),(6,.rop (Shard.avs d) 0),(9,.int .i64 u13),(131,.bool u20)],(tkG2 1000025000 u14 u15 u16 u17 u18 u19),[(1,some (tkG4 1000025000))]⟩):=by
 induction n with
 |zero=>exact⟨(fun _ _ _ _ _ _ _ _ _ h=>by rw [DS] at h; cases h),(fun _ _ _ _ _ _ _ _ _ _ _ h=>by rw [DT] at h; cases h),(fun _ _ _ _ _ _ _ _ _ _ _ h=>by rw [DU] at h; cases h),(fun _ _ _ _ _ _ _ _ _ _ _ h=>by rw [DV] at h; cases h),(fun _ _ _ _ _ _ _ _ _ _ _ _ h=>by rw [Ew] at h; cases h)⟩
 | succ n ih=>
  obtain⟨ih0,ih1,ih2,ih3,ih4⟩:=ih
  refine⟨?_,?_,?_,?_,?_⟩
  ·intro a0 u w y q g k b r h
   rw [DS] at h
   exact AF (k1 ih1) h
  ·intro a0 b d c e i l t s o r h
   rw [DT] at h
   refine BO rfl rfl (Z ?_)
   refine Ae (Z ?_)
   refine AJ h (fun h=>Z ?_) (fun h=>Z ?_)
   ·refine AW ?_
    refine CT [false,false,false,false,false,false,false,false,false,false,false,false,false,false,false,false,false,false,true,true] (Tr.sq [18,19] .fin) (by kernel_rfl) (Z ?_)
    replace h:=AD h; obtain⟨u22,u23,h⟩:=h
    refine AO u23 (ShardCell.ds_len _) (Z ?_)
    replace h:=AD h; obtain⟨u24,u25,h⟩:=h
    refine AO u25 rfl (Z ?_)
    refine Ai (AU u25) (Z ?_)
    replace h:=AD h; obtain⟨u26,u27,h⟩:=h
    refine Ai (KA (sz:=1) (j:=0) (r:=List.map AB u24) (AU (f:=(slD AB)) u25) rfl (by rfl)) (Z ?_)
    refine AO u27 rfl (Z ?_)
    refine Ai (KA (sz:=1) (j:=0) (r:=List.map AB u24) (AU (f:=(slD AB)) u25) rfl (by rfl)) (Z ?_)
    refine Ai (AU u27) (Z ?_)
    replace h:=AD h; obtain⟨u28,u29,h⟩:=h
    refine caG ⟨[],(r6 1001 1000021000 []),[(1,1,0)],(r6 1501 192288 []),[],true⟩ (K2 _ _ _ _ _ u29) (Z ?_)
    exact AF (k1 ih1) h
   ·exact AF (k1 ih2) h
  ·intro a0 b d z u1 u2 u3 u4 u5 u6 r h
   rw [DU] at h
   refine BO rfl rfl (Z ?_)
   refine Ae (Z ?_)
   refine AJ h (fun h=>Z ?_) (fun h=>Z ?_)
   ·refine AW ?_
    refine CT [false,false,false,false,false,false,false,false,false,false,false,false,false,false,false,false,false,false,true,true] (Tr.sq [18,19] .fin) (by kernel_rfl) (Z ?_)
    replace h:=AD h; obtain⟨u30,u31,h⟩:=h
    refine AO u31 (ShardRedex.ds_len _) (Z ?_)
    replace h:=AD h; obtain⟨u32,u33,h⟩:=h
    refine AO u33 (ShardRedex.ds_len _) (Z ?_)
    replace h:=AD h; obtain⟨u34,u35,h⟩:=h
    refine caG ⟨[],(r6 1001 1000023000 []),[(1,1,0)],(r6 1501 272288 []),[],true⟩ (Hg _ _ _ _ _ u35) (Z ?_)
    exact AF (k1 ih2) h
   ·exact AF (k1 ih3) h
  ·intro a0 b d u7 u8 u9 u10 u11 u12 u13 r h
   rw [DV] at h
   refine BO rfl rfl (Z ?_)
   refine Ae (Z ?_)
   refine AJ h (fun h=>Z ?_) (fun h=>Z ?_)
   ·refine AW ?_
    replace h:=AD h; obtain⟨u36,u37,h⟩:=h
    refine AO u37 (ShardVar.ds_len _) (Z ?_)
    refine AJ h (fun h=>Z ?_) (fun h=>Z ?_)
    ·replace h:=AD h; obtain⟨u38,u39,h⟩:=h
     refine AO u39 (ShardVar.ds_len _) (Z ?_)
     replace h:=AD h; obtain⟨u40,u41,h⟩:=h
     refine caG ⟨[],(r6 1001 1000024000 []),[(1,1,0)],(r6 1501 352352 []),[],true⟩ (Hg _ _ _ _ _ u41) (Z ?_)
     exact AF (k1 ih4) h
    ·exact AF (k1 ih4) h
   ·exact AF (k1 ih0) h
  ·intro a0 b u13 d u14 u15 u16 u17 u18 u19 u20 r h
   rw [Ew] at h
   exact AF (k1 ih3) h
def TA (n:Nat):=(SA n).1
theorem Zd (a0 a1 r) (h:JG a0 a1=some r):AG Tryz.prog 235 [.rop (Grid.avs a0) 0,.box 1 0] (tkG0 1001 a1.agents a1.ports a1.cells a1.vars a1.ends a1.pairs) [(1,(tkG4 1001))] (.bool r.1) (tkG0 1501 r.2.agents r.2.ports r.2.cells r.2.vars r.2.ends r.2.pairs) [(1,(tkG4 1501))] :=by
 unfold JG at h
 refine agF Tryz.func235 mixed (h:=Z ?_)
 replace h:=AD h; obtain⟨u,w,h⟩:=h
 refine AY (AK _ _ _ w) (Z ?_)
 refine AW ?_
 refine AJ h (fun h=>Z ?_) (fun h=>Z ?_)
 ·exact AF trivial h
 ·refine AW ?_
  replace h:=AD h; obtain⟨y,q,h⟩:=h
  refine AY (Eg _ _ _ q) (Z ?_)
  replace h:=AD h; obtain⟨g,j,h⟩:=h
  refine caG ⟨[],(r6 1001 1001 []),[(1,1,0)],(r6 1501 64112 []),[],true⟩ (FR _ _ _ _ j) (Z ?_)
  exact AF (k1 TA) h
theorem Pa (n:Nat):(∀a0 u w y q g j k d c r,BG n a0 u w y q g j k d c=some r→Dl Tryz.prog Tryz.f180 [1,1,1,1,1,1,0,1,0] (.tup [.box 1601 0,.bool r.2]) (tkG0 1501 r.1.agents r.1.ports r.1.cells r.1.vars r.1.ends r.1.pairs) [(1601,(tkG4 1501))] ⟨[(0,.rop (Cluster.avs a0) 0),(7,.box 1000013500 0),(8,.own 1000013006),(9,.int .i64 d),(10,.int .i64 c)],(tkG3 1000013000 w y q g j k u.2),[(1000013500,some (tkG4 1000013000))]⟩)∧
    (∀a0 c u e i l t s o (z:Int) u1 r,BH n a0 c u e i l t s o z u1=some r→Dl Tryz.prog Tryz.f180 [1,1,1,1,1,1,0,1,0,0,1,0,0,1,0] (.tup [.box 1601 0,.bool r.2]) (tkG0 1501 r.1.agents r.1.ports r.1.cells r.1.vars r.1.ends r.1.pairs) [(1601,(tkG4 1501))] ⟨[(0,.rop (Cluster.avs a0) 0),(7,.box 1000017500 0),(8,.own 1000017006),(9,.int .i64 z),(10,.int .i64 c),(11,.int .i64 u1)],(tkG3 1000017000 e i l t s o u.2),[(1000017500,some (tkG4 1000017000))]⟩)∧
    (∀a0 c e i l t s o (z:Int) u1 u u2 u3 r,B5 n a0 c e i l t s o z u1 u u2 u3=some r→Dl Tryz.prog Tryz.f180 [1,1,1,1,1,1,0,1,0,0,1,0,0,1,0,0,1,0,0,1,1,0,1] (.tup [.box 1601 0,.bool r.2]) (tkG0 1501 r.1.agents r.1.ports r.1.cells r.1.vars r.1.ends r.1.pairs) [(1601,(tkG4 1501))] ⟨[(0,.rop (Cluster.avs a0) 0),(7,.box 1000018500 0),(8,.own 1000018006),(9,.int .i64 z),(10,.int .i64 c),(11,.int .i64 u1),(12,.rop (Parcel.avs u2) 0),(109,.int .i64 u2.kind),(110,.bool u3)],(tkG3 1000018000 e i l t s o u.2),[(1000018500,some (tkG4 1000018000))]⟩)∧
    (∀a0 c (z:Int) u1 u u2 u4 u5 r,C7 n a0 c z u1 u u2 u4 u5=some r→Dl Tryz.prog Tryz.f180 [1,1,1,1,1,1,0,1,0,0,1,0,0,1,0,0,1,0,0,1,1,0,1,1,1,0,0,1] (.tup [.box 1601 0,.bool r.2]) (tkG0 1501 r.1.agents r.1.ports r.1.cells r.1.vars r.1.ends r.1.pairs) [(1601,(tkG4 1501))] ⟨[(0,.rop (Cluster.avs a0) 0),(7,.box 1000019500 0),(8,.own 1000019006),(9,.int .i64 z),(10,.int .i64 c),(11,.int .i64 u1),(12,.rop (Parcel.avs u2) 0),(153,.bool u5)],(tkG3 1000019000 u4.2.agents u4.2.ports u4.2.cells u4.2.vars u4.2.ends u4.2.pairs u.2),[(1000019500,some (tkG4 1000019000))]⟩):=by
 induction n with
 |zero=>exact⟨(fun _ _ _ _ _ _ _ _ _ _ _ h=>by rw [BG] at h; cases h),(fun _ _ _ _ _ _ _ _ _ _ _ _ h=>by rw [BH] at h; cases h),(fun _ _ _ _ _ _ _ _ _ _ _ _ _ _ h=>by rw [B5] at h; cases h),(fun _ _ _ _ _ _ _ _ _ h=>by rw [C7] at h; cases h)⟩
 | succ n ih=>
  obtain⟨ih0,ih1,ih2,ih3⟩:=ih
  refine⟨?_,?_,?_,?_⟩
  ·intro a0 u w y q g j k d c r h
   rw [BG] at h
   exact AF (k1 ih1) h
  ·intro a0 c u e i l t s o z u1 r h
   rw [BH] at h
   exact AF (k2 ih2 ih0) h
  ·intro a0 c e i l t s o z u1 u u2 u3 r h
   rw [B5] at h
   refine BO rfl rfl (Z ?_)
   refine AJ h (fun h=>Z ?_) (fun h=>Z ?_)
   ·refine CT [false,false,false,false,false,false,false,false,false,false,false,false,true,true] (Tr.sq [12,13] .fin) (by kernel_rfl) (Z ?_)
    replace h:=AD h; obtain⟨u11,u12,h⟩:=h
    refine caG ⟨[],(r6 1001 1000018000 []),[(1,1000018500,0)],(r6 1501 400192 []),[],true⟩ (Hg _ _ _ _ _ u12) (Z ?_)
    exact AF (k1 ih1) h
   ·refine AJ h (fun h=>Z ?_) (fun h=>Z ?_)
    ·replace h:=AD h; obtain⟨u13,u14,h⟩:=h
     replace h:=AD h; obtain⟨u4,u15,h⟩:=h
     refine CT [false,false,false,false,false,false,false,false,false,false,false,true,true,true,true,true,true,true,true,true,true,true,true,true] (Tr.sq [11,12,13] (.br 14 (.br 15 (.br 16 (Tr.sq [17,18,19,20,21,22,23] .fin) (.br 17 (.br 16 (Tr.sq [18,19,20,21,22,23] .fin) (.br 18 (.br 16 (Tr.sq [19,20,21,22,23] .fin) (.br 19 (.br 16 (Tr.sq [20,21,22,23] .fin) (.br 20 (Tr.sq [16,21,22,23] .fin) .stop)) .stop)) .stop)) .stop)) (.br 17 (.br 15 (.br 16 (Tr.sq [18,19,20,21,22,23] .fin) (.br 18 (.br 16 (Tr.sq [19,20,21,22,23] .fin) (.br 19 (.br 16 (Tr.sq [20,21,22,23] .fin) (.br 20 (Tr.sq [16,21,22,23] .fin) .stop)) .stop)) .stop)) (.br 18 (.br 15 (.br 16 (Tr.sq [19,20,21,22,23] .fin) (.br 19 (.br 16 (Tr.sq [20,21,22,23] .fin) (.br 20 (Tr.sq [16,21,22,23] .fin) .stop)) .stop)) (.br 19 (.br 15 (.br 16 (Tr.sq [20,21,22,23] .fin) (.br 20 (Tr.sq [16,21,22,23] .fin) .stop)) (.br 20 (Tr.sq [15,16,21,22,23] .fin) .stop)) .stop)) .stop)) .stop)) (.br 17 (.br 14 (.br 15 (.br 16 (Tr.sq [18,19,20,21,22,23] .fin) (.br 18 (.br 16 (Tr.sq [19,20,21,22,23] .fin) (.br 19 (.br 16 (Tr.sq [20,21,22,23] .fin) (.br 20 (Tr.sq [16,21,22,23] .fin) .stop)) .stop)) .stop)) (.br 18 (.br 15 (.br 16 (Tr.sq [19,20,21,22,23] .fin) (.br 19 (.br 16 (Tr.sq [20,21,22,23] .fin) (.br 20 (Tr.sq [16,21,22,23] .fin) .stop)) .stop)) (.br 19 (.br 15 (.br 16 (Tr.sq [20,21,22,23] .fin) (.br 20 (Tr.sq [16,21,22,23] .fin) .stop)) (.br 20 (Tr.sq [15,16,21,22,23] .fin) .stop)) .stop)) .stop)) (.br 18 (.br 14 (.br 15 (.br 16 (Tr.sq [19,20,21,22,23] .fin) (.br 19 (.br 16 (Tr.sq [20,21,22,23] .fin) (.br 20 (Tr.sq [16,21,22,23] .fin) .stop)) .stop)) (.br 19 (.br 15 (.br 16 (Tr.sq [20,21,22,23] .fin) (.br 20 (Tr.sq [16,21,22,23] .fin) .stop)) (.br 20 (Tr.sq [15,16,21,22,23] .fin) .stop)) .stop)) (.br 19 (.br 14 (.br 15 (.br 16 (Tr.sq [20,21,22,23] .fin) (.br 20 (Tr.sq [16,21,22,23] .fin) .stop)) (.br 20 (Tr.sq [15,16,21,22,23] .fin) .stop)) (.br 20 (Tr.sq [14,15,16,21,22,23] .fin) .stop)) .stop)) .stop)) .stop))) (by kernel_rfl) (Z ?_)
     refine AO u14 rfl (Z ?_)
     refine Ai (AU u14) (Z ?_)
     refine caG ⟨[],(r6 1001 1000018000 []),[(1,1000018500,0)],(r6 1501 448176 []),[],true⟩ (K2 _ _ _ _ _ u15) ?_
     try simp only [go_sem]
     refine A3 (Z ?_) (Z ?_)
     ·refine AJ h (fun h=>?_) (fun h=>?_)
      ·try simp only [go_sem]
       refine A3 ?_ ?_
       ·try simp only [go_sem]
        refine A3 ?_ ?_
        ·try simp only [go_sem]
         exact AF (k1 ih3) h
        ·try simp only [go_sem]
         refine A3 ?_ ?_
         ·try simp only [go_sem]
          exact AF (k1 ih3) h
         ·try simp only [go_sem]
          refine A3 ?_ ?_
          ·try simp only [go_sem]
           exact AF (k1 ih3) h
          ·try simp only [go_sem]
           refine A3 (Z ?_) (Z ?_)
           ·exact AF (k1 ih3) h
           ·exact AF (k1 ih3) h
       ·try simp only [go_sem]
        refine A3 ?_ ?_
        ·try simp only [go_sem]
         refine A3 ?_ ?_
         ·try simp only [go_sem]
          exact AF (k1 ih3) h
         ·try simp only [go_sem]
          refine A3 ?_ ?_
          ·try simp only [go_sem]
           exact AF (k1 ih3) h
          ·try simp only [go_sem]
           refine A3 (Z ?_) (Z ?_)
           ·exact AF (k1 ih3) h
           ·exact AF (k1 ih3) h
        ·try simp only [go_sem]
         refine A3 ?_ ?_
         ·try simp only [go_sem]
          refine A3 ?_ ?_
          ·try simp only [go_sem]
           exact AF (k1 ih3) h
          ·try simp only [go_sem]
           refine A3 (Z ?_) (Z ?_)
           ·exact AF (k1 ih3) h
           ·exact AF (k1 ih3) h
         ·try simp only [go_sem]
          refine A3 ?_ ?_
          ·try simp only [go_sem]
           refine A3 (Z ?_) (Z ?_)
           ·exact AF (k1 ih3) h
           ·exact AF (k1 ih3) h
          ·try simp only [go_sem]
           exact AF (k1 ih3) h
      ·replace h:=AD h; obtain⟨u16,u17,h⟩:=h
       try simp only [go_sem]
       refine A3 ?_ ?_
       ·try simp only [go_sem]
        refine A3 ?_ ?_
        ·try simp only [go_sem]
         exact AF (k2 AK ih3) h
        ·try simp only [go_sem]
         refine A3 ?_ ?_
         ·try simp only [go_sem]
          exact AF (k2 AK ih3) h
         ·try simp only [go_sem]
          refine A3 ?_ ?_
          ·try simp only [go_sem]
           exact AF (k2 AK ih3) h
          ·try simp only [go_sem]
           refine A3 (Z ?_) (Z ?_)
           ·exact AF (k2 AK ih3) h
           ·exact AF (k2 AK ih3) h
       ·try simp only [go_sem]
        refine A3 ?_ ?_
        ·try simp only [go_sem]
         refine A3 ?_ ?_
         ·try simp only [go_sem]
          exact AF (k2 AK ih3) h
         ·try simp only [go_sem]
          refine A3 ?_ ?_
          ·try simp only [go_sem]
           exact AF (k2 AK ih3) h
          ·try simp only [go_sem]
           refine A3 (Z ?_) (Z ?_)
           ·exact AF (k2 AK ih3) h
           ·exact AF (k2 AK ih3) h
        ·try simp only [go_sem]
         refine A3 ?_ ?_
         ·try simp only [go_sem]
          refine A3 ?_ ?_
          ·try simp only [go_sem]
           exact AF (k2 AK ih3) h
          ·try simp only [go_sem]
           refine A3 (Z ?_) (Z ?_)
           ·exact AF (k2 AK ih3) h
           ·exact AF (k2 AK ih3) h
         ·try simp only [go_sem]
          refine A3 ?_ ?_
          ·try simp only [go_sem]
           refine A3 (Z ?_) (Z ?_)
           ·exact AF (k2 AK ih3) h
           ·exact AF (k2 AK ih3) h
          ·try simp only [go_sem]
           exact AF (k2 AK ih3) h
     ·refine AJ h (fun h=>?_) (fun h=>?_)
      ·try simp only [go_sem]
       refine A3 ?_ ?_
       ·try simp only [go_sem]
        refine A3 ?_ ?_
        ·try simp only [go_sem]
         refine A3 ?_ ?_
         ·try simp only [go_sem]
          exact AF (k1 ih3) h
         ·try simp only [go_sem]
          refine A3 ?_ ?_
          ·try simp only [go_sem]
           exact AF (k1 ih3) h
          ·try simp only [go_sem]
           refine A3 (Z ?_) (Z ?_)
           ·exact AF (k1 ih3) h
           ·exact AF (k1 ih3) h
        ·try simp only [go_sem]
         refine A3 ?_ ?_
         ·try simp only [go_sem]
          refine A3 ?_ ?_
          ·try simp only [go_sem]
           exact AF (k1 ih3) h
          ·try simp only [go_sem]
           refine A3 (Z ?_) (Z ?_)
           ·exact AF (k1 ih3) h
           ·exact AF (k1 ih3) h
         ·try simp only [go_sem]
          refine A3 ?_ ?_
          ·try simp only [go_sem]
           refine A3 (Z ?_) (Z ?_)
           ·exact AF (k1 ih3) h
           ·exact AF (k1 ih3) h
          ·try simp only [go_sem]
           exact AF (k1 ih3) h
       ·try simp only [go_sem]
        refine A3 ?_ ?_
        ·try simp only [go_sem]
         refine A3 ?_ ?_
         ·try simp only [go_sem]
          refine A3 ?_ ?_
          ·try simp only [go_sem]
           exact AF (k1 ih3) h
          ·try simp only [go_sem]
           refine A3 (Z ?_) (Z ?_)
           ·exact AF (k1 ih3) h
           ·exact AF (k1 ih3) h
         ·try simp only [go_sem]
          refine A3 ?_ ?_
          ·try simp only [go_sem]
           refine A3 (Z ?_) (Z ?_)
           ·exact AF (k1 ih3) h
           ·exact AF (k1 ih3) h
          ·try simp only [go_sem]
           exact AF (k1 ih3) h
        ·try simp only [go_sem]
         refine A3 ?_ ?_
         ·try simp only [go_sem]
          refine A3 ?_ ?_
          ·try simp only [go_sem]
           refine A3 (Z ?_) (Z ?_)
           ·exact AF (k1 ih3) h
           ·exact AF (k1 ih3) h
          ·try simp only [go_sem]
           exact AF (k1 ih3) h
         ·try simp only [go_sem]
          exact AF (k1 ih3) h
      ·replace h:=AD h; obtain⟨u16,u17,h⟩:=h
       try simp only [go_sem]
       refine A3 ?_ ?_
       ·try simp only [go_sem]
        refine A3 ?_ ?_
        ·try simp only [go_sem]
         refine A3 ?_ ?_
         ·try simp only [go_sem]
          exact AF (k2 AK ih3) h
         ·try simp only [go_sem]
          refine A3 ?_ ?_
          ·try simp only [go_sem]
           exact AF (k2 AK ih3) h
          ·try simp only [go_sem]
           refine A3 (Z ?_) (Z ?_)
           ·exact AF (k2 AK ih3) h
           ·exact AF (k2 AK ih3) h
        ·try simp only [go_sem]
         refine A3 ?_ ?_
         ·try simp only [go_sem]
          refine A3 ?_ ?_
          ·try simp only [go_sem]
           exact AF (k2 AK ih3) h
          ·try simp only [go_sem]
           refine A3 (Z ?_) (Z ?_)
           ·exact AF (k2 AK ih3) h
           ·exact AF (k2 AK ih3) h
         ·try simp only [go_sem]
          refine A3 ?_ ?_
          ·try simp only [go_sem]
           refine A3 (Z ?_) (Z ?_)
           ·exact AF (k2 AK ih3) h
           ·exact AF (k2 AK ih3) h
          ·try simp only [go_sem]
           exact AF (k2 AK ih3) h
       ·try simp only [go_sem]
        refine A3 ?_ ?_
        ·try simp only [go_sem]
         refine A3 ?_ ?_
         ·try simp only [go_sem]
          refine A3 ?_ ?_
          ·try simp only [go_sem]
           exact AF (k2 AK ih3) h
          ·try simp only [go_sem]
           refine A3 (Z ?_) (Z ?_)
           ·exact AF (k2 AK ih3) h
           ·exact AF (k2 AK ih3) h
         ·try simp only [go_sem]
          refine A3 ?_ ?_
          ·try simp only [go_sem]
           refine A3 (Z ?_) (Z ?_)
           ·exact AF (k2 AK ih3) h
           ·exact AF (k2 AK ih3) h
          ·try simp only [go_sem]
           exact AF (k2 AK ih3) h
        ·try simp only [go_sem]
         refine A3 ?_ ?_
         ·try simp only [go_sem]
          refine A3 ?_ ?_
          ·try simp only [go_sem]
           refine A3 (Z ?_) (Z ?_)
           ·exact AF (k2 AK ih3) h
           ·exact AF (k2 AK ih3) h
          ·try simp only [go_sem]
           exact AF (k2 AK ih3) h
         ·try simp only [go_sem]
          exact AF (k2 AK ih3) h
    ·exact AF (k1 ih1) h
  ·intro a0 c z u1 u u2 u4 u5 r h
   rw [C7] at h
   refine BO rfl rfl (Z ?_)
   refine AJ h (fun h=>Z ?_) (fun h=>Z ?_)
   ·exact AF trivial h
   ·refine AW ?_
    refine CT [false,false,false,false,false,false,false,false,false,false,false,true] (Tr.sq [11] .fin) (by kernel_rfl) (Z ?_)
    replace h:=AD h; obtain⟨u18,u19,h⟩:=h
    refine AO u19 rfl (Z ?_)
    refine Ai (AU u19) (Z ?_)
    replace h:=AD h; obtain⟨u20,u21,h⟩:=h
    refine AY (Eg _ _ _ u21) (Z ?_)
    replace h:=AD h; obtain⟨u22,u23,h⟩:=h
    refine caG ⟨[],(r6 1001 1000019000 []),[(1,1000019500,0)],(r6 1501 480176 []),[],true⟩ (FR _ _ _ _ u23) (Z ?_)
    exact AF (k1 ih1) h
def Q2 (n:Nat):=(Pa n).1
theorem Pb (n:Nat):(∀a0 u w r,B6 n a0 u w=some r→Dl Tryz.prog Tryz.f180 [1,1,0,1,0] (.tup [.box 1601 0,.bool r.2]) (tkG0 1501 r.1.agents r.1.ports r.1.cells r.1.vars r.1.ends r.1.pairs) [(1601,(tkG4 1501))] ⟨[(0,.rop (Cluster.avs a0) 0),(4,.own 1000003000),(5,.int .i64 w)],[(1000003000,some ⟨List.map ShardCell.dz u,some 5,0,.yes⟩)],[]⟩)∧
    (∀a0 w y q r,B7 n a0 w y q=some r→Dl Tryz.prog Tryz.f180 [1,1,0,1,0,0,1,0,0,1,0] (.tup [.box 1601 0,.bool r.2]) (tkG0 1501 r.1.agents r.1.ports r.1.cells r.1.vars r.1.ends r.1.pairs) [(1601,(tkG4 1501))] ⟨[(0,.rop (Cluster.avs a0) 0),(4,.own 1000005000),(5,.int .i64 w),(6,.int .i64 q)],[(1000005000,some ⟨List.map ShardCell.dz y,some 5,0,.yes⟩)],[]⟩):=by
 induction n with
 |zero=>exact⟨(fun _ _ _ _ h=>by rw [B6] at h; cases h),(fun _ _ _ _ _ h=>by rw [B7] at h; cases h)⟩
 | succ n ih=>
  obtain⟨ih0,ih1⟩:=ih
  refine⟨?_,?_⟩
  ·intro a0 u w r h
   rw [B6] at h
   refine BO rfl rfl (Z ?_)
   refine Ae (Z ?_)
   refine AJ h (fun h=>Z ?_) (fun h=>Z ?_)
   ·exact AF (k1 ih1) h
   ·refine lA (.frzT 1000003000 [(4,[])] [] _ _ _ (by (first|rfl|(simp only [go_sem]; rfl))) (by decide) (by (first|rfl|(simp only [go_sem]; rfl))) (by (first|rfl|(simp only [go_sem]; rfl))) (.done _)) (Z ?_)
    all_goals try rfl
    replace h:=AD h; obtain⟨g,j,h⟩:=h
    refine caG ⟨[],[],[],(r7 1501 176065 []),[(1601,176064)],true⟩ (Vm _ _ _ j) (Z ?_)
    refine AW ?_
    replace h:=AD h; obtain⟨k,b,h⟩:=h
    refine caG ⟨[],(r6 1001 176065 []),[(1,176064,0)],(r6 1501 192064 []),[],true⟩ (Zd _ _ _ b) (Z ?_)
    exact AF (k1 Q2) h
  ·intro a0 w y q r h
   rw [B7] at h
   refine BO rfl rfl (Z ?_)
   refine Ae (Z ?_)
   replace h:=AD h; obtain⟨d,c,h⟩:=h
   refine AO c rfl (Z ?_)
   refine AJ h (fun h=>Z ?_) (fun h=>Z ?_)
   ·refine AW ?_
    replace h:=AD h; obtain⟨e,i,h⟩:=h
    refine AO i rfl (Z ?_)
    replace h:=AD h; obtain⟨l,t,h⟩:=h
    refine AO t (Parcel.ds_len _) (Z ?_)
    refine AJ h (fun h=>Z ?_) (fun h=>Z ?_)
    ·replace h:=AD h; obtain⟨s,o,h⟩:=h
     refine AO o rfl (Z ?_)
     replace h:=AD h; obtain⟨z,u1,h⟩:=h
     refine AO u1 (Parcel.ds_len _) (Z ?_)
     replace h:=AD h; obtain⟨u2,u3,h⟩:=h
     have hq_:=Al u3
     obtain⟨hv10013a,hv10013b⟩:=hq_
     refine BW .yes (Z ?_)
     refine Ad (by refine⟨?_,?_⟩ <;> (try simp only [List.length_map,List.length_append,List.length_cons,List.length_nil] at*) <;> (try unfold maxLen) <;> omega) (Z ?_)
     refine AP (u2.map ShardCell.dz) (by rw [← hv10013b]; simp only [List.map_append,List.map_cons,List.map_nil,List.nil_append,List.append_nil,go_sem,ShardCell.ds_eq,ShardCell.dz_eq]) (Z ?_)
     exact AF (k1 ih1) h
    ·exact AF (k1 ih1) h
   ·exact AF (k1 ih0) h
def Q3 (n:Nat):=(Pb n).1
theorem Vn (a0 r) (h:Hf a0=some r):AG Tryz.prog 180 [.rop (Cluster.avs a0) 0] [] [] (.tup [.box 1601 0,.bool r.2]) (tkG0 1501 r.1.agents r.1.ports r.1.cells r.1.vars r.1.ends r.1.pairs) [(1601,(tkG4 1501))] :=by
 unfold Hf at h
 refine agF Tryz.func180 mixed (h:=Z ?_)
 refine AW ?_
 refine CX (Je rfl rfl (Q3 fuel a0 [] 0 _ h):) (.one ⟨_,.lit 4 2000000000 2000 0 5 .yes [] _ _ (by (first|rfl|(simp only [go_sem]; rfl))) (by simp only [go_sem]; rfl) (by (first|rfl|(simp only [go_sem]; rfl))) (by (first|rfl|(simp only [go_sem]; rfl))) (by decide) (by decide) (by simp only [go_sem]) (.done _),[(1000003000,2000000000)],[],?_⟩)
 simp only [go_sem]
 all_goals try rfl
theorem OO (n:Nat):(∀a0 a1 u r,Bl n a0 a1 u=some r→Aa Tryz.prog Tryz.f181 [1,1,0,1,0] (.bool r) ⟨[(0,.rop (Grid.avs a0) 0),(1,.rop (L27Links.avs a1) 0),(6,.int .i64 u)],[],[]⟩)∧
    (∀a0 a1 u w r,CG n a0 a1 u w=some r→Aa Tryz.prog Tryz.f181 [1,1,0,1,0,0,1,0,0,1,0] (.bool r) ⟨[(0,.rop (Grid.avs a0) 0),(1,.rop (L27Links.avs a1) 0),(6,.int .i64 u),(7,.int .i64 w)],[],[]⟩)∧
    (∀a0 a1 u w y r,Dv n a0 a1 u w y=some r→Aa Tryz.prog Tryz.f181 [1,1,0,1,0,0,1,0,0,1,0,0,1,0,0,1] (.bool r) ⟨[(0,.rop (Grid.avs a0) 0),(1,.rop (L27Links.avs a1) 0),(6,.int .i64 u),(7,.int .i64 w),(79,.bool y)],[],[]⟩):=by
 induction n with
 |zero=>exact⟨(fun _ _ _ _ h=>by rw [Bl] at h; cases h),(fun _ _ _ _ _ h=>by rw [CG] at h; cases h),(fun _ _ _ _ _ _ h=>by rw [Dv] at h; cases h)⟩
 | succ n ih=>
  obtain⟨ih0,ih1,ih2⟩:=ih
  refine⟨?_,?_,?_⟩
  ·intro a0 a1 u r h
   rw [Bl] at h
   exact AF (k1 ih1) h
  ·intro a0 a1 u w r h
   rw [CG] at h
   exact AF (k2 ih2 ih0) h
  ·intro a0 a1 u w y r h
   rw [Dv] at h
   exact AF (k1 ih1) h
def Pc (n:Nat):=(OO n).1
theorem Q4 (n:Nat):(∀a0 a1 u r,Dg n a0 a1 u=some r→Aa Tryz.prog Tryz.f181 [1,0,1,0] (.bool r) ⟨[(0,.rop (Grid.avs a0) 0),(1,.rop (L27Links.avs a1) 0),(5,.int .i64 u)],[],[]⟩):=by
 induction n with
 |zero=>exact((fun _ _ _ _ h=>by rw [Dg] at h; cases h))
 | succ n ih=>
  have ih0:=ih
  ·intro a0 a1 u r h
   rw [Dg] at h
   exact AF (k2 ih0 Pc) h
theorem VE (a0 a1 r) (h:Hr a0 a1=some r):AC Tryz.prog 181 [.rop (Grid.avs a0) 0,.rop (L27Links.avs a1) 0] (.bool r):=by
 unfold Hr at h
 refine acF Tryz.func181 mixed (h:=Z ?_)
 exact AF (k1 Q4) h
theorem ax (a0 r) (h:Qa a0=some r):AC Tryz.prog 123 [.rop (Cluster.avs a0) 0] (.bool r):=by
 unfold Qa at h
 refine acF Tryz.func123 mixed (h:=Z ?_)
 replace h:=AD h; obtain⟨u,w,h⟩:=h
 refine AY (VD _ _ w) (Z ?_)
 refine AW ?_
 refine AJ h (fun h=>Z ?_) (fun h=>Z ?_)
 ·exact AF trivial h
 ·refine AW ?_
  replace h:=AD h; obtain⟨y,q,h⟩:=h
  refine caG ⟨[],[],[],(r6 1501 64017 []),[(1601,64016)],true⟩ (Vn _ _ q) (Z ?_)
  exact AF (k1 VE) h
end Go.Proofs.YtclmbjbbojdojaaGreat.Ab
