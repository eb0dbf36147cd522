/-
 The functions do what their models say. Printed by wip/ab/gen.py.
-/
import Derived.Test.YtclmbjbbojdojaaGreatModC
import Derived.Test.YtclmbjbbojdojaaGreatTi2
import Derived.Test.YtclmbjbbojdojaaGreatWlkS
namespace Go.Proofs.YtclmbjbbojdojaaGreat.Ab
set_option linter.unusedVariables false
set_option linter.unusedSimpArgs false
set_option maxRecDepth 20000
set_option maxHeartbeats 4000000
open Go.RowKit
theorem QI (n:Nat):(∀a0 u w y r,EG n a0 u w y=some r→E4 Tryz.prog Tryz.f70 [1,1,1,1,0,1,0] (.agg [.own 1501,.int .i64 r.grid.root.machine,.int .i64 r.grid.root.kind,.int .i64 r.grid.root.index,.own 1502,.own 1503,.own 1504,.own 1505]) [(1501,⟨List.map Shard.ds r.grid.shards,some 3,0,.no⟩),(1502,⟨List.map (slD Parcel.ds) r.channels,some 1,0,.no⟩),(1503,⟨List.map (slD AJ) r.counts,some 1,0,.no⟩),(1504,⟨List.map AJ r.sent,some 1,0,.no⟩),(1505,⟨List.map AJ r.got,some 1,0,.no⟩)] [] ⟨[(2,.box 1000001500 0),(3,.box 1000001501 0),(4,.int .i64 ((List.length a0.shards:Nat):Int)),(5,.int .i64 y)],[(1000001000,some ⟨List.map Shard.ds a0.shards,some 3,0,.no⟩),(1000001001,some ⟨List.map (slD Parcel.ds) u,some 1,0,.no⟩),(1000001002,some ⟨List.map (slD AJ) w,some 1,0,.no⟩)],[(1000001500,some [.nils,.int .i64 0,.int .i64 0,.int .i64 0,.nils,.nils,.nils,.nils]),(1000001501,some [.own 1000001000,.int .i64 a0.root.machine,.int .i64 a0.root.kind,.int .i64 a0.root.index,.own 1000001001,.own 1000001002,.nils,.nils])]⟩):=by
 induction n with
 |zero=>exact((fun _ _ _ _ _ h=>by rw [EG] at h; cases h))
 | succ n ih=>
  have ih0:=ih
  ·intro a0 u w y r h
   rw [EG] at h
   refine Bo rfl rfl (Z ?_)
   refine AY (Z ?_)
   refine AD h (fun h=>Z ?_) (fun h=>Z ?_)
   ·refine AF ?_
    refine Aa [false,false,false,false,true,true,true] (Tr.sq [4,5,6] .fin) (by kernel_rfl) (Z ?_)
    replace h:=AB h; obtain⟨q,g,h⟩:=h
    have hq_:=CS g
    obtain⟨hv8002a,hv8002b,hv8002c⟩:=hq_
    refine Ad (by refine⟨?_,?_,?_⟩ <;> omega) (Z ?_)
    refine BN .no (Z ?_)
    refine AT (List.map AJ q) (by rw [← hv8002c]; simp only [List.map_replicate,go_sem,slD]) (Z ?_)
    replace h:=AB h; obtain⟨j,k,h⟩:=h
    have hq_:=Au k
    obtain⟨hv8004a,hv8004b⟩:=hq_
    refine BN .no (Z ?_)
    refine Ad (by refine⟨?_,?_⟩ <;> (try simp only [List.length_map,List.length_append,List.length_cons,List.length_nil] at*) <;> (try unfold maxLen) <;> omega) (Z ?_)
    refine AT (List.map (slD AJ) j) (by rw [← hv8004b]; simp only [List.map_append,List.map_cons,List.map_nil,List.nil_append,List.append_nil,go_sem,slD]) (Z ?_)
    refine AF ?_
    exact lpG (ih0 a0 u j (IntKind.i64.wrap (y+1)) _ h) [(1000001000,1000001000),(1000001001,1000001001),(1000001002,128064)] [(1000001500,1000001500),(1000001501,1000001501)]
   ·refine AF ?_
    replace h:=AB h; obtain⟨b,d,h⟩:=h
    have hq_:=CS d
    obtain⟨hv9001a,hv9001b,hv9001c⟩:=hq_
    refine Ad (by refine⟨?_,?_,?_⟩ <;> omega) (Z ?_)
    refine BN .no (Z ?_)
    refine AT (List.map AJ b) (by rw [← hv9001c]; simp only [List.map_replicate,go_sem,slD]) (Z ?_)
    refine AF ?_
    replace h:=AB h; obtain⟨c,e,h⟩:=h
    have hq_:=CS e
    obtain⟨hv10001a,hv10001b,hv10001c⟩:=hq_
    refine Ad (by refine⟨?_,?_,?_⟩ <;> omega) (Z ?_)
    refine BN .no (Z ?_)
    refine AT (List.map AJ c) (by rw [← hv10001c]; simp only [List.map_replicate,go_sem,slD]) (Z ?_)
    refine AF ?_
    cases h
    refine Cc (.done _) [(1501,1000001000),(1502,1000001001),(1503,1000001002),(1504,144016),(1505,160016)] [] ?_
    simp only [go_sem]
theorem UE (a0 r) (h:KS a0=some r):AG Tryz.prog 70 [.agg [.own 1001,.int .i64 a0.root.machine,.int .i64 a0.root.kind,.int .i64 a0.root.index]] [(1001,⟨List.map Shard.ds a0.shards,some 3,0,.no⟩)] [] (.agg [.own 1501,.int .i64 r.grid.root.machine,.int .i64 r.grid.root.kind,.int .i64 r.grid.root.index,.own 1502,.own 1503,.own 1504,.own 1505]) [(1501,⟨List.map Shard.ds r.grid.shards,some 3,0,.no⟩),(1502,⟨List.map (slD Parcel.ds) r.channels,some 1,0,.no⟩),(1503,⟨List.map (slD AJ) r.counts,some 1,0,.no⟩),(1504,⟨List.map AJ r.sent,some 1,0,.no⟩),(1505,⟨List.map AJ r.got,some 1,0,.no⟩)] [] :=by
 unfold KS at h
 refine agF Tryz.func70 mixed (h:=Z ?_)
 refine AF ?_
 refine AF ?_
 replace h:=AB h; obtain⟨u,w,h⟩:=h
 have hq_:=CS w
 obtain⟨hv4003a,hv4003b,hv4003c⟩:=hq_
 refine Ad (by refine⟨?_,?_,?_⟩ <;> omega) (Z ?_)
 refine BN .no (Z ?_)
 refine AT (List.map (slD Parcel.ds) u) (by rw [← hv4003c]; simp only [List.map_replicate,go_sem,slD]) (Z ?_)
 refine AF ?_
 refine Cd (JQ rfl rfl (QI fuel a0 u [] 0 _ h):) (.one ⟨_,.cell 2002 5 2000000000 (some 1) .no _ (by simp only [go_sem]; rfl) (by rfl) (by simp only [go_sem]) (.done _),[(1000001000,1001),(1000001001,64048),(1000001002,2000000000)],[(1000001500,1001),(1000001501,2002)],?_⟩)
 simp only [go_sem]
 all_goals try rfl
theorem Jo (a0 r) (h:EL a0=some r):AC Tryz.prog 133 [.rop (ShardCell.avs a0) 0] (.agg (ShardCell.rv r)):=by
 unfold EL at h
 refine acF Tryz.func133 mixed (h:=Z ?_)
 refine AF ?_
 refine Aa [false,false,false,false,false,false,false,false,false,false,false,false,false,false,false,false,false,false,false,false,false,false,false,false,true] (Tr.sq [24] .fin) (by kernel_rfl) (Z ?_)
 replace h:=AB h; obtain⟨u,w,h⟩:=h
 refine AH (Gu _ _ w) (Z ?_)
 replace h:=AB h; obtain⟨y,q,h⟩:=h
 have hq_:=Au q
 obtain⟨hv2022a,hv2022b⟩:=hq_
 refine Ad (by rfl) (Z ?_)
 refine BN .no (Z ?_)
 refine Ad (De (by intro x; exact⟨(Address.ds_len _),by simp [Address.ds_eq,D.flat]⟩) _) (Z ?_)
 refine Ad (by refine⟨?_,?_⟩ <;> (try simp only [List.length_map,List.length_append,List.length_cons,List.length_nil] at*) <;> (try unfold maxLen) <;> omega) (Z ?_)
 refine AT (List.map Address.ds y) (by rw [← hv2022b]; simp only [List.nil_append]) (Z ?_)
 refine AF ?_
 cases h
 simp only [go_sem]
theorem LD (n:Nat):(∀a0 u w y q r,CU n a0 u w y q=some r→Ax Tryz.prog Tryz.f132 [1,1,0,1,0] (.agg (Shard.rv r)) ⟨[(0,.rop [.ro (List.map ShardCell.ds a0.cells),.ro (List.map ShardVar.ds a0.vars),.ro (List.map ShardRedex.ds a0.redexes)] 0),(2,.box 1000001500 0),(3,.box 1000001501 0),(4,.int .i64 q)],[(1000001000,some ⟨List.map ShardCell.ds y,some 5,0,.no⟩),(1000001001,some ⟨List.map ShardVar.ds u,some 5,0,.no⟩),(1000001002,some ⟨List.map ShardRedex.ds w,some 6,0,.no⟩)],[(1000001500,some [.nils,.nils,.nils]),(1000001501,some [.own 1000001000,.own 1000001001,.own 1000001002])]⟩):=by
 induction n with
 |zero=>exact((fun _ _ _ _ _ _ h=>by rw [CU] at h; cases h))
 | succ n ih=>
  have ih0:=ih
  ·intro a0 u w y q r h
   rw [CU] at h
   refine AS rfl rfl (Z ?_)
   refine AY (Z ?_)
   refine AD h (fun h=>Z ?_) (fun h=>Z ?_)
   ·refine AF ?_
    refine Aa [false,false,false,false,false,false,false,false,false,false,true,true,true] (Tr.sq [10,11,12] .fin) (by kernel_rfl) (Z ?_)
    replace h:=AB h; obtain⟨g,j,h⟩:=h
    refine AL j (ShardCell.ds_len _) (Z ?_)
    replace h:=AB h; obtain⟨k,b,h⟩:=h
    refine AH (Jo _ _ b) (Z ?_)
    replace h:=AB h; obtain⟨d,c,h⟩:=h
    have hq_:=Au c
    obtain⟨hv6010a,hv6010b⟩:=hq_
    refine BN .no (Z ?_)
    refine Ad (by refine⟨?_,?_⟩ <;> (try simp only [List.length_map,List.length_append,List.length_cons,List.length_nil] at*) <;> (try unfold maxLen) <;> omega) (Z ?_)
    refine AT (List.map ShardCell.ds d) (by rw [← hv6010b]; simp only [List.map_append,List.map_cons,List.map_nil,List.nil_append,List.append_nil,go_sem,ShardCell.ds_eq]) (Z ?_)
    refine AF ?_
    exact lpF (ih0 a0 u w d (IntKind.i64.wrap (q+1)) _ h) [(1000001000,96160),(1000001001,1000001001),(1000001002,1000001002)] [(1000001500,1000001500),(1000001501,1000001501)]
   ·refine AF ?_
    cases h
    simp only [go_sem]
theorem Nr (a0 r) (h:Ee a0=some r):AC Tryz.prog 132 [.rop (Shard.avs a0) 0] (.agg (Shard.rv r)):=by
 unfold Ee at h
 refine acF Tryz.func132 mixed (h:=Z ?_)
 refine AF ?_
 refine Aa [false,false,false,false,false,false,false,false,false,false,false,false,false,false,true] (Tr.sq [14] .fin) (by kernel_rfl) (Z ?_)
 replace h:=AB h; obtain⟨u,w,h⟩:=h
 have hq_:=Au w
 obtain⟨hv2005a,hv2005b⟩:=hq_
 refine Ad (by rfl) (Z ?_)
 refine BN .no (Z ?_)
 refine Ad (De (by intro x; exact⟨(ShardVar.ds_len _),by simp [ShardVar.ds_eq,D.flat]⟩) _) (Z ?_)
 refine Ad (by refine⟨?_,?_⟩ <;> (try simp only [List.length_map,List.length_append,List.length_cons,List.length_nil] at*) <;> (try unfold maxLen) <;> omega) (Z ?_)
 refine AT (List.map ShardVar.ds u) (by rw [← hv2005b]; simp only [List.nil_append]) (Z ?_)
 replace h:=AB h; obtain⟨y,q,h⟩:=h
 have hq_:=Au q
 obtain⟨hv2011a,hv2011b⟩:=hq_
 refine Ad (by rfl) (Z ?_)
 refine BN .no (Z ?_)
 refine Ad (De (by intro x; exact⟨(ShardRedex.ds_len _),by simp [ShardRedex.ds_eq,D.flat]⟩) _) (Z ?_)
 refine Ad (by refine⟨?_,?_⟩ <;> (try simp only [List.length_map,List.length_append,List.length_cons,List.length_nil] at*) <;> (try unfold maxLen) <;> omega) (Z ?_)
 refine AT (List.map ShardRedex.ds y) (by rw [← hv2011b]; simp only [List.nil_append]) (Z ?_)
 refine AF ?_
 refine Cd (B9 rfl rfl (LD fuel a0 u y [] 0 _ h):) (.one ⟨_,.cell 2013 0 2000000000 (some 5) .no _ (by simp only [go_sem]; rfl) (by rfl) (by simp only [go_sem]) (.done _),[(1000001000,2000000000),(1000001001,32080),(1000001002,32176)],[(1000001500,1000),(1000001501,2013)],?_⟩)
 simp only [go_sem]
 all_goals try rfl
theorem L9 (n:Nat):(∀a0 u w r,Ct n a0 u w=some r→Ax Tryz.prog Tryz.f71 [1,1,0,1,0] (.agg (Grid.rv r)) ⟨[(0,.rop [.ro (List.map Shard.ds a0.shards),.int .i64 a0.root.machine,.int .i64 a0.root.kind,.int .i64 a0.root.index] 0),(2,.box 1000001500 0),(3,.box 1000001501 0),(4,.int .i64 w)],[(1000001000,some ⟨List.map Shard.ds u,some 3,0,.no⟩)],[(1000001500,some [.nils,.int .i64 0,.int .i64 0,.int .i64 0]),(1000001501,some [.own 1000001000,.int .i64 a0.root.machine,.int .i64 a0.root.kind,.int .i64 a0.root.index])]⟩):=by
 induction n with
 |zero=>exact((fun _ _ _ _ h=>by rw [Ct] at h; cases h))
 | succ n ih=>
  have ih0:=ih
  ·intro a0 u w r h
   rw [Ct] at h
   refine AS rfl rfl (Z ?_)
   refine AY (Z ?_)
   refine AD h (fun h=>Z ?_) (fun h=>Z ?_)
   ·refine AF ?_
    refine Aa [false,false,false,false,false,false,false,false,false,false,true,true,true] (Tr.sq [10,11,12] .fin) (by kernel_rfl) (Z ?_)
    replace h:=AB h; obtain⟨y,q,h⟩:=h
    refine AL q (Shard.ds_len _) (Z ?_)
    replace h:=AB h; obtain⟨g,j,h⟩:=h
    refine AH (Nr _ _ j) (Z ?_)
    replace h:=AB h; obtain⟨k,b,h⟩:=h
    have hq_:=Au b
    obtain⟨hv6010a,hv6010b⟩:=hq_
    refine BN .no (Z ?_)
    refine Ad (by refine⟨?_,?_⟩ <;> (try simp only [List.length_map,List.length_append,List.length_cons,List.length_nil] at*) <;> (try unfold maxLen) <;> omega) (Z ?_)
    refine AT (List.map Shard.ds k) (by rw [← hv6010b]; simp only [List.map_append,List.map_cons,List.map_nil,List.nil_append,List.append_nil,go_sem,Shard.ds_eq]) (Z ?_)
    refine AF ?_
    exact lpF (ih0 a0 k (IntKind.i64.wrap (w+1)) _ h) [(1000001000,96160)] [(1000001500,1000001500),(1000001501,1000001501)]
   ·refine AF ?_
    cases h
    simp only [go_sem]
theorem Oi (a0 r) (h:F3 a0=some r):AC Tryz.prog 71 [.rop (Grid.avs a0) 0] (.agg (Grid.rv r)):=by
 unfold F3 at h
 refine acF Tryz.func71 mixed (h:=Z ?_)
 refine AF ?_
 refine AF ?_
 refine Cd (B9 rfl rfl (L9 fuel a0 [] 0 _ h):) (.one ⟨_,.cell 2005 0 2000000000 (some 3) .no _ (by simp only [go_sem]; rfl) (by rfl) (by simp only [go_sem]) (.done _),[(1000001000,2000000000)],[(1000001500,1000),(1000001501,2005)],?_⟩)
 simp only [go_sem]
 all_goals try rfl
theorem IZ (n:Nat):(∀a0 u w r,An n a0 u w=some r→Ax Tryz.prog Tryz.f72 [1,1,0,1,0] (.ow (some 1) (List.map (slD Parcel.ds) r)) ⟨[(0,.ro (List.map (slD Parcel.ds) a0)),(3,.own 1000005000),(4,.int .i64 w)],[(1000005000,some ⟨List.map (slD Parcel.ds) u,some 1,0,.no⟩)],[]⟩)∧
    (∀a0 u w y q r,A4 n a0 u w y q=some r→Ax Tryz.prog Tryz.f72 [1,1,0,1,0,0,1,0,0,1,0,1,0] (.ow (some 1) (List.map (slD Parcel.ds) r)) ⟨[(0,.ro (List.map (slD Parcel.ds) a0)),(3,.own 1000009000),(4,.int .i64 w),(5,.own 1000009001),(6,.int .i64 q)],[(1000009000,some ⟨List.map (slD Parcel.ds) u,some 1,0,.no⟩),(1000009001,some ⟨List.map Parcel.ds y,some 12,0,.no⟩)],[]⟩):=by
 induction n with
 |zero=>exact⟨(fun _ _ _ _ h=>by rw [An] at h; cases h),(fun _ _ _ _ _ _ h=>by rw [A4] at h; cases h)⟩
 | succ n ih=>
  obtain⟨ih0,ih1⟩:=ih
  refine⟨?_,?_⟩
  ·intro a0 u w r h
   rw [An] at h
   refine AS rfl rfl (Z ?_)
   refine AY (Z ?_)
   refine AD h (fun h=>Z ?_) (fun h=>Z ?_)
   ·refine AF ?_
    refine AF ?_
    refine Cd (B9 rfl rfl (ih1 a0 u w [] 0 _ h):) (.one ⟨_,.lit 5 2000000000 6000 0 12 .no [] _ _ (by (first|rfl|(simp only [go_sem]; rfl))) (by simp only [go_sem]; rfl) (by (first|rfl|(simp only [go_sem]; rfl))) (by (first|rfl|(simp only [go_sem]; rfl))) (by decide) (by decide) (by simp only [go_sem]) (.done _),[(1000009000,1000005000),(1000009001,2000000000)],[],?_⟩)
    simp only [go_sem]
    all_goals try rfl
   ·refine AF ?_
    cases h
    simp only [go_sem]
  ·intro a0 u w y q r h
   rw [A4] at h
   refine AS rfl rfl (Z ?_)
   refine AY (Z ?_)
   replace h:=AB h; obtain⟨g,j,h⟩:=h
   refine AL j rfl (Z ?_)
   refine AD h (fun h=>Z ?_) (fun h=>Z ?_)
   ·refine AF ?_
    replace h:=AB h; obtain⟨k,b,h⟩:=h
    refine AL b rfl (Z ?_)
    replace h:=AB h; obtain⟨d,c,h⟩:=h
    refine AL c (Parcel.ds_len _) (Z ?_)
    refine AF ?_
    replace h:=AB h; obtain⟨e,i,h⟩:=h
    refine AH (Yp (Jo _ _ i) (.cons (.rop rfl) .nil)) (Z ?_)
    refine AF ?_
    replace h:=AB h; obtain⟨l,t,h⟩:=h
    have hq_:=Au t
    obtain⟨hv12003a,hv12003b⟩:=hq_
    refine BN .no (Z ?_)
    refine Ad (by refine⟨?_,?_⟩ <;> (try simp only [List.length_map,List.length_append,List.length_cons,List.length_nil] at*) <;> (try unfold maxLen) <;> omega) (Z ?_)
    refine AT (List.map Parcel.ds l) (by rw [← hv12003b]; simp only [List.map_append,List.map_cons,List.map_nil,List.nil_append,List.append_nil,go_sem,Parcel.ds_eq]) (Z ?_)
    refine AF ?_
    exact lpF (ih1 a0 u w l (IntKind.i64.wrap (q+1)) _ h) [(1000009000,1000009000),(1000009001,192048)] []
   ·refine AF ?_
    replace h:=AB h; obtain⟨s,o,h⟩:=h
    have hq_:=Au o
    obtain⟨hv13003a,hv13003b⟩:=hq_
    refine BN .no (Z ?_)
    refine Ad (by refine⟨?_,?_⟩ <;> (try simp only [List.length_map,List.length_append,List.length_cons,List.length_nil] at*) <;> (try unfold maxLen) <;> omega) (Z ?_)
    refine AT (List.map (slD Parcel.ds) s) (by rw [← hv13003b]; simp only [List.map_append,List.map_cons,List.map_nil,List.nil_append,List.append_nil,go_sem,slD]) (Z ?_)
    refine AF ?_
    exact lpF (ih0 a0 s (IntKind.i64.wrap (w+1)) _ h) [(1000005000,208048)] []
theorem I1 (n:Nat):(∀a0 u w r,An n a0 u w=some r→Ax Tryz.prog Tryz.f72 [1,1,0,1,0] (.ow (some 1) (List.map (slD Parcel.ds) r)) ⟨[(0,.ro (List.map (slD Parcel.ds) a0)),(3,.own 1000005000),(4,.int .i64 w)],[(1000005000,some ⟨List.map (slD Parcel.ds) u,some 1,0,.no⟩)],[]⟩):=(IZ n).1
theorem LE (a0 r) (h:D4 a0=some r):AC Tryz.prog 72 [.ro (List.map (slD Parcel.ds) a0)] (.ow (some 1) (List.map (slD Parcel.ds) r)):=by
 unfold D4 at h
 refine acF Tryz.func72 mixed (h:=Z ?_)
 refine AF ?_
 refine Cd (B9 rfl rfl (I1 fuel a0 [] 0 _ h):) (.one ⟨_,.lit 3 2000000000 2000 0 1 .no [] _ _ (by (first|rfl|(simp only [go_sem]; rfl))) (by simp only [go_sem]; rfl) (by (first|rfl|(simp only [go_sem]; rfl))) (by (first|rfl|(simp only [go_sem]; rfl))) (by decide) (by decide) (by simp only [go_sem]) (.done _),[(1000005000,2000000000)],[],?_⟩)
 simp only [go_sem]
 all_goals try rfl
theorem LG (n:Nat):(∀a0 u w r,CV n a0 u w=some r→Ax Tryz.prog Tryz.f73 [1,1,0,1,0] (.ow (some 1) (List.map (slD AJ) r)) ⟨[(0,.ro (List.map (slD AJ) a0)),(3,.own 1000001000),(4,.int .i64 w)],[(1000001000,some ⟨List.map (slD AJ) u,some 1,0,.no⟩)],[]⟩):=by
 induction n with
 |zero=>exact((fun _ _ _ _ h=>by rw [CV] at h; cases h))
 | succ n ih=>
  have ih0:=ih
  ·intro a0 u w r h
   rw [CV] at h
   refine AS rfl rfl (Z ?_)
   refine AY (Z ?_)
   refine AD h (fun h=>Z ?_) (fun h=>Z ?_)
   ·refine AF ?_
    replace h:=AB h; obtain⟨y,q,h⟩:=h
    refine AL q rfl (Z ?_)
    replace h:=AB h; obtain⟨g,j,h⟩:=h
    refine AH (Gu _ _ j) (Z ?_)
    replace h:=AB h; obtain⟨k,b,h⟩:=h
    have hq_:=Au b
    obtain⟨hv6007a,hv6007b⟩:=hq_
    refine BN .no (Z ?_)
    refine Ad (by refine⟨?_,?_⟩ <;> (try simp only [List.length_map,List.length_append,List.length_cons,List.length_nil] at*) <;> (try unfold maxLen) <;> omega) (Z ?_)
    refine AT (List.map (slD AJ) k) (by rw [← hv6007b]; simp only [List.map_append,List.map_cons,List.map_nil,List.nil_append,List.append_nil,go_sem,slD]) (Z ?_)
    refine AF ?_
    exact lpF (ih0 a0 k (IntKind.i64.wrap (w+1)) _ h) [(1000001000,96112)] []
   ·refine AF ?_
    cases h
    simp only [go_sem]
theorem Ns (a0 r) (h:FO a0=some r):AC Tryz.prog 73 [.ro (List.map (slD AJ) a0)] (.ow (some 1) (List.map (slD AJ) r)):=by
 unfold FO at h
 refine acF Tryz.func73 mixed (h:=Z ?_)
 refine AF ?_
 refine Cd (B9 rfl rfl (LG fuel a0 [] 0 _ h):) (.one ⟨_,.lit 3 2000000000 2000 0 1 .no [] _ _ (by (first|rfl|(simp only [go_sem]; rfl))) (by simp only [go_sem]; rfl) (by (first|rfl|(simp only [go_sem]; rfl))) (by (first|rfl|(simp only [go_sem]; rfl))) (by decide) (by decide) (by simp only [go_sem]) (.done _),[(1000001000,2000000000)],[],?_⟩)
 simp only [go_sem]
 all_goals try rfl
theorem UF (a0 r) (h:KU a0=some r):AC Tryz.prog 31 [.rop (Cluster.avs a0) 0] (.agg (Cluster.rv r)):=by
 unfold KU at h
 refine acF Tryz.func31 mixed (h:=Z ?_)
 refine AF ?_
 refine Aa [false,false,false,false,false,false,false,false,false,false,false,false,false,false,false,false,false,false,false,false,false,false,false,false,false,true] (Tr.sq [25] .fin) (by kernel_rfl) (Z ?_)
 replace h:=AB h; obtain⟨u,w,h⟩:=h
 refine AH (Yp (Oi _ _ w) (.cons (.rop rfl) .nil)) (Z ?_)
 replace h:=AB h; obtain⟨y,q,h⟩:=h
 refine AH (LE _ _ q) (Z ?_)
 replace h:=AB h; obtain⟨g,j,h⟩:=h
 refine AH (Ns _ _ j) (Z ?_)
 replace h:=AB h; obtain⟨k,b,h⟩:=h
 refine AH (Gu _ _ b) (Z ?_)
 replace h:=AB h; obtain⟨d,c,h⟩:=h
 refine AH (Gu _ _ c) (Z ?_)
 refine AF ?_
 cases h
 simp only [go_sem]
theorem MA (n:Nat):(∀a2 u w y q g j r,CK n a2 u w y q g j=some r→Ax Tryz.prog Tryz.f33 [1,1,1,1,0,1,0] (.tup [.agg (Cluster.rv r.1),.int .i64 r.2]) ⟨[(6,.box 1000001500 0),(10,.box 1000001501 0),(32,.int .i64 a2),(33,.int .i64 j)],[(1000001000,some ⟨List.map Shard.ds u.1.shards,some 3,0,.no⟩),(1000001001,some ⟨List.map (slD Parcel.ds) w,some 1,0,.no⟩),(1000001002,some ⟨List.map (slD AJ) g,some 1,0,.no⟩),(1000001003,some ⟨List.map AJ y,some 1,0,.no⟩),(1000001004,some ⟨List.map AJ q,some 1,0,.no⟩)],[(1000001500,some [.nils,.int .i64 0,.int .i64 0,.int .i64 0,.nils,.nils,.nils,.nils]),(1000001501,some [.own 1000001000,.int .i64 u.1.root.machine,.int .i64 u.1.root.kind,.int .i64 u.1.root.index,.own 1000001001,.own 1000001002,.own 1000001003,.own 1000001004])]⟩):=by
 induction n with
 |zero=>exact((fun _ _ _ _ _ _ _ _ h=>by rw [CK] at h; cases h))
 | succ n ih=>
  have ih0:=ih
  ·intro a2 u w y q g j r h
   rw [CK] at h
   refine AS rfl rfl (Z ?_)
   refine AY (Z ?_)
   refine AD h (fun h=>Z ?_) (fun h=>Z ?_)
   ·refine AF ?_
    refine Aa [false,false,false,false,true,true,true] (Tr.sq [4,5,6] .fin) (by kernel_rfl) (Z ?_)
    replace h:=AB h; obtain⟨k,b,h⟩:=h
    have hq_:=CS b
    obtain⟨hv8002a,hv8002b,hv8002c⟩:=hq_
    refine Ad (by refine⟨?_,?_,?_⟩ <;> omega) (Z ?_)
    refine BN .no (Z ?_)
    refine AT (List.map AJ k) (by rw [← hv8002c]; simp only [List.map_replicate,go_sem,slD]) (Z ?_)
    replace h:=AB h; obtain⟨d,c,h⟩:=h
    have hq_:=Au c
    obtain⟨hv8004a,hv8004b⟩:=hq_
    refine BN .no (Z ?_)
    refine Ad (by refine⟨?_,?_⟩ <;> (try simp only [List.length_map,List.length_append,List.length_cons,List.length_nil] at*) <;> (try unfold maxLen) <;> omega) (Z ?_)
    refine AT (List.map (slD AJ) d) (by rw [← hv8004b]; simp only [List.map_append,List.map_cons,List.map_nil,List.nil_append,List.append_nil,go_sem,slD]) (Z ?_)
    refine AF ?_
    exact lpF (ih0 a2 u w y q d (IntKind.i64.wrap (j+1)) _ h) [(1000001000,1000001000),(1000001001,1000001001),(1000001002,128064),(1000001003,1000001003),(1000001004,1000001004)] [(1000001500,1000001500),(1000001501,1000001501)]
   ·refine AF ?_
    cases h
    simp only [go_sem]
theorem Oj (a0 a1 a2 r) (h:F4 a0 a1 a2=some r):AC Tryz.prog 33 [.agg (Net.avs a0),.ro (List.map AJ a1),.int .i64 a2] (.tup [.agg (Cluster.rv r.1),.int .i64 r.2]):=by
 unfold F4 at h
 refine acF Tryz.func33 mixed (h:=Z ?_)
 refine AF ?_
 replace h:=AB h; obtain⟨u,w,h⟩:=h
 refine caG ⟨[],[],[],[(1501,32048)],[],true⟩ (Qj _ _ _ _ w) (Z ?_)
 refine AF ?_
 refine AD h (fun h=>Z ?_) (fun h=>Z ?_)
 ·cases h
  simp only [go_sem]
 ·refine AF ?_
  refine Aa [false,false,false,false,false,false,false,false,false,false,false,true] (Tr.sq [11] .fin) (by kernel_rfl) (Z ?_)
  replace h:=AB h; obtain⟨y,q,h⟩:=h
  have hq_:=CS q
  obtain⟨hv5004a,hv5004b,hv5004c⟩:=hq_
  refine Ad (by refine⟨?_,?_,?_⟩ <;> omega) (Z ?_)
  refine BN .no (Z ?_)
  refine AT (List.map (slD Parcel.ds) y) (by rw [← hv5004c]; simp only [List.map_replicate,go_sem,slD]) (Z ?_)
  replace h:=AB h; obtain⟨g,j,h⟩:=h
  have hq_:=CS j
  obtain⟨hv5006a,hv5006b,hv5006c⟩:=hq_
  refine Ad (by refine⟨?_,?_,?_⟩ <;> omega) (Z ?_)
  refine BN .no (Z ?_)
  refine AT (List.map AJ g) (by rw [← hv5006c]; simp only [List.map_replicate,go_sem,slD]) (Z ?_)
  replace h:=AB h; obtain⟨k,b,h⟩:=h
  have hq_:=CS b
  obtain⟨hv5008a,hv5008b,hv5008c⟩:=hq_
  refine Ad (by refine⟨?_,?_,?_⟩ <;> omega) (Z ?_)
  refine BN .no (Z ?_)
  refine AT (List.map AJ k) (by rw [← hv5008c]; simp only [List.map_replicate,go_sem,slD]) (Z ?_)
  refine AF ?_
  refine Cd (B9 rfl rfl (MA fuel a2 u y g k [] 0 _ h):) (.one ⟨_,.cell 5010 5 2000000000 (some 1) .no _ (by simp only [go_sem]; rfl) (by rfl) (by simp only [go_sem]) (.done _),[(1000001000,32048),(1000001001,80064),(1000001002,2000000000),(1000001003,80096),(1000001004,80128)],[(1000001500,1001),(1000001501,5010)],?_⟩)
  simp only [go_sem]
  all_goals try rfl
theorem IC (a0 r) (h:C6 a0=some r):AC Tryz.prog 204 [.ro (List.map ShardVar.ds a0)] (.ow (some 5) (List.map ShardVar.ds r)):=by
 unfold C6 at h
 refine acF Tryz.func204 mixed (h:=Z ?_)
 refine Ts (by simp only [go_sem]) (fun h0=>?_) ?_
 ·try simp only [go_sem]
  have hq_:=List.map_eq_nil_iff.1 h0
  obtain rfl:=hq_
  obtain rfl:r=[] :=by cases h; rfl
  simp only [go_sem]
 ·try simp only [go_sem]
  refine AF ?_
  replace h:=AB h; obtain⟨u,w,h⟩:=h
  have hq_:=Au w
  obtain⟨hv4002a,hv4002b⟩:=hq_
  refine BN .no (Z ?_)
  refine Ad (De (by intro x; exact⟨(ShardVar.ds_len _),by simp [ShardVar.ds_eq,D.flat]⟩) _) (Z ?_)
  refine Ad (by refine⟨?_,?_⟩ <;> (try simp only [List.length_map,List.length_append,List.length_cons,List.length_nil] at*) <;> (try unfold maxLen) <;> omega) (Z ?_)
  refine AT (List.map ShardVar.ds u) (by rw [← hv4002b]; simp only [List.map_append,List.map_cons,List.map_nil,List.nil_append,List.append_nil,go_sem,ShardVar.ds_eq]) (Z ?_)
  refine AF ?_
  cases h
  simp only [go_sem]
theorem HJ (a0 r) (h:Ce a0=some r):AC Tryz.prog 205 [.ro (List.map ShardRedex.ds a0)] (.ow (some 6) (List.map ShardRedex.ds r)):=by
 unfold Ce at h
 refine acF Tryz.func205 mixed (h:=Z ?_)
 refine Ts (by simp only [go_sem]) (fun h0=>?_) ?_
 ·try simp only [go_sem]
  have hq_:=List.map_eq_nil_iff.1 h0
  obtain rfl:=hq_
  obtain rfl:r=[] :=by cases h; rfl
  simp only [go_sem]
 ·try simp only [go_sem]
  refine AF ?_
  replace h:=AB h; obtain⟨u,w,h⟩:=h
  have hq_:=Au w
  obtain⟨hv4002a,hv4002b⟩:=hq_
  refine BN .no (Z ?_)
  refine Ad (De (by intro x; exact⟨(ShardRedex.ds_len _),by simp [ShardRedex.ds_eq,D.flat]⟩) _) (Z ?_)
  refine Ad (by refine⟨?_,?_⟩ <;> (try simp only [List.length_map,List.length_append,List.length_cons,List.length_nil] at*) <;> (try unfold maxLen) <;> omega) (Z ?_)
  refine AT (List.map ShardRedex.ds u) (by rw [← hv4002b]; simp only [List.map_append,List.map_cons,List.map_nil,List.nil_append,List.append_nil,go_sem,ShardRedex.ds_eq]) (Z ?_)
  refine AF ?_
  cases h
  simp only [go_sem]
theorem FY (a0 r) (h:BJ a0=some r):AC Tryz.prog 206 [.ro (List.map Address.ds a0)] (.ow (some 3) (List.map Address.ds r)):=by
 unfold BJ at h
 refine acF Tryz.func206 mixed (h:=Z ?_)
 refine Ts (by simp only [go_sem]) (fun h0=>?_) ?_
 ·try simp only [go_sem]
  have hq_:=List.map_eq_nil_iff.1 h0
  obtain rfl:=hq_
  obtain rfl:r=[] :=by cases h; rfl
  simp only [go_sem]
 ·try simp only [go_sem]
  refine AF ?_
  replace h:=AB h; obtain⟨u,w,h⟩:=h
  have hq_:=Au w
  obtain⟨hv4002a,hv4002b⟩:=hq_
  refine BN .no (Z ?_)
  refine Ad (De (by intro x; exact⟨(Address.ds_len _),by simp [Address.ds_eq,D.flat]⟩) _) (Z ?_)
  refine Ad (by refine⟨?_,?_⟩ <;> (try simp only [List.length_map,List.length_append,List.length_cons,List.length_nil] at*) <;> (try unfold maxLen) <;> omega) (Z ?_)
  refine AT (List.map Address.ds u) (by rw [← hv4002b]; simp only [List.map_append,List.map_cons,List.map_nil,List.nil_append,List.append_nil,go_sem,Address.ds_eq]) (Z ?_)
  refine AF ?_
  cases h
  simp only [go_sem]
theorem M8 (n:Nat):(∀a0 u w y q r,DJ n a0 u w y q=some r→Ax Tryz.prog Tryz.f145 [1,1,0,1,0] (.agg (Shard.rv r)) ⟨[(2,.box 1000001500 0),(3,.box 1000001501 0),(14,.ro (List.map ShardCell.ds a0.cells)),(15,.int .i64 ((List.length a0.cells:Nat):Int)),(16,.int .i64 q)],[(1000001000,some ⟨List.map ShardCell.ds y,some 5,0,.no⟩),(1000001001,some ⟨List.map ShardVar.ds u,some 5,0,.no⟩),(1000001002,some ⟨List.map ShardRedex.ds w,some 6,0,.no⟩)],[(1000001500,some [.nils,.nils,.nils]),(1000001501,some [.own 1000001000,.own 1000001001,.own 1000001002])]⟩):=by
 induction n with
 |zero=>exact((fun _ _ _ _ _ _ h=>by rw [DJ] at h; cases h))
 | succ n ih=>
  have ih0:=ih
  ·intro a0 u w y q r h
   rw [DJ] at h
   refine AS rfl rfl (Z ?_)
   refine AY (Z ?_)
   refine AD h (fun h=>Z ?_) (fun h=>Z ?_)
   ·refine AF ?_
    replace h:=AB h; obtain⟨g,j,h⟩:=h
    refine AL j (ShardCell.ds_len _) (Z ?_)
    refine AF ?_
    refine Aa [false,false,false,false,false,false,false,true,true,true] (Tr.sq [7,8,9] .fin) (by kernel_rfl) (Z ?_)
    replace h:=AB h; obtain⟨k,b,h⟩:=h
    refine AH (CH _ _ b) (Z ?_)
    replace h:=AB h; obtain⟨d,c,h⟩:=h
    refine AH (FY _ _ c) (Z ?_)
    refine AF ?_
    replace h:=AB h; obtain⟨e,i,h⟩:=h
    have hq_:=Au i
    obtain⟨hv7004a,hv7004b⟩:=hq_
    refine BN .no (Z ?_)
    refine Ad (by refine⟨?_,?_⟩ <;> (try simp only [List.length_map,List.length_append,List.length_cons,List.length_nil] at*) <;> (try unfold maxLen) <;> omega) (Z ?_)
    refine AT (List.map ShardCell.ds e) (by rw [← hv7004b]; simp only [List.map_append,List.map_cons,List.map_nil,List.nil_append,List.append_nil,go_sem,ShardCell.ds_eq]) (Z ?_)
    refine AF ?_
    exact lpF (ih0 a0 u w e (IntKind.i64.wrap (q+1)) _ h) [(1000001000,112064),(1000001001,1000001001),(1000001002,1000001002)] [(1000001500,1000001500),(1000001501,1000001501)]
   ·refine AF ?_
    cases h
    simp only [go_sem]
theorem QJ (a0 r) (h:Fq a0=some r):AC Tryz.prog 145 [.agg (Shard.avs a0)] (.agg (Shard.rv r)):=by
 unfold Fq at h
 refine acF Tryz.func145 mixed (h:=Z ?_)
 refine AF ?_
 refine Aa [false,false,false,false,false,false,false,false,true] (Tr.sq [8] .fin) (by kernel_rfl) (Z ?_)
 replace h:=AB h; obtain⟨u,w,h⟩:=h
 refine AH (IC _ _ w) (Z ?_)
 replace h:=AB h; obtain⟨y,q,h⟩:=h
 refine AH (HJ _ _ q) (Z ?_)
 refine AF ?_
 refine Cd (B9 rfl rfl (M8 fuel a0 u y [] 0 _ h):) (.one ⟨_,.cell 2007 0 2000000000 (some 5) .no _ (by simp only [go_sem]; rfl) (by rfl) (by simp only [go_sem]) (.done _),[(1000001000,2000000000),(1000001001,32032),(1000001002,32080)],[(1000001500,1001),(1000001501,2007)],?_⟩)
 simp only [go_sem]
 all_goals try rfl
theorem Nt (n:Nat):(∀a0 u w r,Dn n a0 u w=some r→Ax Tryz.prog Tryz.f77 [1,1,0,1,0] (.agg (Grid.rv r)) ⟨[(2,.box 1000001500 0),(3,.box 1000001501 0),(10,.ro (List.map Shard.ds a0.shards)),(11,.int .i64 ((List.length a0.shards:Nat):Int)),(12,.int .i64 w)],[(1000001000,some ⟨List.map Shard.ds u,some 3,0,.no⟩)],[(1000001500,some [.nils,.int .i64 0,.int .i64 0,.int .i64 0]),(1000001501,some [.own 1000001000,.int .i64 a0.root.machine,.int .i64 a0.root.kind,.int .i64 a0.root.index])]⟩):=by
 induction n with
 |zero=>exact((fun _ _ _ _ h=>by rw [Dn] at h; cases h))
 | succ n ih=>
  have ih0:=ih
  ·intro a0 u w r h
   rw [Dn] at h
   refine AS rfl rfl (Z ?_)
   refine AY (Z ?_)
   refine AD h (fun h=>Z ?_) (fun h=>Z ?_)
   ·refine AF ?_
    replace h:=AB h; obtain⟨y,q,h⟩:=h
    refine AL q (Shard.ds_len _) (Z ?_)
    refine AF ?_
    refine Aa [false,false,false,false,false,true,true,true] (Tr.sq [5,6,7] .fin) (by kernel_rfl) (Z ?_)
    replace h:=AB h; obtain⟨g,j,h⟩:=h
    refine AH (QJ _ _ j) (Z ?_)
    replace h:=AB h; obtain⟨k,b,h⟩:=h
    have hq_:=Au b
    obtain⟨hv6005a,hv6005b⟩:=hq_
    refine BN .no (Z ?_)
    refine Ad (by refine⟨?_,?_⟩ <;> (try simp only [List.length_map,List.length_append,List.length_cons,List.length_nil] at*) <;> (try unfold maxLen) <;> omega) (Z ?_)
    refine AT (List.map Shard.ds k) (by rw [← hv6005b]; simp only [List.map_append,List.map_cons,List.map_nil,List.nil_append,List.append_nil,go_sem,Shard.ds_eq]) (Z ?_)
    refine AF ?_
    exact lpF (ih0 a0 k (IntKind.i64.wrap (w+1)) _ h) [(1000001000,96080)] [(1000001500,1000001500),(1000001501,1000001501)]
   ·refine AF ?_
    cases h
    simp only [go_sem]
theorem Qk (a0 r) (h:Hq a0=some r):AC Tryz.prog 77 [.agg (Grid.avs a0)] (.agg (Grid.rv r)):=by
 unfold Hq at h
 refine acF Tryz.func77 mixed (h:=Z ?_)
 refine AF ?_
 refine AF ?_
 refine Cd (B9 rfl rfl (Nt fuel a0 [] 0 _ h):) (.one ⟨_,.cell 2003 0 2000000000 (some 3) .no _ (by simp only [go_sem]; rfl) (by rfl) (by simp only [go_sem]) (.done _),[(1000001000,2000000000)],[(1000001500,1001),(1000001501,2003)],?_⟩)
 simp only [go_sem]
 all_goals try rfl
theorem I2 (a0 r) (h:Df a0=some r):AG Tryz.prog 207 [.ro (List.map Parcel.ds a0)] [] [] (.own 1501) [(1501,⟨List.map Parcel.dz r,some 12,0,.yes⟩)] [] :=by
 unfold Df at h
 refine agF Tryz.func207 mixed (h:=Z ?_)
 refine Ts (by simp only [go_sem]) (fun h0=>?_) ?_
 ·try simp only [go_sem]
  have hq_:=List.map_eq_nil_iff.1 h0
  obtain rfl:=hq_
  obtain rfl:r=[] :=by cases h; rfl
  simp only [go_sem]
  refine Cc (.deep 0 2000000000 (some 12) .yes [] (by (first|rfl|(simp only [go_sem]; rfl))) (by simp only [go_sem]) (.done _)) [(1501,2000000000)] [] ?_
  simp only [go_sem]
  all_goals try rfl
 ·try simp only [go_sem]
  refine AF ?_
  replace h:=AB h; obtain⟨u,w,h⟩:=h
  have hq_:=Au w
  obtain⟨hv4002a,hv4002b⟩:=hq_
  refine BN .yes (Z ?_)
  refine Ad (U5 (by intro x; exact⟨(Parcel.ds_len _),Parcel.dz_ng x⟩) _) (Z ?_)
  refine AT (List.map Parcel.dz a0) (Vw Parcel.dz_fz _) (Z ?_)
  refine Ad (by refine⟨?_,?_⟩ <;> (try simp only [List.length_map,List.length_append,List.length_cons,List.length_nil] at*) <;> (try unfold maxLen) <;> omega) (Z ?_)
  refine AT (List.map Parcel.dz u) (by rw [← hv4002b]; simp only [List.map_append,List.map_cons,List.map_nil,List.nil_append,List.append_nil,go_sem,Parcel.ds_eq,Parcel.dz_eq]) (Z ?_)
  refine AF ?_
  cases h
  refine Cc (.done _) [(1501,64032)] [] ?_
  simp only [go_sem]
theorem LH (n:Nat):(∀u w y r,Bx n u w y=some r→E4 Tryz.prog Tryz.f146 [1,1,0,1,0] (.own 1501) [(1501,⟨List.map Parcel.ds r,some 12,0,.no⟩)] [] ⟨[(3,.own 1000001000),(8,.int .i64 ((List.length u:Nat):Int)),(9,.int .i64 y)],[(1000001000,some ⟨List.map MParcel.ds w,some 12,0,.yes⟩)],[]⟩):=by
 induction n with
 |zero=>exact((fun _ _ _ _ h=>by rw [Bx] at h; cases h))
 | succ n ih=>
  have ih0:=ih
  ·intro u w y r h
   rw [Bx] at h
   refine Bo rfl rfl (Z ?_)
   refine AY (Z ?_)
   refine AD h (fun h=>Z ?_) (fun h=>Z ?_)
   ·refine AF ?_
    refine Aa [false,false,false,false,false,false,false,false,false,false,false,false,false,false,false,false,false,false,false,false,false,true,true,true,true,true] (Tr.sq [21,22,23,24,25] .fin) (by kernel_rfl) (Z ?_)
    replace h:=AB h; obtain⟨q,g,h⟩:=h
    refine AL g (MParcel.ds_len _) (Z ?_)
    replace h:=AB h; obtain⟨j,k,h⟩:=h
    replace k:=MParcel.sh_some k
    subst k
    have k:=g
    refine AW (AM k) (Z ?_)
    replace h:=AB h; obtain⟨d,c,h⟩:=h
    refine AH (CH _ _ c) (Z ?_)
    replace h:=AB h; obtain⟨e,i,h⟩:=h
    refine AL i (MParcel.ds_len _) (Z ?_)
    replace h:=AB h; obtain⟨l,t,h⟩:=h
    replace t:=MParcel.sh_some t
    subst t
    have t:=i
    refine AW (AM t) (Z ?_)
    replace h:=AB h; obtain⟨s,o,h⟩:=h
    refine AH (FY _ _ o) (Z ?_)
    replace h:=AB h; obtain⟨z,u1,h⟩:=h
    refine AL u1 (MParcel.ds_len _) (Z ?_)
    replace h:=AB h; obtain⟨u2,u3,h⟩:=h
    replace u3:=MParcel.sh_some u3
    subst u3
    have u3:=u1
    refine AW (AM u3) (Z ?_)
    refine AT (List.set (List.map MParcel.ds w) (Int.toNat y) [.int .i64 u2.kind,.int .i64 u2.cell.kind,.int .i64 u2.cell.level,.int .i64 u2.cell.value,.sl (List.map AJ d),.fz (List.map Address.ds u2.cell.aux),.int .i64 u2.a.machine,.int .i64 u2.a.kind,.int .i64 u2.a.index,.int .i64 u2.b.machine,.int .i64 u2.b.kind,.int .i64 u2.b.index]) (by simp only [go_sem,MParcel.ds_sh,MParcel.ds_ow]) (Z ?_)
    refine az u3 rfl (Z ?_)
    replace h:=AB h; obtain⟨u4,u5,h⟩:=h
    refine AW (C4 (AM u3)) (Z ?_)
    refine AT (List.map MParcel.ds u4) (by rw [← AN u5,List.set_set]; simp only [List.map_set,go_sem,MParcel.ds_sh,MParcel.ds_ow]) (Z ?_)
    refine AF ?_
    exact lpG (ih0 u u4 (IntKind.i64.wrap (y+1)) _ h) [(1000001000,1000001000)] []
   ·refine AF ?_
    replace h:=AB h; obtain⟨mx0,hmx0,h⟩:=h
    cases h
    replace hmx0:=MParcel.ow_some hmx0
    subst hmx0
    refine Cc (.pure 1000001000 _ (by (first|rfl|(simp only [go_sem]; rfl))) (by decide) rfl ((congrArg PH (MParcel.map_ow _)).trans (My Parcel.ds_clr _)) (.done _)) [(1501,1000001000)] [] ?_
    simp only [go_sem]
theorem Nu (a0 r) (h:Ef a0=some r):AG Tryz.prog 146 [.ro (List.map Parcel.ds a0)] [] [] (.own 1501) [(1501,⟨List.map Parcel.ds r,some 12,0,.no⟩)] [] :=by
 unfold Ef at h
 refine agF Tryz.func146 mixed (h:=Z ?_)
 replace h:=AB h; obtain⟨u,w,h⟩:=h
 refine Vs (I2 _ _ w) (by (first|rfl|(simp only [go_sem]; rfl))) (Z ?_)
 refine AF ?_
 exact loG (LH fuel u (List.map MParcel.sh u) 0 _ h) [(1000001000,32016)] []
theorem Kc (n:Nat):(∀a0 u w r,CA n a0 u w=some r→Ax Tryz.prog Tryz.f78 [1,1,0,1,0] (.ow (some 1) (List.map (slD Parcel.ds) r)) ⟨[(0,.ro (List.map (slD Parcel.ds) a0)),(3,.own 1000001000),(9,.int .i64 ((List.length a0:Nat):Int)),(10,.int .i64 w)],[(1000001000,some ⟨List.map (slD Parcel.ds) u,some 1,0,.no⟩)],[]⟩):=by
 induction n with
 |zero=>exact((fun _ _ _ _ h=>by rw [CA] at h; cases h))
 | succ n ih=>
  have ih0:=ih
  ·intro a0 u w r h
   rw [CA] at h
   refine AS rfl rfl (Z ?_)
   refine AY (Z ?_)
   refine AD h (fun h=>Z ?_) (fun h=>Z ?_)
   ·refine AF ?_
    replace h:=AB h; obtain⟨y,q,h⟩:=h
    refine AL q rfl (Z ?_)
    replace h:=AB h; obtain⟨g,j,h⟩:=h
    refine Vs (Nu _ _ j) (by (first|rfl|(simp only [go_sem]; rfl))) (Z ?_)
    replace h:=AB h; obtain⟨k,b,h⟩:=h
    refine AL b rfl (Z ?_)
    replace h:=AB h; obtain⟨d,c,h⟩:=h
    refine AW (AM b) (Z ?_)
    refine AT (List.map (slD Parcel.ds) d) (by rw [← AN c]; simp only [List.map_set,go_sem,slD]) (Z ?_)
    refine AF ?_
    exact lpF (ih0 a0 d (IntKind.i64.wrap (w+1)) _ h) [(1000001000,1000001000)] []
   ·refine AF ?_
    cases h
    simp only [go_sem]
theorem M9 (a0 r) (h:Eu a0=some r):AC Tryz.prog 78 [.ro (List.map (slD Parcel.ds) a0)] (.ow (some 1) (List.map (slD Parcel.ds) r)):=by
 unfold Eu at h
 refine acF Tryz.func78 mixed (h:=Z ?_)
 replace h:=AB h; obtain⟨u,w,h⟩:=h
 have hq_:=CS w
 obtain⟨hv2002a,hv2002b,hv2002c⟩:=hq_
 refine Ad (by refine⟨?_,?_,?_⟩ <;> omega) (Z ?_)
 refine BN .no (Z ?_)
 refine AT (List.map (slD Parcel.ds) u) (by rw [← hv2002c]; simp only [List.map_replicate,go_sem,slD]) (Z ?_)
 refine AF ?_
 exact loF (Kc fuel a0 u 0 _ h) [(1000001000,32032)] []
theorem MB (n:Nat):(∀a0 u w r,Cu n a0 u w=some r→Ax Tryz.prog Tryz.f79 [1,1,0,1,0] (.ow (some 1) (List.map (slD AJ) r)) ⟨[(0,.ro (List.map (slD AJ) a0)),(3,.own 1000001000),(9,.int .i64 ((List.length a0:Nat):Int)),(10,.int .i64 w)],[(1000001000,some ⟨List.map (slD AJ) u,some 1,0,.no⟩)],[]⟩):=by
 induction n with
 |zero=>exact((fun _ _ _ _ h=>by rw [Cu] at h; cases h))
 | succ n ih=>
  have ih0:=ih
  ·intro a0 u w r h
   rw [Cu] at h
   refine AS rfl rfl (Z ?_)
   refine AY (Z ?_)
   refine AD h (fun h=>Z ?_) (fun h=>Z ?_)
   ·refine AF ?_
    replace h:=AB h; obtain⟨y,q,h⟩:=h
    refine AL q rfl (Z ?_)
    replace h:=AB h; obtain⟨g,j,h⟩:=h
    refine AH (CH _ _ j) (Z ?_)
    replace h:=AB h; obtain⟨k,b,h⟩:=h
    refine AL b rfl (Z ?_)
    replace h:=AB h; obtain⟨d,c,h⟩:=h
    refine AW (AM b) (Z ?_)
    refine AT (List.map (slD AJ) d) (by rw [← AN c]; simp only [List.map_set,go_sem,slD]) (Z ?_)
    refine AF ?_
    exact lpF (ih0 a0 d (IntKind.i64.wrap (w+1)) _ h) [(1000001000,1000001000)] []
   ·refine AF ?_
    cases h
    simp only [go_sem]
theorem Ol (a0 r) (h:F5 a0=some r):AC Tryz.prog 79 [.ro (List.map (slD AJ) a0)] (.ow (some 1) (List.map (slD AJ) r)):=by
 unfold F5 at h
 refine acF Tryz.func79 mixed (h:=Z ?_)
 replace h:=AB h; obtain⟨u,w,h⟩:=h
 have hq_:=CS w
 obtain⟨hv2002a,hv2002b,hv2002c⟩:=hq_
 refine Ad (by refine⟨?_,?_,?_⟩ <;> omega) (Z ?_)
 refine BN .no (Z ?_)
 refine AT (List.map (slD AJ) u) (by rw [← hv2002c]; simp only [List.map_replicate,go_sem,slD]) (Z ?_)
 refine AF ?_
 exact loF (MB fuel a0 u 0 _ h) [(1000001000,32032)] []
theorem Nv (a0 r) (h:FP a0=some r):AC Tryz.prog 34 [.agg (Cluster.avs a0)] (.agg (Cluster.rv r)):=by
 unfold FP at h
 refine acF Tryz.func34 mixed (h:=Z ?_)
 refine AF ?_
 refine Aa [false,false,false,false,false,false,false,false,false,false,false,false,false,false,false,false,true] (Tr.sq [16] .fin) (by kernel_rfl) (Z ?_)
 replace h:=AB h; obtain⟨u,w,h⟩:=h
 refine AH (Qk _ _ w) (Z ?_)
 replace h:=AB h; obtain⟨y,q,h⟩:=h
 refine AH (M9 _ _ q) (Z ?_)
 replace h:=AB h; obtain⟨g,j,h⟩:=h
 refine AH (Ol _ _ j) (Z ?_)
 replace h:=AB h; obtain⟨k,b,h⟩:=h
 refine AH (CH _ _ b) (Z ?_)
 replace h:=AB h; obtain⟨d,c,h⟩:=h
 refine AH (CH _ _ c) (Z ?_)
 refine AF ?_
 cases h
 simp only [go_sem]
end Go.Proofs.YtclmbjbbojdojaaGreat.Ab
