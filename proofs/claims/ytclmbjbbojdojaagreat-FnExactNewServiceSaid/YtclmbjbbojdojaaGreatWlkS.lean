/-
 The functions do what their models say. Printed by wip/ab/gen.py.
-/
import Derived.Test.YtclmbjbbojdojaaGreatModS
import Derived.Test.YtclmbjbbojdojaaGreatTi2
import Derived.Test.YtclmbjbbojdojaaGreatWlkU
import Derived.Test.YtclmbjbbojdojaaGreatWlkW
namespace Go.Proofs.YtclmbjbbojdojaaGreat.Ab
set_option linter.unusedVariables false
set_option linter.unusedSimpArgs false
set_option maxRecDepth 20000
set_option maxHeartbeats 4000000
open Go.RowKit
theorem Gu (a0 r) (h:FN a0=some r):AC Tryz.prog 74 [.ro (List.map AJ a0)] (.ow (some 1) (List.map AJ r)):=by
 unfold FN at h
 refine acF Tryz.func74 mixed (h:=Z ?_)
 replace h:=AB h; obtain⟨u,w,h⟩:=h
 have hq_:=Au w
 obtain⟨hv2002a,hv2002b⟩:=hq_
 refine BN .no (Z ?_)
 refine Ad (De (by intro x; exact⟨rfl,by simp [go_sem,D.flat]⟩) _) (Z ?_)
 refine Ad (by refine⟨?_,?_⟩ <;> (try simp only [List.length_map,List.length_append,List.length_cons,List.length_nil] at*) <;> (try unfold maxLen) <;> omega) (Z ?_)
 refine AT (List.map AJ u) (by rw [← hv2002b]; simp only [List.map_append,List.map_cons,List.map_nil,List.nil_append,List.append_nil,go_sem,slD]) (Z ?_)
 refine AF ?_
 cases h
 simp only [go_sem]
theorem IN (a0 a1 a2 a3 r) (h:s_l27Set a0 a1 a2 a3=some r):AG Tryz.prog 188 [.box 1 0,.ro (List.map Address.ds a1),.agg [.int .i64 a2.agent,.int .i64 a2.slot],.agg [.int .i64 a3.machine,.int .i64 a3.kind,.int .i64 a3.index]] [(1001,⟨List.map Shard.dn a0.shards,some 3,0,.nl⟩)] [(1,[.own 1001,.int .i64 a0.root.machine,.int .i64 a0.root.kind,.int .i64 a0.root.index])] (.tup []) [(1501,⟨List.map Shard.dn r.shards,some 3,0,.nl⟩)] [(1,[.own 1501,.int .i64 r.root.machine,.int .i64 r.root.kind,.int .i64 r.root.index])] :=by
 unfold s_l27Set at h
 refine agF Tryz.func188 mixed (h:=Z ?_)
 refine AD h (fun h=>Z ?_) (fun h=>Z ?_)
 ·cases h
  refine Cc (.done _) [(1501,1001)] [(1,1)] ?_
  simp only [go_sem]
 ·refine AF ?_
  refine Aa [false,false,false,false,false,false,false,false,false,false,false,false,false,false,false,false,false,false,false,false,false,false,false,false,false,false,false,true] (Tr.sq [27] .fin) (by kernel_rfl) (Z ?_)
  replace h:=AB h; obtain⟨u,w,h⟩:=h
  refine AL w (Address.ds_len _) (Z ?_)
  replace h:=AB h; obtain⟨y,q,h⟩:=h
  refine AL q (Shard.dn_len _) (Z ?_)
  refine AW (AM q) (Z ?_)
  replace h:=AB h; obtain⟨g,k,h⟩:=h
  refine AL k (Address.ds_len _) (Z ?_)
  replace h:=AB h; obtain⟨b,d,h⟩:=h
  refine AW (G0 (sz:=3) (j:=0) (r:=List.map ShardCell.ds y.cells) (AM (f:=Shard.dn) q) (Shard.dn_len _) (by rfl) DH) (Z ?_)
  refine AL d (ShardCell.ds_len _) (Z ?_)
  refine AW (G0 (sz:=3) (j:=0) (r:=List.map ShardCell.ds y.cells) (AM (f:=Shard.dn) q) (Shard.dn_len _) (by rfl) DH) (Z ?_)
  refine AW (AM d) (Z ?_)
  replace h:=AB h; obtain⟨c,e,h⟩:=h
  refine AW (SD (sz:=3) (j:=0) (AM (f:=Shard.dn) q) (Shard.dn_len _) (by rfl) DH (Ff (sz:=5) (j:=4) (r:=List.map Address.ds b.aux) (AM (f:=ShardCell.ds) d) (ShardCell.ds_len _) (by rw [ShardCell.ds_eq]; rfl))) (Z ?_)
  refine AL e (Address.ds_len _) (Z ?_)
  replace h:=AB h; obtain⟨i,l,h⟩:=h
  replace h:=AB h; obtain⟨t,s,h⟩:=h
  replace h:=AB h; obtain⟨o,z,h⟩:=h
  refine AW (SD (sz:=3) (j:=0) (AM (f:=Shard.dn) q) (Shard.dn_len _) (by rfl) DH (Ff (sz:=5) (j:=4) (r:=List.map Address.ds b.aux) (AM (f:=ShardCell.ds) d) (ShardCell.ds_len _) (by rw [ShardCell.ds_eq]; rfl))) (Z ?_)
  refine AW (AM e) (Z ?_)
  try refine Ad ⟨List.cons_ne_nil _ _,by rfl,by decide,by rfl⟩ ?_
  try simp only [go_sem]
  refine AT (List.map Shard.dn o) ((Yi (AM (f:=Shard.dn) q) (r1:=List.map ShardCell.ds y.cells) (by rw [show (.sl (List.map ShardCell.ds y.cells):D)=slN ShardCell.ds y.cells from (IX (Vx d)).symm]; rfl) (AM (f:=ShardCell.ds) d) (d2:=.sl (List.map Address.ds b.aux)) (by simp only [go_sem,ShardCell.ds_eq])).trans (by rw [← AN z]; simp only [List.map_set,go_sem,Shard.dn_eq,IX (Yr s (Vx d)),List.set_cons_succ,List.set_cons_zero]; rw [← AN s]; simp only [List.map_set,go_sem,ShardCell.ds_eq,List.set_cons_succ,List.set_cons_zero]; rw [← AN l]; simp only [List.map_set,go_sem,Address.ds_eq])) (Z ?_)
  cases h
  refine Cc (.done _) [(1501,1001)] [(1,1)] ?_
  simp only [go_sem]
theorem MD (n:Nat):(∀u w y q g r,BO n u w y q g=some r→E4 Tryz.prog Tryz.f131 [1,1,1,1,1,1,1,0,1,0] (.tup [.agg [.own 1501,.int .i64 r.1.root.machine,.int .i64 r.1.root.kind,.int .i64 r.1.root.index],.int .i64 r.2]) [(1501,⟨List.map Shard.ds r.1.shards,some 3,0,.no⟩)] [] ⟨[(6,.box 1000014500 0),(8,.box 1000014501 0),(23,.int .i64 g)],[(1000014000,some ⟨List.map Shard.dn u,some 3,0,.nl⟩)],[(1000014500,some [.nils,.int .i64 0,.int .i64 0,.int .i64 0]),(1000014501,some [.own 1000014000,.int .i64 w,.int .i64 y,.int .i64 q])]⟩)∧
    (∀u w y q g k r,Ci n u w y q g k=some r→E4 Tryz.prog Tryz.f131 [1,1,1,1,1,1,1,0,1,0,0,1,0,0,1,1] (.tup [.agg [.own 1501,.int .i64 r.1.root.machine,.int .i64 r.1.root.kind,.int .i64 r.1.root.index],.int .i64 r.2]) [(1501,⟨List.map Shard.ds r.1.shards,some 3,0,.no⟩)] [] ⟨[(6,.box 1000015500 0),(8,.box 1000015501 0),(23,.int .i64 g),(264,.bool k)],[(1000015000,some ⟨List.map Shard.dn u,some 3,0,.nl⟩)],[(1000015500,some [.nils,.int .i64 0,.int .i64 0,.int .i64 0]),(1000015501,some [.own 1000015000,.int .i64 w,.int .i64 y,.int .i64 q])]⟩):=by
 induction n with
 |zero=>exact⟨(fun _ _ _ _ _ _ h=>by rw [BO] at h; cases h),(fun _ _ _ _ _ _ _ h=>by rw [Ci] at h; cases h)⟩
 | succ n ih=>
  obtain⟨ih0,ih1⟩:=ih
  refine⟨?_,?_⟩
  ·intro u w y q g r h
   rw [BO] at h
   refine Bo rfl rfl (Z ?_)
   refine AY (Z ?_)
   refine AD h (fun h=>Z ?_) (fun h=>Z ?_)
   ·refine AF ?_
    replace h:=AB h; obtain⟨b,d,h⟩:=h
    refine AL d (Shard.dn_len _) (Z ?_)
    refine AW (AM d) (Z ?_)
    refine AW (G0 (sz:=3) (j:=0) (r:=List.map ShardCell.ds b.cells) (AM (f:=Shard.dn) d) (Shard.dn_len _) (by rfl) DH) (Z ?_)
    refine AD h (fun h=>Z ?_) (fun h=>Z ?_)
    ·exact P3 (ih1 u w y q g true _ h) [(1000015000,1000014000)] [(1000015500,1000014500),(1000015501,1000014501)]
    ·refine AW (AM d) (Z ?_)
     refine AW (G0 (sz:=3) (j:=1) (r:=List.map ShardVar.ds b.vars) (AM (f:=Shard.dn) d) (Shard.dn_len _) (by rfl) DH) (Z ?_)
     refine AD h (fun h=>Z ?_) (fun h=>Z ?_)
     ·exact P3 (ih1 u w y q g true _ h) [(1000015000,1000014000)] [(1000015500,1000014500),(1000015501,1000014501)]
     ·refine AW (AM d) (Z ?_)
      refine AW (G0 (sz:=3) (j:=2) (r:=List.map ShardRedex.ds b.redexes) (AM (f:=Shard.dn) d) (Shard.dn_len _) (by rfl) DH) (Z ?_)
      exact P3 (ih1 u w y q g (decide (400<((List.length b.redexes:Nat):Int))) _ h) [(1000015000,1000014000)] [(1000015500,1000014500),(1000015501,1000014501)]
   ·refine AF ?_
    cases h
    refine Cc (.down 1000014000 _ (List.map Shard.ds u) (by (first|rfl|(simp only [go_sem]; rfl))) (by decide) rfl (by simp only [go_sem]) (.done _)) [(1501,1000014000)] [] ?_
    simp only [go_sem]
  ·intro u w y q g k r h
   rw [Ci] at h
   refine Bo rfl rfl (Z ?_)
   refine AD h (fun h=>Z ?_) (fun h=>Z ?_)
   ·cases h
    refine Cc (.deep 0 2000000000 (some 3) .no [0,0] (by (first|rfl|(simp only [go_sem]; rfl))) (by simp only [go_sem]) (.done _)) [(1501,2000000000)] [] ?_
    simp only [go_sem]
    all_goals try rfl
   ·refine AF ?_
    exact lpG (ih0 u w y q (IntKind.i64.wrap (g+1)) _ h) [(1000014000,1000015000)] [(1000014500,1000015500),(1000014501,1000015501)]
theorem NB (n:Nat):(∀u w y q g r,BO n u w y q g=some r→E4 Tryz.prog Tryz.f131 [1,1,1,1,1,1,1,0,1,0] (.tup [.agg [.own 1501,.int .i64 r.1.root.machine,.int .i64 r.1.root.kind,.int .i64 r.1.root.index],.int .i64 r.2]) [(1501,⟨List.map Shard.ds r.1.shards,some 3,0,.no⟩)] [] ⟨[(6,.box 1000014500 0),(8,.box 1000014501 0),(23,.int .i64 g)],[(1000014000,some ⟨List.map Shard.dn u,some 3,0,.nl⟩)],[(1000014500,some [.nils,.int .i64 0,.int .i64 0,.int .i64 0]),(1000014501,some [.own 1000014000,.int .i64 w,.int .i64 y,.int .i64 q])]⟩):=(MD n).1
theorem ME (n:Nat):(∀a1 u w y q g k d r,Al n a1 u w y q g k d=some r→E4 Tryz.prog Tryz.f131 [1,1,1,1,1,1,0,1,0] (.tup [.agg [.own 1501,.int .i64 r.1.root.machine,.int .i64 r.1.root.kind,.int .i64 r.1.root.index],.int .i64 r.2]) [(1501,⟨List.map Shard.ds r.1.shards,some 3,0,.no⟩)] [] ⟨[(1,.ro (List.map AJ a1)),(6,.box 1000008500 0),(8,.box 1000008501 0),(10,.own 1000008001),(14,.own 1000008002),(15,.int .i64 d)],[(1000008000,some ⟨List.map Shard.dn y,some 3,0,.nl⟩),(1000008001,some ⟨List.map Address.ds u,some 3,0,.no⟩),(1000008002,some ⟨List.map Wire.ds w,some 4,0,.no⟩)],[(1000008500,some [.nils,.int .i64 0,.int .i64 0,.int .i64 0]),(1000008501,some [.own 1000008000,.int .i64 q,.int .i64 g,.int .i64 k])]⟩)∧
    (∀a1 u y q g k d w c e i r,Cj n a1 u y q g k d w c e i=some r→E4 Tryz.prog Tryz.f131 [1,1,1,1,1,1,0,1,0,0,1,0,0,1,1,1] (.tup [.agg [.own 1501,.int .i64 r.1.root.machine,.int .i64 r.1.root.kind,.int .i64 r.1.root.index],.int .i64 r.2]) [(1501,⟨List.map Shard.ds r.1.shards,some 3,0,.no⟩)] [] ⟨[(1,.ro (List.map AJ a1)),(6,.box 1000009500 0),(8,.box 1000009501 0),(10,.own 1000009001),(14,.own 1000009002),(15,.int .i64 d),(16,.box 1000009502 0),(17,.box 1000009503 0),(18,.bool i)],[(1000009000,some ⟨List.map Shard.dn y,some 3,0,.nl⟩),(1000009001,some ⟨List.map Address.ds u,some 3,0,.no⟩),(1000009002,some ⟨List.map Wire.ds w,some 4,0,.no⟩)],[(1000009500,some [.nils,.int .i64 0,.int .i64 0,.int .i64 0]),(1000009501,some [.own 1000009000,.int .i64 q,.int .i64 g,.int .i64 k]),(1000009502,some [.int .i64 c.a.agent,.int .i64 c.a.slot]),(1000009503,some [.int .i64 e.b.agent,.int .i64 e.b.slot])]⟩)∧
    (∀a1 u y q g k d i w c e t r,Ck n a1 u y q g k d i w c e t=some r→E4 Tryz.prog Tryz.f131 [1,1,1,1,1,1,0,1,0,0,1,0,0,1,1,1,1] (.tup [.agg [.own 1501,.int .i64 r.1.root.machine,.int .i64 r.1.root.kind,.int .i64 r.1.root.index],.int .i64 r.2]) [(1501,⟨List.map Shard.ds r.1.shards,some 3,0,.no⟩)] [] ⟨[(1,.ro (List.map AJ a1)),(6,.box 1000010500 0),(8,.box 1000010501 0),(10,.own 1000010001),(14,.own 1000010002),(15,.int .i64 d),(16,.box 1000010502 0),(17,.box 1000010503 0),(18,.bool i),(19,.bool t)],[(1000010000,some ⟨List.map Shard.dn y,some 3,0,.nl⟩),(1000010001,some ⟨List.map Address.ds u,some 3,0,.no⟩),(1000010002,some ⟨List.map Wire.ds w,some 4,0,.no⟩)],[(1000010500,some [.nils,.int .i64 0,.int .i64 0,.int .i64 0]),(1000010501,some [.own 1000010000,.int .i64 q,.int .i64 g,.int .i64 k]),(1000010502,some [.int .i64 c.a.agent,.int .i64 c.a.slot]),(1000010503,some [.int .i64 e.b.agent,.int .i64 e.b.slot])]⟩)∧
    (∀a1 u y q g k d i t w c e s r,DK n a1 u y q g k d i t w c e s=some r→E4 Tryz.prog Tryz.f131 [1,1,1,1,1,1,0,1,0,0,1,0,0,1,1,1,1,0,1] (.tup [.agg [.own 1501,.int .i64 r.1.root.machine,.int .i64 r.1.root.kind,.int .i64 r.1.root.index],.int .i64 r.2]) [(1501,⟨List.map Shard.ds r.1.shards,some 3,0,.no⟩)] [] ⟨[(1,.ro (List.map AJ a1)),(6,.box 1000011500 0),(8,.box 1000011501 0),(10,.own 1000011001),(14,.own 1000011002),(15,.int .i64 d),(16,.box 1000011502 0),(17,.box 1000011503 0),(18,.bool i),(19,.bool t),(179,.bool s)],[(1000011000,some ⟨List.map Shard.dn y,some 3,0,.nl⟩),(1000011001,some ⟨List.map Address.ds u,some 3,0,.no⟩),(1000011002,some ⟨List.map Wire.ds w,some 4,0,.no⟩)],[(1000011500,some [.nils,.int .i64 0,.int .i64 0,.int .i64 0]),(1000011501,some [.own 1000011000,.int .i64 q,.int .i64 g,.int .i64 k]),(1000011502,some [.int .i64 c.a.agent,.int .i64 c.a.slot]),(1000011503,some [.int .i64 e.b.agent,.int .i64 e.b.slot])]⟩):=by
 induction n with
 |zero=>exact⟨(fun _ _ _ _ _ _ _ _ _ h=>by rw [Al] at h; cases h),(fun _ _ _ _ _ _ _ _ _ _ _ _ h=>by rw [Cj] at h; cases h),(fun _ _ _ _ _ _ _ _ _ _ _ _ _ h=>by rw [Ck] at h; cases h),(fun _ _ _ _ _ _ _ _ _ _ _ _ _ _ h=>by rw [DK] at h; cases h)⟩
 | succ n ih=>
  obtain⟨ih0,ih1,ih2,ih3⟩:=ih
  refine⟨?_,?_,?_,?_⟩
  ·intro a1 u w y q g k d r h
   rw [Al] at h
   refine Bo rfl rfl (Z ?_)
   refine AY (Z ?_)
   refine AD h (fun h=>Z ?_) (fun h=>Z ?_)
   ·refine AF ?_
    replace h:=AB h; obtain⟨c,o,h⟩:=h
    refine AL o (Wire.ds_len _) (Z ?_)
    refine AW (AM o) (Z ?_)
    refine AF ?_
    replace h:=AB h; obtain⟨e,z,h⟩:=h
    refine AL z (Wire.ds_len _) (Z ?_)
    refine AW (AM z) (Z ?_)
    refine AF ?_
    refine AD h (fun h=>Z ?_) (fun h=>Z ?_)
    ·exact P3 (ih1 a1 u y q g k d w c e (decide (0<c.a.agent)) _ h) [(1000009000,1000008000),(1000009001,1000008001),(1000009002,1000008002)] [(1000009500,1000008500),(1000009501,1000008501),(1000009502,19005),(1000009503,20005)]
    ·exact P3 (ih1 a1 u y q g k d w c e false _ h) [(1000009000,1000008000),(1000009001,1000008001),(1000009002,1000008002)] [(1000009500,1000008500),(1000009501,1000008501),(1000009502,19005),(1000009503,20005)]
   ·refine AF ?_
    exact loG (NB fuel y q g k 0 _ h) [(1000014000,1000008000)] [(1000014500,1000008500),(1000014501,1000008501)]
  ·intro a1 u y q g k d w c e i r h
   rw [Cj] at h
   refine Bo rfl rfl (Z ?_)
   refine AD h (fun h=>Z ?_) (fun h=>Z ?_)
   ·exact P3 (ih2 a1 u y q g k d i w c e (decide (0<e.b.agent)) _ h) [(1000010000,1000009000),(1000010001,1000009001),(1000010002,1000009002)] [(1000010500,1000009500),(1000010501,1000009501),(1000010502,1000009502),(1000010503,1000009503)]
   ·exact P3 (ih2 a1 u y q g k d i w c e false _ h) [(1000010000,1000009000),(1000010001,1000009001),(1000010002,1000009002)] [(1000010500,1000009500),(1000010501,1000009501),(1000010502,1000009502),(1000010503,1000009503)]
  ·intro a1 u y q g k d i w c e t r h
   rw [Ck] at h
   refine Bo rfl rfl (Z ?_)
   refine AD h (fun h=>Z ?_) (fun h=>Z ?_)
   ·exact P3 (ih3 a1 u y q g k d i t w c e t _ h) [(1000011000,1000010000),(1000011001,1000010001),(1000011002,1000010002)] [(1000011500,1000010500),(1000011501,1000010501),(1000011502,1000010502),(1000011503,1000010503)]
   ·exact P3 (ih3 a1 u y q g k d i t w c e false _ h) [(1000011000,1000010000),(1000011001,1000010001),(1000011002,1000010002)] [(1000011500,1000010500),(1000011501,1000010501),(1000011502,1000010502),(1000011503,1000010503)]
  ·intro a1 u y q g k d i t w c e s r h
   rw [DK] at h
   refine Bo rfl rfl (Z ?_)
   refine AD h (fun h=>Z ?_) (fun h=>Z ?_)
   ·refine Aa [] .fin (by kernel_rfl) (Z ?_)
    replace h:=AB h; obtain⟨u1,u2,h⟩:=h
    refine AL u2 rfl (Z ?_)
    replace h:=AB h; obtain⟨u3,u4,h⟩:=h
    refine AL u4 (Shard.dn_len _) (Z ?_)
    refine AF ?_
    refine Aa [false,false,false,false,false,false,false,false,false,false,false,false,false,false,false,false,false,true,true,true,true] (Tr.sq [17,18,19,20] .fin) (by kernel_rfl) (Z ?_)
    refine AW (AM u4) (Z ?_)
    replace h:=AB h; obtain⟨u5,u6,h⟩:=h
    refine AL u6 (Address.ds_len _) (Z ?_)
    refine AW (AM u6) (Z ?_)
    replace h:=AB h; obtain⟨u7,u8,h⟩:=h
    refine AL u8 (Address.ds_len _) (Z ?_)
    refine AW (AM u8) (Z ?_)
    refine Rd (.takeS 196 1000011000 5000030017 0 [] [(3,Int.toNat u1,2)] ⟨List.map Shard.dn y,some 3,0,.nl⟩ (slN ShardRedex.ds u3.redexes) 6 (List.map ShardRedex.ds u3.redexes) (by (first|rfl|(simp only [go_sem]; rfl))) (by (first|rfl|(simp only [go_sem]; rfl))) rfl (Et (AM (f:=Shard.dn) u4) (Shard.dn_len _) (by rfl)) (K4 (by intro x; exact(ShardRedex.ds_len _))) (by simp) (by decide) (by simp only [go_sem]) (.done _)) (Z ?_)
    replace h:=AB h; obtain⟨u9,u10,h⟩:=h
    have hq_:=Au u10
    obtain⟨hv30017a,hv30017b⟩:=hq_
    have hv30017n:=Nk hv30017b
    refine BN .no (Z ?_)
    refine Ad (by refine⟨?_,?_⟩ <;> (try simp only [List.length_map,List.length_append,List.length_cons,List.length_nil] at*) <;> (try unfold maxLen) <;> omega) (Z ?_)
    refine AT (List.map ShardRedex.ds u9) (by rw [← hv30017b]; simp only [List.map_append,List.map_cons,List.map_nil,List.nil_append,List.append_nil,go_sem,ShardRedex.ds_eq]) (Z ?_)
    replace h:=AB h; obtain⟨u11,u12,h⟩:=h
    refine AW (K3 (sz:=3) (AM (f:=Shard.dn) u4) (d':=(slN ShardRedex.ds u3.redexes)) (by rfl)) (Z ?_)
    refine AT (List.map Shard.dn u11) ((congrArg (fun l=>List.set l _ _) (B8 (AM (f:=Shard.dn) u4) (d':=(slN ShardRedex.ds u3.redexes)) (by rfl))).trans ((List.set_set ..).trans (by rw [← AN u12]; simp only [List.map_set,go_sem,Shard.dn_eq,IX hv30017n,List.set_cons_zero,List.set_cons_succ]))) (Z ?_)
    refine AF ?_
    exact lpG (ih0 a1 u w u11 q g k (IntKind.i64.wrap (d+1)) _ h) [(1000008000,1000011000),(1000008001,1000011001),(1000008002,1000011002)] [(1000008500,1000011500),(1000008501,1000011501)]
   ·refine AD h (fun h=>Z ?_) (fun h=>Z ?_)
    ·refine Aa [false,false,false,false,false,false,false,true] (Tr.sq [7] .fin) (by kernel_rfl) (Z ?_)
     replace h:=AB h; obtain⟨u13,u14,h⟩:=h
     refine AL u14 (Address.ds_len _) (Z ?_)
     refine AW (AM u14) (Z ?_)
     replace h:=AB h; obtain⟨u15,u16,h⟩:=h
     refine caG ⟨[],[(1001,1000011000)],[(1,1000011501,0)],[(1501,512112)],[],false⟩ (IN _ _ _ _ _ u16) (Z ?_)
     refine AF ?_
     exact lpG (ih0 a1 u w u15.shards u15.root.machine u15.root.kind u15.root.index (IntKind.i64.wrap (d+1)) _ h) [(1000008000,512112),(1000008001,1000011001),(1000008002,1000011002)] [(1000008500,1000011500),(1000008501,1000011501)]
    ·refine AD h (fun h=>Z ?_) (fun h=>Z ?_)
     ·refine Aa [false,false,false,false,false,false,false,true] (Tr.sq [7] .fin) (by kernel_rfl) (Z ?_)
      replace h:=AB h; obtain⟨u17,u18,h⟩:=h
      refine AL u18 (Address.ds_len _) (Z ?_)
      refine AW (AM u18) (Z ?_)
      replace h:=AB h; obtain⟨u19,u20,h⟩:=h
      refine caG ⟨[],[(1001,1000011000)],[(1,1000011501,0)],[(1501,544112)],[],false⟩ (IN _ _ _ _ _ u20) (Z ?_)
      refine AF ?_
      exact lpG (ih0 a1 u w u19.shards u19.root.machine u19.root.kind u19.root.index (IntKind.i64.wrap (d+1)) _ h) [(1000008000,544112),(1000008001,1000011001),(1000008002,1000011002)] [(1000008500,1000011500),(1000008501,1000011501)]
     ·refine Aa [] .fin (by kernel_rfl) (Z ?_)
      replace h:=AB h; obtain⟨u21,u22,h⟩:=h
      refine AL u22 rfl (Z ?_)
      replace h:=AB h; obtain⟨u23,u24,h⟩:=h
      refine AL u24 (Shard.dn_len _) (Z ?_)
      refine AF ?_
      refine Aa [false,false,false,false,false,false,false,false,false,false,false,false,true] (Tr.sq [12] .fin) (by kernel_rfl) (Z ?_)
      replace h:=AB h; obtain⟨u25,u26,h⟩:=h
      refine AL u26 rfl (Z ?_)
      refine AW (AM u24) (Z ?_)
      refine AW (G0 (sz:=3) (j:=1) (r:=List.map ShardVar.ds u23.vars) (AM (f:=Shard.dn) u24) (Shard.dn_len _) (by rfl) DH) (Z ?_)
      refine AF ?_
      refine AW (AM u24) (Z ?_)
      refine Rd (.takeS 165 1000011000 5000025007 0 [] [(3,Int.toNat u21,1)] ⟨List.map Shard.dn y,some 3,0,.nl⟩ (slN ShardVar.ds u23.vars) 5 (List.map ShardVar.ds u23.vars) (by (first|rfl|(simp only [go_sem]; rfl))) (by (first|rfl|(simp only [go_sem]; rfl))) rfl (Et (AM (f:=Shard.dn) u24) (Shard.dn_len _) (by rfl)) (K4 (by intro x; exact(ShardVar.ds_len _))) (by simp) (by decide) (by simp only [go_sem]) (.done _)) (Z ?_)
      replace h:=AB h; obtain⟨u27,u28,h⟩:=h
      have hq_:=Au u28
      obtain⟨hv25007a,hv25007b⟩:=hq_
      have hv25007n:=Nk hv25007b
      refine BN .no (Z ?_)
      refine Ad (by refine⟨?_,?_⟩ <;> (try simp only [List.length_map,List.length_append,List.length_cons,List.length_nil] at*) <;> (try unfold maxLen) <;> omega) (Z ?_)
      refine AT (List.map ShardVar.ds u27) (by rw [← hv25007b]; simp only [List.map_append,List.map_cons,List.map_nil,List.nil_append,List.append_nil,go_sem,ShardVar.ds_eq]) (Z ?_)
      replace h:=AB h; obtain⟨u29,u30,h⟩:=h
      refine AW (K3 (sz:=3) (AM (f:=Shard.dn) u24) (d':=(slN ShardVar.ds u23.vars)) (by rfl)) (Z ?_)
      refine AT (List.map Shard.dn u29) ((congrArg (fun l=>List.set l _ _) (B8 (AM (f:=Shard.dn) u24) (d':=(slN ShardVar.ds u23.vars)) (by rfl))).trans ((List.set_set ..).trans (by rw [← AN u30]; simp only [List.map_set,go_sem,Shard.dn_eq,IX hv25007n,List.set_cons_zero,List.set_cons_succ]))) (Z ?_)
      refine AF ?_
      replace h:=AB h; obtain⟨u31,u32,h⟩:=h
      refine caG ⟨[],[(1001,1000011000)],[(1,1000011501,0)],[(1501,416048)],[],false⟩ (IN _ _ _ _ _ u32) (Z ?_)
      refine AF ?_
      replace h:=AB h; obtain⟨u33,u34,h⟩:=h
      refine caG ⟨[],[(1001,416048)],[(1,1000011501,0)],[(1501,432048)],[],false⟩ (IN _ _ _ _ _ u34) (Z ?_)
      refine AF ?_
      exact lpG (ih0 a1 u w u33.shards u33.root.machine u33.root.kind u33.root.index (IntKind.i64.wrap (d+1)) _ h) [(1000008000,432048),(1000008001,1000011001),(1000008002,1000011002)] [(1000008500,1000011500),(1000008501,1000011501)]
theorem NC (n:Nat):(∀a1 u w y q g j k r,Al n a1 u w y q g j k=some r→E4 Tryz.prog Tryz.f131 [1,1,1,1,1,1,0,1,0] (.tup [.agg [.own 1501,.int .i64 r.1.root.machine,.int .i64 r.1.root.kind,.int .i64 r.1.root.index],.int .i64 r.2]) [(1501,⟨List.map Shard.ds r.1.shards,some 3,0,.no⟩)] [] ⟨[(1,.ro (List.map AJ a1)),(6,.box 1000008500 0),(8,.box 1000008501 0),(10,.own 1000008001),(14,.own 1000008002),(15,.int .i64 k)],[(1000008000,some ⟨List.map Shard.dn y,some 3,0,.nl⟩),(1000008001,some ⟨List.map Address.ds u,some 3,0,.no⟩),(1000008002,some ⟨List.map Wire.ds w,some 4,0,.no⟩)],[(1000008500,some [.nils,.int .i64 0,.int .i64 0,.int .i64 0]),(1000008501,some [.own 1000008000,.int .i64 q,.int .i64 g,.int .i64 j])]⟩):=(ME n).1
theorem Nx (n:Nat):(∀a0 a1 u w y r,Cf n a0 a1 u w y=some r→E4 Tryz.prog Tryz.f131 [1,1,1,1,0,1,0] (.tup [.agg [.own 1501,.int .i64 r.1.root.machine,.int .i64 r.1.root.kind,.int .i64 r.1.root.index],.int .i64 r.2]) [(1501,⟨List.map Shard.ds r.1.shards,some 3,0,.no⟩)] [] ⟨[(0,.rop [.ro (List.map Agent.ds a0.agents)] 0),(1,.ro (List.map AJ a1)),(6,.box 1000003500 0),(8,.box 1000003501 0),(10,.own 1000003001),(11,.int .i64 y)],[(1000003000,some ⟨List.map Shard.dn u,some 3,0,.nl⟩),(1000003001,some ⟨List.map Address.ds w,some 3,0,.no⟩)],[(1000003500,some [.nils,.int .i64 0,.int .i64 0,.int .i64 0]),(1000003501,some [.own 1000003000,.int .i64 0,.int .i64 0,.int .i64 0])]⟩):=by
 induction n with
 |zero=>exact((fun _ _ _ _ _ _ h=>by rw [Cf] at h; cases h))
 | succ n ih=>
  have ih0:=ih
  ·intro a0 a1 u w y r h
   rw [Cf] at h
   refine Bo rfl rfl (Z ?_)
   refine AY (Z ?_)
   refine AD h (fun h=>Z ?_) (fun h=>Z ?_)
   ·refine AF ?_
    replace h:=AB h; obtain⟨q,g,h⟩:=h
    refine AL g (Agent.ds_len _) (Z ?_)
    refine Aa [] .fin (by kernel_rfl) (Z ?_)
    replace h:=AB h; obtain⟨k,b,h⟩:=h
    refine AL b rfl (Z ?_)
    replace h:=AB h; obtain⟨d,c,h⟩:=h
    refine AL c (Shard.dn_len _) (Z ?_)
    refine AF ?_
    refine Aa [false,false,false,false,false,false,false,false,false,false,false,false,true,true] (Tr.sq [12,13] .fin) (by kernel_rfl) (Z ?_)
    replace h:=AB h; obtain⟨e,i,h⟩:=h
    refine AL i rfl (Z ?_)
    refine AW (AM c) (Z ?_)
    refine AW (G0 (sz:=3) (j:=0) (r:=List.map ShardCell.ds d.cells) (AM (f:=Shard.dn) c) (Shard.dn_len _) (by rfl) DH) (Z ?_)
    replace h:=AB h; obtain⟨t,s,h⟩:=h
    have hq_:=Au s
    obtain⟨hv13012a,hv13012b⟩:=hq_
    refine BN .no (Z ?_)
    refine Ad (by refine⟨?_,?_⟩ <;> (try simp only [List.length_map,List.length_append,List.length_cons,List.length_nil] at*) <;> (try unfold maxLen) <;> omega) (Z ?_)
    refine AT (List.map Address.ds t) (by rw [← hv13012b]; simp only [List.map_append,List.map_cons,List.map_nil,List.nil_append,List.append_nil,go_sem,Address.ds_eq]) (Z ?_)
    refine AF ?_
    refine Aa [false,false,false,false,false,false,false,false,false,false,false,false,false,false,false,false,false,false,false,false,false,false,false,false,false,false,false,false,false,false,false,true,true,true,true] (Tr.sq [31,32,33,34] .fin) (by kernel_rfl) (Z ?_)
    refine AW (AM c) (Z ?_)
    replace h:=AB h; obtain⟨o,z,h⟩:=h
    refine AH (Gu _ _ z) (Z ?_)
    replace h:=AB h; obtain⟨u1,u2,h⟩:=h
    have hq_:=CS u2
    obtain⟨hv14028a,hv14028b,hv14028c⟩:=hq_
    refine Ad (by refine⟨?_,?_,?_⟩ <;> omega) (Z ?_)
    refine BN .no (Z ?_)
    refine AT (List.map Address.ds u1) (by rw [← hv14028c]; simp only [List.map_replicate,go_sem,Address.ds_eq]) (Z ?_)
    refine Rd (.takeS 78 1000003000 5000014031 0 [] [(3,Int.toNat k,0)] ⟨List.map Shard.dn u,some 3,0,.nl⟩ (slN ShardCell.ds d.cells) 5 (List.map ShardCell.ds d.cells) (by (first|rfl|(simp only [go_sem]; rfl))) (by (first|rfl|(simp only [go_sem]; rfl))) rfl (Et (AM (f:=Shard.dn) c) (Shard.dn_len _) (by rfl)) (K4 (by intro x; exact(ShardCell.ds_len _))) (by simp) (by decide) (by simp only [go_sem]) (.done _)) (Z ?_)
    replace h:=AB h; obtain⟨u3,u4,h⟩:=h
    have hq_:=Au u4
    obtain⟨hv14031a,hv14031b⟩:=hq_
    have hv14031n:=Nk hv14031b
    refine BN .no (Z ?_)
    refine Ad (by refine⟨?_,?_⟩ <;> (try simp only [List.length_map,List.length_append,List.length_cons,List.length_nil] at*) <;> (try unfold maxLen) <;> omega) (Z ?_)
    refine AT (List.map ShardCell.ds u3) (by rw [← hv14031b]; simp only [List.map_append,List.map_cons,List.map_nil,List.nil_append,List.append_nil,go_sem,ShardCell.ds_eq]) (Z ?_)
    replace h:=AB h; obtain⟨u5,u6,h⟩:=h
    refine AW (K3 (sz:=3) (AM (f:=Shard.dn) c) (d':=(slN ShardCell.ds d.cells)) (by rfl)) (Z ?_)
    refine AT (List.map Shard.dn u5) ((congrArg (fun l=>List.set l _ _) (B8 (AM (f:=Shard.dn) c) (d':=(slN ShardCell.ds d.cells)) (by rfl))).trans ((List.set_set ..).trans (by rw [← AN u6]; simp only [List.map_set,go_sem,Shard.dn_eq,IX hv14031n,List.set_cons_zero,List.set_cons_succ]))) (Z ?_)
    refine AF ?_
    exact lpG (ih0 a0 a1 u5 t (IntKind.i64.wrap (y+1)) _ h) [(1000003000,1000003000),(1000003001,208192)] [(1000003500,1000003500),(1000003501,1000003501)]
   ·refine AF ?_
    replace h:=AB h; obtain⟨u7,u8,h⟩:=h
    refine AH (Qm _ _ u8) (Z ?_)
    refine AF ?_
    exact loG (NC fuel a1 w u7 u 0 0 0 0 _ h) [(1000008000,1000003000),(1000008001,1000003001),(1000008002,240016)] [(1000008500,1000003500),(1000008501,1000003501)]
theorem Ny (n:Nat):(∀a0 a1 a2 u w r,DA n a0 a1 a2 u w=some r→E4 Tryz.prog Tryz.f131 [1,1,0,1,0] (.tup [.agg [.own 1501,.int .i64 r.1.root.machine,.int .i64 r.1.root.kind,.int .i64 r.1.root.index],.int .i64 r.2]) [(1501,⟨List.map Shard.ds r.1.shards,some 3,0,.no⟩)] [] ⟨[(0,.rop [.ro (List.map Agent.ds a0.agents)] 0),(1,.ro (List.map AJ a1)),(2,.int .i64 a2),(6,.box 1000001500 0),(8,.box 1000001501 0),(9,.int .i64 w)],[(1000001000,some ⟨List.map Shard.dn u,some 3,0,.nl⟩)],[(1000001500,some [.nils,.int .i64 0,.int .i64 0,.int .i64 0]),(1000001501,some [.own 1000001000,.int .i64 0,.int .i64 0,.int .i64 0])]⟩):=by
 induction n with
 |zero=>exact((fun _ _ _ _ _ _ h=>by rw [DA] at h; cases h))
 | succ n ih=>
  have ih0:=ih
  ·intro a0 a1 a2 u w r h
   rw [DA] at h
   refine Bo rfl rfl (Z ?_)
   refine AY (Z ?_)
   refine AD h (fun h=>Z ?_) (fun h=>Z ?_)
   ·refine AF ?_
    replace h:=AB h; obtain⟨y,q,h⟩:=h
    have hq_:=Au q
    obtain⟨hv6004a,hv6004b⟩:=hq_
    refine BN .nl (Z ?_)
    refine Ad (by refine⟨?_,?_⟩ <;> (try simp only [List.length_map,List.length_append,List.length_cons,List.length_nil] at*) <;> (try unfold maxLen) <;> omega) (Z ?_)
    refine AT (List.map Shard.dn y) (by rw [← hv6004b]; simp only [List.map_append,List.map_cons,List.map_nil,List.nil_append,List.append_nil,go_sem,Shard.dn_eq]) (Z ?_)
    refine AF ?_
    exact lpG (ih0 a0 a1 a2 y (IntKind.i64.wrap (w+1)) _ h) [(1000001000,96064)] [(1000001500,1000001500),(1000001501,1000001501)]
   ·refine AF ?_
    refine AF ?_
    refine Cd (JQ rfl rfl (Nx fuel a0 a1 u [(⟨0,0,0⟩:Address)] 1 _ h):) (.one ⟨_,.lit 10 2000000000 7001 1 3 .no [] _ _ (by (first|rfl|(simp only [go_sem]; rfl))) (by simp only [go_sem]; rfl) (by (first|rfl|(simp only [go_sem]; rfl))) (by (first|rfl|(simp only [go_sem]; rfl))) (by decide) (by decide) (by simp only [go_sem]) (.done _),[(1000003000,1000001000),(1000003001,2000000000)],[(1000003500,1000001500),(1000003501,1000001501)],?_⟩)
    simp only [go_sem]
    all_goals try rfl
theorem Qn (a0 a1 a2 r) (h:Hs a0 a1 a2=some r):AG Tryz.prog 131 [.rop [.ro (List.map Agent.ds a0.agents)] 0,.ro (List.map AJ a1),.int .i64 a2] [] [] (.tup [.agg [.own 1501,.int .i64 r.1.root.machine,.int .i64 r.1.root.kind,.int .i64 r.1.root.index],.int .i64 r.2]) [(1501,⟨List.map Shard.ds r.1.shards,some 3,0,.no⟩)] [] :=by
 unfold Hs at h
 refine agF Tryz.func131 mixed (h:=Z ?_)
 refine AF ?_
 refine AF ?_
 refine Cd (JQ rfl rfl (Ny fuel a0 a1 a2 [] 0 _ h):) (.one ⟨_,.cell 2001 0 2000000000 (some 3) .nl _ (by simp only [go_sem]; rfl) (by rfl) (by simp only [go_sem]) (.done _),[(1000001000,2000000000)],[(1000001500,1000),(1000001501,2001)],?_⟩)
 simp only [go_sem]
 all_goals try rfl
theorem Nz (n:Nat):(∀a0 a1 a2 u r,DB n a0 a1 a2 u=some r→Ax Tryz.prog Tryz.f69 [1,1,1,0,1,0] (.tup [.agg (Grid.rv r.1),.int .i64 r.2]) ⟨[(1,.ro (List.map AJ a1)),(2,.int .i64 a2),(3,.box 1000002500 0),(6,.box 1000002501 0),(8,.int .i64 u)],[],[(1000002500,some [.ro (List.map Agent.ds a0.agents)]),(1000002501,some [.nils,.int .i64 0,.int .i64 0,.int .i64 0])]⟩):=by
 induction n with
 |zero=>exact((fun _ _ _ _ _ h=>by rw [DB] at h; cases h))
 | succ n ih=>
  have ih0:=ih
  ·intro a0 a1 a2 u r h
   rw [DB] at h
   refine AS rfl rfl (Z ?_)
   refine AY (Z ?_)
   refine AD h (fun h=>Z ?_) (fun h=>Z ?_)
   ·refine AF ?_
    replace h:=AB h; obtain⟨w,y,h⟩:=h
    refine AL y rfl (Z ?_)
    replace h:=AB h; obtain⟨q,g,h⟩:=h
    refine AH (BY _ _ _ _ g) (Z ?_)
    refine AF ?_
    refine AD h (fun h=>Z ?_) (fun h=>Z ?_)
    ·cases h
     simp only [go_sem]
    ·refine AF ?_
     exact lpF (ih0 a0 a1 a2 (IntKind.i64.wrap (u+1)) _ h) [] [(1000002500,1000002500),(1000002501,1000002501)]
   ·refine AF ?_
    replace h:=AB h; obtain⟨j,k,h⟩:=h
    refine caG ⟨[],[],[],[(1501,176032)],[],false⟩ (Qn _ _ _ _ k) (Z ?_)
    refine AF ?_
    cases h
    simp only [go_sem]
theorem GX (a0:Net) (a1:List Int) (a2:Int) (u:Bool) (r:Grid × Int) (h:DC a0 a1 a2 u=some r):Ax Tryz.prog Tryz.f69 [1,1,0,1] (.tup [.agg (Grid.rv r.1),.int .i64 r.2]) ⟨[(1,.ro (List.map AJ a1)),(2,.int .i64 a2),(3,.box 1000000500 0),(6,.box 1000000501 0),(28,.bool u)],[],[(1000000500,some [.ro (List.map Agent.ds a0.agents)]),(1000000501,some [.nils,.int .i64 0,.int .i64 0,.int .i64 0])]⟩:=by
 unfold DC at h
 refine AS rfl rfl (Z ?_)
 refine AD h (fun h=>Z ?_) (fun h=>Z ?_)
 ·cases h
  simp only [go_sem]
 ·refine AF ?_
  exact loF (Nz fuel a0 a1 a2 0 _ h) [] [(1000002500,1000000500),(1000002501,1000000501)]
theorem Ql (a0 a1 a2 r) (h:Hr a0 a1 a2=some r):AC Tryz.prog 69 [.agg (Net.avs a0),.ro (List.map AJ a1),.int .i64 a2] (.tup [.agg (Grid.rv r.1),.int .i64 r.2]):=by
 unfold Hr at h
 refine acF Tryz.func69 mixed (h:=Z ?_)
 refine AF ?_
 replace h:=AB h; obtain⟨u,w,h⟩:=h
 refine AH (VN _ _ w) (Z ?_)
 refine AF ?_
 refine AD h (fun h=>Z ?_) (fun h=>Z ?_)
 ·cases h
  simp only [go_sem]
 ·refine AF ?_
  replace h:=AB h; obtain⟨y,q,h⟩:=h
  refine AH (BY _ _ _ _ q) (Z ?_)
  refine AD h (fun h=>Z ?_) (fun h=>Z ?_)
  ·exact BS (GX a0 a1 a2 true _ h) [] [(1000000500,1000),(1000000501,1001)]
  ·refine AD h (fun h=>Z ?_) (fun h=>Z ?_)
   ·exact BS (GX a0 a1 a2 true _ h) [] [(1000000500,1000),(1000000501,1001)]
   ·replace h:=AB h; obtain⟨g,j,h⟩:=h
    refine AL j rfl (Z ?_)
    exact BS (GX a0 a1 a2 (!decide (g=0)) _ h) [] [(1000000500,1000),(1000000501,1001)]
theorem CH (a0 r) (h:BB a0=some r):AC Tryz.prog 80 [.ro (List.map AJ a0)] (.ow (some 1) (List.map AJ r)):=by
 unfold BB at h
 refine acF Tryz.func80 mixed (h:=Z ?_)
 refine Ts (by simp only [go_sem]) (fun h0=>?_) ?_
 ·try simp only [go_sem]
  have hq_:=List.map_eq_nil_iff.1 h0
  obtain rfl:=hq_
  obtain rfl:r=[] :=by cases h; rfl
  simp only [go_sem]
 ·try simp only [go_sem]
  refine AF ?_
  replace h:=AB h; obtain⟨u,w,h⟩:=h
  have hq_:=Au w
  obtain⟨hv4002a,hv4002b⟩:=hq_
  refine BN .no (Z ?_)
  refine Ad (De (by intro x; exact⟨rfl,by simp [go_sem,D.flat]⟩) _) (Z ?_)
  refine Ad (by refine⟨?_,?_⟩ <;> (try simp only [List.length_map,List.length_append,List.length_cons,List.length_nil] at*) <;> (try unfold maxLen) <;> omega) (Z ?_)
  refine AT (List.map AJ u) (by rw [← hv4002b]; simp only [List.map_append,List.map_cons,List.map_nil,List.nil_append,List.append_nil,go_sem,slD]) (Z ?_)
  refine AF ?_
  cases h
  simp only [go_sem]
theorem Qo (a0 a1 r) (h:JU a0 a1=some r):AC Tryz.prog 122 [.int .i64 a0,.rop [.int .i64 a1] 0] (.bool r):=by
 unfold JU at h
 refine acF Tryz.func122 mixed (h:=Z ?_)
 refine AD h (fun h=>Z ?_) (fun h=>Z ?_)
 ·refine AF ?_
  cases h
  simp only [go_sem]
 ·refine AF ?_
  cases h
  simp only [go_sem]
theorem UG (a0 a1 r) (h:KV a0 a1=some r):AC Tryz.prog 52 [.int .i64 a0,.ro (List.map AJ a1)] (.bool r):=by
 unfold KV at h
 refine acF Tryz.func52 mixed (h:=Z ?_)
 replace h:=AB h; obtain⟨u,w,h⟩:=h
 refine AH (FZ _ _ 122 [.agg [],.rop [.int .i64 a0] 0] (Still.of (by simp only [Dz,FG,Bool.and_true,Bool.true_and,Bool.and_self])) (fun y0 q hq=>Qo y0 _ q hq) _ w) (Z ?_)
 refine AF ?_
 cases h
 simp only [go_sem]
theorem Qp (a0 a1 a2 r) (h:JV a0 a1 a2=some r):AC Tryz.prog 136 [.rop (Net.avs a0) 0,.ro (List.map AJ a1),.int .i64 a2] (.bool r):=by
 unfold JV at h
 refine acF Tryz.func136 mixed (h:=Z ?_)
 refine AD h (fun h=>Z ?_) (fun h=>Z ?_)
 ·refine AD h (fun h=>Z ?_) (fun h=>Z ?_)
  ·refine AD h (fun h=>Z ?_) (fun h=>Z ?_)
   ·replace h:=AB h; obtain⟨u,w,h⟩:=h
    refine AL w rfl (Z ?_)
    refine AD h (fun h=>Z ?_) (fun h=>Z ?_)
    ·replace h:=AB h; obtain⟨y,q,h⟩:=h
     refine AH (UG _ _ _ q) (Z ?_)
     refine AF ?_
     cases h
     simp only [go_sem]
    ·refine AF ?_
     cases h
     simp only [go_sem]
   ·refine AF ?_
    cases h
    simp only [go_sem]
  ·refine AF ?_
   cases h
   simp only [go_sem]
 ·refine AF ?_
  cases h
  simp only [go_sem]
theorem N0 (a0 a1 r) (h:Gc a0 a1=some r):AC Tryz.prog 137 [.int .i64 a0,.int .i64 a1] (.agg (Address.rv r)):=by
 unfold Gc at h
 refine acF Tryz.func137 mixed (h:=Z ?_)
 refine AF ?_
 cases h
 simp only [go_sem]
theorem N1 (a0 a1 r) (h:Gd a0 a1=some r):AC Tryz.prog 140 [.agg (Port.avs a0),.agg (Port.avs a1)] (.bool r):=by
 unfold Gd at h
 refine acF Tryz.func140 mixed (h:=Z ?_)
 refine AD h (fun h=>Z ?_) (fun h=>Z ?_)
 ·refine AF ?_
  cases h
  simp only [go_sem]
 ·refine AD h (fun h=>Z ?_) (fun h=>Z ?_)
  ·refine AF ?_
   cases h
   simp only [go_sem]
  ·refine AF ?_
   cases h
   simp only [go_sem]
theorem Dj (a0 r) (h:Ba a0=some r):AC Tryz.prog 194 [.agg (Port.avs a0)] (.bool r):=by
 unfold Ba at h
 refine acF Tryz.func194 mixed (h:=Z ?_)
 refine AD h (fun h=>Z ?_) (fun h=>Z ?_)
 ·refine AF ?_
  cases h
  simp only [go_sem]
 ·refine AF ?_
  cases h
  simp only [go_sem]
theorem En (a0 a1 a2 r) (h:Cl a0 a1 a2=some r):AG Tryz.prog 195 [.box 1 0,.agg [.int .i64 a1.agent,.int .i64 a1.slot],.agg [.int .i64 a2.machine,.int .i64 a2.kind,.int .i64 a2.index]] [(1001,⟨List.map Shard.dn a0.grid.shards,some 3,0,.nl⟩)] [(1,[.rop [.ro (List.map Agent.ds a0.n.agents)] 0,.ro (List.map AJ a0.owners),.own 1001,.int .i64 a0.grid.root.machine,.int .i64 a0.grid.root.kind,.int .i64 a0.grid.root.index,.ro (List.map Address.ds a0.att)])] (.tup []) [(1501,⟨List.map Shard.dn r.grid.shards,some 3,0,.nl⟩)] [(1,[.rop [.ro (List.map Agent.ds r.n.agents)] 0,.ro (List.map AJ a0.owners),.own 1501,.int .i64 r.grid.root.machine,.int .i64 r.grid.root.kind,.int .i64 r.grid.root.index,.ro (List.map Address.ds a0.att)])] :=by
 unfold Cl at h
 refine agF Tryz.func195 mixed (h:=Z ?_)
 refine AD h (fun h=>Z ?_) (fun h=>Z ?_)
 ·cases h
  refine Cc (.done _) [(1501,1001)] [(1,1)] ?_
  simp only [go_sem]
 ·refine AF ?_
  refine Aa [false,false,false,false,false,false,false,false,false,true] (Tr.sq [9] .fin) (by kernel_rfl) (Z ?_)
  replace h:=AB h; obtain⟨u,w,h⟩:=h
  refine AL w (Address.ds_len _) (Z ?_)
  refine AF ?_
  refine Aa [false,false,false,false,false,false,false,false,false,false,false,false,false,false,false,false,false,false,false,false,true] (Tr.sq [20] .fin) (by kernel_rfl) (Z ?_)
  replace h:=AB h; obtain⟨y,q,h⟩:=h
  refine AL q (Shard.dn_len _) (Z ?_)
  refine AW (AM q) (Z ?_)
  replace h:=AB h; obtain⟨g,k,h⟩:=h
  refine AW (G0 (sz:=3) (j:=0) (r:=List.map ShardCell.ds y.cells) (AM (f:=Shard.dn) q) (Shard.dn_len _) (by rfl) DH) (Z ?_)
  refine AL k (ShardCell.ds_len _) (Z ?_)
  refine AW (G0 (sz:=3) (j:=0) (r:=List.map ShardCell.ds y.cells) (AM (f:=Shard.dn) q) (Shard.dn_len _) (by rfl) DH) (Z ?_)
  refine AW (AM k) (Z ?_)
  replace h:=AB h; obtain⟨b,d,h⟩:=h
  refine AW (SD (sz:=3) (j:=0) (AM (f:=Shard.dn) q) (Shard.dn_len _) (by rfl) DH (Ff (sz:=5) (j:=4) (r:=List.map Address.ds g.aux) (AM (f:=ShardCell.ds) k) (ShardCell.ds_len _) (by rw [ShardCell.ds_eq]; rfl))) (Z ?_)
  refine AL d (Address.ds_len _) (Z ?_)
  replace h:=AB h; obtain⟨c,e,h⟩:=h
  replace h:=AB h; obtain⟨i,l,h⟩:=h
  replace h:=AB h; obtain⟨t,s,h⟩:=h
  refine AW (SD (sz:=3) (j:=0) (AM (f:=Shard.dn) q) (Shard.dn_len _) (by rfl) DH (Ff (sz:=5) (j:=4) (r:=List.map Address.ds g.aux) (AM (f:=ShardCell.ds) k) (ShardCell.ds_len _) (by rw [ShardCell.ds_eq]; rfl))) (Z ?_)
  refine AW (AM d) (Z ?_)
  try refine Ad ⟨List.cons_ne_nil _ _,by rfl,by decide,by rfl⟩ ?_
  try simp only [go_sem]
  refine AT (List.map Shard.dn t) ((Yi (AM (f:=Shard.dn) q) (r1:=List.map ShardCell.ds y.cells) (by rw [show (.sl (List.map ShardCell.ds y.cells):D)=slN ShardCell.ds y.cells from (IX (Vx k)).symm]; rfl) (AM (f:=ShardCell.ds) k) (d2:=.sl (List.map Address.ds g.aux)) (by simp only [go_sem,ShardCell.ds_eq])).trans (by rw [← AN s]; simp only [List.map_set,go_sem,Shard.dn_eq,IX (Yr l (Vx k)),List.set_cons_succ,List.set_cons_zero]; rw [← AN l]; simp only [List.map_set,go_sem,ShardCell.ds_eq,List.set_cons_succ,List.set_cons_zero]; rw [← AN e]; simp only [List.map_set,go_sem,Address.ds_eq])) (Z ?_)
  cases h
  refine Cc (.done _) [(1501,1001)] [(1,1)] ?_
  simp only [go_sem]
theorem Oq (a0 a1 r) (h:HE a0 a1=some r):AC Tryz.prog 196 [.int .i64 a0,.int .i64 a1] (.agg (Address.rv r)):=by
 unfold HE at h
 refine acF Tryz.func196 mixed (h:=Z ?_)
 refine AF ?_
 cases h
 simp only [go_sem]
theorem GJ (a0:Splitter) (a1:Port) (a2:Port) (u:Int) (w:Bool) (r:Splitter) (h:CW a0 a1 a2 u w=some r):E4 Tryz.prog Tryz.f141 [1,1,1,0,1] (.tup []) [(1501,⟨List.map Shard.dn r.grid.shards,some 3,0,.nl⟩)] [(1,[.rop [.ro (List.map Agent.ds r.n.agents)] 0,.ro (List.map AJ a0.owners),.own 1501,.int .i64 r.grid.root.machine,.int .i64 r.grid.root.kind,.int .i64 r.grid.root.index,.ro (List.map Address.ds a0.att)])] ⟨[(0,.box 1 0),(4,.box 1000000500 0),(5,.box 1000000501 0),(6,.fn 194 []),(7,.elt 1000000000 3 (Int.toNat u) 0),(55,.bool w)],[(1000000000,some ⟨List.map Shard.dn a0.grid.shards,some 3,0,.nl⟩)],[(1,some [.rop [.ro (List.map Agent.ds a0.n.agents)] 0,.ro (List.map AJ a0.owners),.own 1000000000,.int .i64 a0.grid.root.machine,.int .i64 a0.grid.root.kind,.int .i64 a0.grid.root.index,.ro (List.map Address.ds a0.att)]),(1000000500,some [.int .i64 a1.agent,.int .i64 a1.slot]),(1000000501,some [.int .i64 a2.agent,.int .i64 a2.slot])]⟩:=by
 unfold CW at h
 refine Bo rfl rfl (Z ?_)
 refine AD h (fun h=>Z ?_) (fun h=>Z ?_)
 ·refine Aa [false,false,false,false,false,false,false,false,false,false,false,false,false,false,false,false,false,false,false,false,false,false,false,true,true,true,true] (Tr.sq [23,24,25,26] .fin) (by kernel_rfl) (Z ?_)
  replace h:=AB h; obtain⟨y,q,h⟩:=h
  refine AW (AM q) (Z ?_)
  replace h:=AB h; obtain⟨g,k,h⟩:=h
  refine AL k (Address.ds_len _) (Z ?_)
  replace h:=AB h; obtain⟨b,d,h⟩:=h
  refine AL d (Address.ds_len _) (Z ?_)
  refine Rd (.takeS 68 1000000000 5000009023 0 [] [(3,Int.toNat u,2)] ⟨List.map Shard.dn a0.grid.shards,some 3,0,.nl⟩ (slN ShardRedex.ds y.redexes) 6 (List.map ShardRedex.ds y.redexes) (by (first|rfl|(simp only [go_sem]; rfl))) (by (first|rfl|(simp only [go_sem]; rfl))) rfl (Et (AM (f:=Shard.dn) q) (Shard.dn_len _) (by rfl)) (K4 (by intro x; exact(ShardRedex.ds_len _))) (by simp) (by decide) (by simp only [go_sem]) (.done _)) (Z ?_)
  replace h:=AB h; obtain⟨c,e,h⟩:=h
  have hq_:=Au e
  obtain⟨hv9023a,hv9023b⟩:=hq_
  have hv9023n:=Nk hv9023b
  refine BN .no (Z ?_)
  refine Ad (by refine⟨?_,?_⟩ <;> (try simp only [List.length_map,List.length_append,List.length_cons,List.length_nil] at*) <;> (try unfold maxLen) <;> omega) (Z ?_)
  refine AT (List.map ShardRedex.ds c) (by rw [← hv9023b]; simp only [List.map_append,List.map_cons,List.map_nil,List.nil_append,List.append_nil,go_sem,ShardRedex.ds_eq]) (Z ?_)
  replace h:=AB h; obtain⟨i,t,h⟩:=h
  replace h:=AB h; obtain⟨s,o,h⟩:=h
  refine AW (K3 (sz:=3) (AM (f:=Shard.dn) q) (d':=(slN ShardRedex.ds y.redexes)) (by rfl)) (Z ?_)
  refine AT (List.map Shard.dn s) ((congrArg (fun l=>List.set l _ _) (B8 (AM (f:=Shard.dn) q) (d':=(slN ShardRedex.ds y.redexes)) (by rfl))).trans ((List.set_set ..).trans (by rw [← AN o]; simp only [List.map_set,go_sem,Shard.dn_eq,IX hv9023n,List.set_cons_zero,List.set_cons_succ]))) (Z ?_)
  cases h
  refine Cc (.done _) [(1501,1000000000)] [(1,1)] ?_
  simp only [go_sem]
 ·replace h:=AB h; obtain⟨z,u1,h⟩:=h
  refine AH (Dj _ _ u1) (Z ?_)
  refine AF ?_
  refine AD h (fun h=>Z ?_) (fun h=>Z ?_)
  ·refine Aa [false,false,false,false,false,false,false,false,false,false,true] (Tr.sq [10] .fin) (by kernel_rfl) (Z ?_)
   replace h:=AB h; obtain⟨u2,u3,h⟩:=h
   refine AL u3 (Address.ds_len _) (Z ?_)
   replace h:=AB h; obtain⟨u4,u5,h⟩:=h
   refine caG ⟨[],[(1001,1000000000)],[(1,1,0)],[(1501,176160)],[],true⟩ (En _ _ _ _ u5) (Z ?_)
   cases h
   refine Cc (.done _) [(1501,176160)] [(1,1)] ?_
   simp only [go_sem]
  ·replace h:=AB h; obtain⟨u6,u7,h⟩:=h
   refine AH (Dj _ _ u7) (Z ?_)
   refine AF ?_
   refine AD h (fun h=>Z ?_) (fun h=>Z ?_)
   ·refine Aa [false,false,false,false,false,false,false,false,false,false,true] (Tr.sq [10] .fin) (by kernel_rfl) (Z ?_)
    replace h:=AB h; obtain⟨u8,u9,h⟩:=h
    refine AL u9 (Address.ds_len _) (Z ?_)
    replace h:=AB h; obtain⟨u10,u11,h⟩:=h
    refine caG ⟨[],[(1001,1000000000)],[(1,1,0)],[(1501,208160)],[],true⟩ (En _ _ _ _ u11) (Z ?_)
    cases h
    refine Cc (.done _) [(1501,208160)] [(1,1)] ?_
    simp only [go_sem]
   ·refine Aa [false,false,false,false,false,false,false,false,false,false,false,false,false,false,false,true] (Tr.sq [15] .fin) (by kernel_rfl) (Z ?_)
    replace h:=AB h; obtain⟨u12,u13,h⟩:=h
    refine AL u13 rfl (Z ?_)
    replace h:=AB h; obtain⟨u14,u15,h⟩:=h
    refine AW (AM u15) (Z ?_)
    refine AW (G0 (sz:=3) (j:=1) (r:=List.map ShardVar.ds u14.vars) (AM (f:=Shard.dn) u15) (Shard.dn_len _) (by rfl) DH) (Z ?_)
    replace h:=AB h; obtain⟨u16,u17,h⟩:=h
    refine AH (Oq _ _ _ u17) (Z ?_)
    refine AF ?_
    replace h:=AB h; obtain⟨u18,u19,h⟩:=h
    refine AW (AM u19) (Z ?_)
    refine Rd (.takeS 41 1000000000 5000005007 0 [] [(3,Int.toNat u,1)] ⟨List.map Shard.dn a0.grid.shards,some 3,0,.nl⟩ (slN ShardVar.ds u18.vars) 5 (List.map ShardVar.ds u18.vars) (by (first|rfl|(simp only [go_sem]; rfl))) (by (first|rfl|(simp only [go_sem]; rfl))) rfl (Et (AM (f:=Shard.dn) u19) (Shard.dn_len _) (by rfl)) (K4 (by intro x; exact(ShardVar.ds_len _))) (by simp) (by decide) (by simp only [go_sem]) (.done _)) (Z ?_)
    replace h:=AB h; obtain⟨u20,u21,h⟩:=h
    have hq_:=Au u21
    obtain⟨hv5007a,hv5007b⟩:=hq_
    have hv5007n:=Nk hv5007b
    refine BN .no (Z ?_)
    refine Ad (by refine⟨?_,?_⟩ <;> (try simp only [List.length_map,List.length_append,List.length_cons,List.length_nil] at*) <;> (try unfold maxLen) <;> omega) (Z ?_)
    refine AT (List.map ShardVar.ds u20) (by rw [← hv5007b]; simp only [List.map_append,List.map_cons,List.map_nil,List.nil_append,List.append_nil,go_sem,ShardVar.ds_eq]) (Z ?_)
    replace h:=AB h; obtain⟨u22,u23,h⟩:=h
    replace h:=AB h; obtain⟨u24,u25,h⟩:=h
    refine AW (K3 (sz:=3) (AM (f:=Shard.dn) u19) (d':=(slN ShardVar.ds u18.vars)) (by rfl)) (Z ?_)
    refine AT (List.map Shard.dn u24) ((congrArg (fun l=>List.set l _ _) (B8 (AM (f:=Shard.dn) u19) (d':=(slN ShardVar.ds u18.vars)) (by rfl))).trans ((List.set_set ..).trans (by rw [← AN u25]; simp only [List.map_set,go_sem,Shard.dn_eq,IX hv5007n,List.set_cons_zero,List.set_cons_succ]))) (Z ?_)
    refine AF ?_
    replace h:=AB h; obtain⟨u26,u27,h⟩:=h
    refine caG ⟨[],[(1001,1000000000)],[(1,1,0)],[(1501,96048)],[],true⟩ (En _ _ _ _ u27) (Z ?_)
    refine AF ?_
    replace h:=AB h; obtain⟨u28,u29,h⟩:=h
    refine caG ⟨[],[(1001,96048)],[(1,1,0)],[(1501,112048)],[],true⟩ (En _ _ _ _ u29) (Z ?_)
    cases h
    refine Cc (.done _) [(1501,112048)] [(1,1)] ?_
    simp only [go_sem]
theorem MF (a0 a1 a2 r) (h:Da a0 a1 a2=some r):AG Tryz.prog 141 [.box 1 0,.agg [.int .i64 a1.agent,.int .i64 a1.slot],.agg [.int .i64 a2.agent,.int .i64 a2.slot]] [(1001,⟨List.map Shard.dn a0.grid.shards,some 3,0,.nl⟩)] [(1,[.rop [.ro (List.map Agent.ds a0.n.agents)] 0,.ro (List.map AJ a0.owners),.own 1001,.int .i64 a0.grid.root.machine,.int .i64 a0.grid.root.kind,.int .i64 a0.grid.root.index,.ro (List.map Address.ds a0.att)])] (.tup []) [(1501,⟨List.map Shard.dn r.grid.shards,some 3,0,.nl⟩)] [(1,[.rop [.ro (List.map Agent.ds r.n.agents)] 0,.ro (List.map AJ a0.owners),.own 1501,.int .i64 r.grid.root.machine,.int .i64 r.grid.root.kind,.int .i64 r.grid.root.index,.ro (List.map Address.ds a0.att)])] :=by
 unfold Da at h
 refine agF Tryz.func141 mixed (h:=Z ?_)
 refine Aa [] .fin (by kernel_rfl) (Z ?_)
 replace h:=AB h; obtain⟨u,w,h⟩:=h
 refine AL w rfl (Z ?_)
 replace h:=AB h; obtain⟨y,q,h⟩:=h
 refine AL q (Shard.dn_len _) (Z ?_)
 refine AF ?_
 replace h:=AB h; obtain⟨g,j,h⟩:=h
 refine AH (Dj _ _ j) (Z ?_)
 refine AD h (fun h=>Z ?_) (fun h=>Z ?_)
 ·replace h:=AB h; obtain⟨k,b,h⟩:=h
  refine AH (Dj _ _ b) (Z ?_)
  exact P3 (GJ a0 a1 a2 u k _ h) [(1000000000,1001)] [(1,1),(1000000500,1000),(1000000501,1001)]
 ·exact P3 (GJ a0 a1 a2 u false _ h) [(1000000000,1001)] [(1,1),(1000000500,1000),(1000000501,1001)]
theorem Gv (n:Nat):(∀ (a0:List Shard) (u:Int) (f1:(Shard→Option Bool)) (g1:FuncId) (c1:List AV) (s1:Still c1) (h1:∀ (y0:Shard) (q:Bool),f1 y0=some q→AC Tryz.prog g1 (fnA c1 [.agg (Shard.avs y0)]) (.bool q)) (r:Int),Ao n a0 u f1=some r→Ax Tryz.prog Tryz.f197 [1,0,1,0] (.int .i64 r) ⟨[(0,.ro (List.map Shard.ds a0)),(1,.fn g1 c1),(7,.int .i64 ((List.length a0:Nat):Int)),(8,.int .i64 u)],[],[]⟩):=by
 induction n with
 |zero=>exact((fun _ _ _ _ _ _ _ _ h=>by rw [Ao] at h; cases h))
 | succ n ih=>
  have ih0:=ih
  ·intro a0 u f1 g1 c1 s1 h1 r h
   rw [Ao] at h
   refine AS rfl rfl ?_
   try simp only [go_sem,s1.k,s1.r,s1.c,s1.p,s1.o,s1.f]
   refine AY ?_
   try simp only [go_sem,s1.k,s1.r,s1.c,s1.p,s1.o,s1.f]
   refine AD h (fun h=>?_) (fun h=>?_)
   ·try simp only [go_sem,s1.k,s1.r,s1.c,s1.p,s1.o,s1.f]
    refine Cg ?_
    try simp only [go_sem,s1.k,s1.r,s1.c,s1.p,s1.o,s1.f]
    replace h:=AB h; obtain⟨w,y,h⟩:=h
    refine AL y (Shard.ds_len _) ?_
    try simp only [go_sem,s1.k,s1.r,s1.c,s1.p,s1.o,s1.f]
    replace h:=AB h; obtain⟨g,j,h⟩:=h
    refine AH (h1 _ _ j) ?_
    try simp only [go_sem,s1.k,s1.r,s1.c,s1.p,s1.o,s1.f]
    refine Cg ?_
    try simp only [go_sem,s1.k,s1.r,s1.c,s1.p,s1.o,s1.f]
    refine AD h (fun h=>?_) (fun h=>?_)
    ·try simp only [go_sem,s1.k,s1.r,s1.c,s1.p,s1.o,s1.f]
     cases h
     simp only [go_sem,s1.k,s1.r,s1.c,s1.p,s1.o,s1.f]
    ·try simp only [go_sem,s1.k,s1.r,s1.c,s1.p,s1.o,s1.f]
     refine Cg ?_
     try simp only [go_sem,s1.k,s1.r,s1.c,s1.p,s1.o,s1.f]
     refine P0 (B9 rfl rfl (ih0 a0 (IntKind.i64.wrap (u+1)) f1 g1 c1 s1 h1 _ h):) (.one ⟨_,.done _,[],[],?_⟩)
     try simp only [go_sem,s1.k,s1.r,s1.c,s1.p,s1.o,s1.f]
   ·try simp only [go_sem,s1.k,s1.r,s1.c,s1.p,s1.o,s1.f]
    refine Cg ?_
    try simp only [go_sem,s1.k,s1.r,s1.c,s1.p,s1.o,s1.f]
    cases h
    simp only [go_sem,s1.k,s1.r,s1.c,s1.p,s1.o,s1.f]
theorem H7 (a0:List Shard) (f1:(Shard→Option Bool)) (g1:FuncId) (c1:List AV) (s1:Still c1) (h1:∀ (y0:Shard) (q:Bool),f1 y0=some q→AC Tryz.prog g1 (fnA c1 [.agg (Shard.avs y0)]) (.bool q)) (r:Int) (h:D5 a0 f1=some r):AC Tryz.prog 197 [.ro (List.map Shard.ds a0),.fn g1 c1] (.int .i64 r):=by
 unfold D5 at h
 refine acF Tryz.func197 mixed (h:=?_)
 try simp only [go_sem,s1.k,s1.r,s1.c,s1.p,s1.o,s1.f]
 refine Cd (B9 rfl rfl (Gv fuel a0 0 f1 g1 c1 s1 h1 _ h):) (.one ⟨_,.done _,[],[],?_⟩)
 try simp only [go_sem,s1.k,s1.r,s1.c,s1.p,s1.o,s1.f]
theorem Gw (a0:List Shard) (f1:(Shard→Option Bool)) (g1:FuncId) (c1:List AV) (s1:Still c1) (h1:∀ (y0:Shard) (q:Bool),f1 y0=some q→AC Tryz.prog g1 (fnA c1 [.agg (Shard.avs y0)]) (.bool q)) (r:Bool) (h:BP a0 f1=some r):AC Tryz.prog 142 [.ro (List.map Shard.ds a0),.fn g1 c1] (.bool r):=by
 unfold BP at h
 refine acF Tryz.func142 mixed (h:=?_)
 try simp only [go_sem,s1.k,s1.r,s1.c,s1.p,s1.o,s1.f]
 replace h:=AB h; obtain⟨u,w,h⟩:=h
 refine AH (H7 _ _ g1 c1 s1 h1 _ w) ?_
 try simp only [go_sem,s1.k,s1.r,s1.c,s1.p,s1.o,s1.f]
 refine Cg ?_
 try simp only [go_sem,s1.k,s1.r,s1.c,s1.p,s1.o,s1.f]
 cases h
 simp only [go_sem,s1.k,s1.r,s1.c,s1.p,s1.o,s1.f]
theorem Fx (n:Nat):(∀ (a0:List ShardCell) (u:Int) (f1:(ShardCell→Option Bool)) (g1:FuncId) (c1:List AV) (s1:Still c1) (h1:∀ (y0:ShardCell) (q:Bool),f1 y0=some q→AC Tryz.prog g1 (fnA c1 [.agg (ShardCell.avs y0)]) (.bool q)) (r:Int),Af n a0 u f1=some r→Ax Tryz.prog Tryz.f245 [1,0,1,0] (.int .i64 r) ⟨[(0,.ro (List.map ShardCell.ds a0)),(1,.fn g1 c1),(7,.int .i64 ((List.length a0:Nat):Int)),(8,.int .i64 u)],[],[]⟩):=by
 induction n with
 |zero=>exact((fun _ _ _ _ _ _ _ _ h=>by rw [Af] at h; cases h))
 | succ n ih=>
  have ih0:=ih
  ·intro a0 u f1 g1 c1 s1 h1 r h
   rw [Af] at h
   refine AS rfl rfl ?_
   try simp only [go_sem,s1.k,s1.r,s1.c,s1.p,s1.o,s1.f]
   refine AY ?_
   try simp only [go_sem,s1.k,s1.r,s1.c,s1.p,s1.o,s1.f]
   refine AD h (fun h=>?_) (fun h=>?_)
   ·try simp only [go_sem,s1.k,s1.r,s1.c,s1.p,s1.o,s1.f]
    refine Cg ?_
    try simp only [go_sem,s1.k,s1.r,s1.c,s1.p,s1.o,s1.f]
    replace h:=AB h; obtain⟨w,y,h⟩:=h
    refine AL y (ShardCell.ds_len _) ?_
    try simp only [go_sem,s1.k,s1.r,s1.c,s1.p,s1.o,s1.f]
    replace h:=AB h; obtain⟨g,j,h⟩:=h
    refine AH (h1 _ _ j) ?_
    try simp only [go_sem,s1.k,s1.r,s1.c,s1.p,s1.o,s1.f]
    refine Cg ?_
    try simp only [go_sem,s1.k,s1.r,s1.c,s1.p,s1.o,s1.f]
    refine AD h (fun h=>?_) (fun h=>?_)
    ·try simp only [go_sem,s1.k,s1.r,s1.c,s1.p,s1.o,s1.f]
     cases h
     simp only [go_sem,s1.k,s1.r,s1.c,s1.p,s1.o,s1.f]
    ·try simp only [go_sem,s1.k,s1.r,s1.c,s1.p,s1.o,s1.f]
     refine Cg ?_
     try simp only [go_sem,s1.k,s1.r,s1.c,s1.p,s1.o,s1.f]
     refine P0 (B9 rfl rfl (ih0 a0 (IntKind.i64.wrap (u+1)) f1 g1 c1 s1 h1 _ h):) (.one ⟨_,.done _,[],[],?_⟩)
     try simp only [go_sem,s1.k,s1.r,s1.c,s1.p,s1.o,s1.f]
   ·try simp only [go_sem,s1.k,s1.r,s1.c,s1.p,s1.o,s1.f]
    refine Cg ?_
    try simp only [go_sem,s1.k,s1.r,s1.c,s1.p,s1.o,s1.f]
    cases h
    simp only [go_sem,s1.k,s1.r,s1.c,s1.p,s1.o,s1.f]
theorem GY (a0:List ShardCell) (f1:(ShardCell→Option Bool)) (g1:FuncId) (c1:List AV) (s1:Still c1) (h1:∀ (y0:ShardCell) (q:Bool),f1 y0=some q→AC Tryz.prog g1 (fnA c1 [.agg (ShardCell.avs y0)]) (.bool q)) (r:Int) (h:C7 a0 f1=some r):AC Tryz.prog 245 [.ro (List.map ShardCell.ds a0),.fn g1 c1] (.int .i64 r):=by
 unfold C7 at h
 refine acF Tryz.func245 mixed (h:=?_)
 try simp only [go_sem,s1.k,s1.r,s1.c,s1.p,s1.o,s1.f]
 refine Cd (B9 rfl rfl (Fx fuel a0 0 f1 g1 c1 s1 h1 _ h):) (.one ⟨_,.done _,[],[],?_⟩)
 try simp only [go_sem,s1.k,s1.r,s1.c,s1.p,s1.o,s1.f]
theorem Fy (a0:List ShardCell) (f1:(ShardCell→Option Bool)) (g1:FuncId) (c1:List AV) (s1:Still c1) (h1:∀ (y0:ShardCell) (q:Bool),f1 y0=some q→AC Tryz.prog g1 (fnA c1 [.agg (ShardCell.avs y0)]) (.bool q)) (r:Bool) (h:BU a0 f1=some r):AC Tryz.prog 198 [.ro (List.map ShardCell.ds a0),.fn g1 c1] (.bool r):=by
 unfold BU at h
 refine acF Tryz.func198 mixed (h:=?_)
 try simp only [go_sem,s1.k,s1.r,s1.c,s1.p,s1.o,s1.f]
 replace h:=AB h; obtain⟨u,w,h⟩:=h
 refine AH (GY _ _ g1 c1 s1 h1 _ w) ?_
 try simp only [go_sem,s1.k,s1.r,s1.c,s1.p,s1.o,s1.f]
 refine Cg ?_
 try simp only [go_sem,s1.k,s1.r,s1.c,s1.p,s1.o,s1.f]
 cases h
 simp only [go_sem,s1.k,s1.r,s1.c,s1.p,s1.o,s1.f]
theorem Kd (n:Nat):(∀a0 a1 u r,Dg n a0 a1 u=some r→Ax Tryz.prog Tryz.f265 [1,1,0,1,0] (.bool r) ⟨[(0,.ro (List.map AJ a0)),(1,.ro (List.map AJ a1)),(12,.int .i64 ((List.length a0:Nat):Int)),(13,.int .i64 u)],[],[]⟩):=by
 induction n with
 |zero=>exact((fun _ _ _ _ h=>by rw [Dg] at h; cases h))
 | succ n ih=>
  have ih0:=ih
  ·intro a0 a1 u r h
   rw [Dg] at h
   refine AS rfl rfl (Z ?_)
   refine AY (Z ?_)
   refine AD h (fun h=>Z ?_) (fun h=>Z ?_)
   ·refine AF ?_
    refine Aa [] .fin (by kernel_rfl) (Z ?_)
    replace h:=AB h; obtain⟨w,y,h⟩:=h
    refine AL y rfl (Z ?_)
    replace h:=AB h; obtain⟨q,g,h⟩:=h
    refine AL g rfl (Z ?_)
    refine AF ?_
    refine AD h (fun h=>Z ?_) (fun h=>Z ?_)
    ·cases h
     simp only [go_sem]
    ·refine AF ?_
     exact lpF (ih0 a0 a1 (IntKind.i64.wrap (u+1)) _ h) [] []
   ·refine AF ?_
    cases h
    simp only [go_sem]
theorem ND (a0 a1 r) (h:Ht a0 a1=some r):AC Tryz.prog 265 [.ro (List.map AJ a0),.ro (List.map AJ a1)] (.bool r):=by
 unfold Ht at h
 refine acF Tryz.func265 mixed (h:=Z ?_)
 refine AD h (fun h=>Z ?_) (fun h=>Z ?_)
 ·cases h
  simp only [go_sem]
 ·refine AF ?_
  exact loF (Kd fuel a0 a1 0 _ h) [] []
theorem HK (n:Nat):(∀a0 a1 u r,Bj n a0 a1 u=some r→Ax Tryz.prog Tryz.f266 [1,1,0,1,0] (.bool r) ⟨[(0,.ro (List.map Address.ds a0)),(1,.ro (List.map Address.ds a1)),(12,.int .i64 ((List.length a0:Nat):Int)),(13,.int .i64 u)],[],[]⟩):=by
 induction n with
 |zero=>exact((fun _ _ _ _ h=>by rw [Bj] at h; cases h))
 | succ n ih=>
  have ih0:=ih
  ·intro a0 a1 u r h
   rw [Bj] at h
   refine AS rfl rfl (Z ?_)
   refine AY (Z ?_)
   refine AD h (fun h=>Z ?_) (fun h=>Z ?_)
   ·refine AF ?_
    refine Aa [] .fin (by kernel_rfl) (Z ?_)
    replace h:=AB h; obtain⟨w,y,h⟩:=h
    refine AL y (Address.ds_len _) (Z ?_)
    replace h:=AB h; obtain⟨q,g,h⟩:=h
    refine AL g (Address.ds_len _) (Z ?_)
    refine AF ?_
    refine AD h (fun h=>Z ?_) (fun h=>Z ?_)
    ·cases h
     simp only [go_sem]
    ·refine AF ?_
     exact lpF (ih0 a0 a1 (IntKind.i64.wrap (u+1)) _ h) [] []
   ·refine AF ?_
    cases h
    simp only [go_sem]
theorem Ia (a0 a1 r) (h:El a0 a1=some r):AC Tryz.prog 266 [.ro (List.map Address.ds a0),.ro (List.map Address.ds a1)] (.bool r):=by
 unfold El at h
 refine acF Tryz.func266 mixed (h:=Z ?_)
 refine AD h (fun h=>Z ?_) (fun h=>Z ?_)
 ·cases h
  simp only [go_sem]
 ·refine AF ?_
  exact loF (HK fuel a0 a1 0 _ h) [] []
theorem MG (a0 a1 r) (h:G1 a0 a1=some r):AC Tryz.prog 231 [.agg (ShardCell.avs a0),.agg (ShardCell.avs a1)] (.bool r):=by
 unfold G1 at h
 refine acF Tryz.func231 mixed (h:=Z ?_)
 refine AD h (fun h=>Z ?_) (fun h=>Z ?_)
 ·refine AD h (fun h=>Z ?_) (fun h=>Z ?_)
  ·refine AD h (fun h=>Z ?_) (fun h=>Z ?_)
   ·replace h:=AB h; obtain⟨u,w,h⟩:=h
    refine AH (ND _ _ _ w) (Z ?_)
    refine AD h (fun h=>Z ?_) (fun h=>Z ?_)
    ·replace h:=AB h; obtain⟨y,q,h⟩:=h
     refine AH (Ia _ _ _ q) (Z ?_)
     refine AF ?_
     cases h
     simp only [go_sem]
    ·refine AF ?_
     cases h
     simp only [go_sem]
   ·refine AF ?_
    cases h
    simp only [go_sem]
  ·refine AF ?_
   cases h
   simp only [go_sem]
 ·refine AF ?_
  cases h
  simp only [go_sem]
theorem Ot (a0 r) (h:HF a0=some r):AC Tryz.prog 246 [.agg (ShardCell.avs a0)] (.agg (Agent.rv r)):=by
 unfold HF at h
 refine acF Tryz.func246 mixed (h:=Z ?_)
 refine AF ?_
 refine Aa [false,false,false,false,false,false,false,false,false,false,false,false,false,false,false,true] (Tr.sq [15] .fin) (by kernel_rfl) (Z ?_)
 replace h:=AB h; obtain⟨u,w,h⟩:=h
 refine AH (CH _ _ w) (Z ?_)
 replace h:=AB h; obtain⟨y,q,h⟩:=h
 have hq_:=CS q
 obtain⟨hv2013a,hv2013b,hv2013c⟩:=hq_
 refine Ad (by refine⟨?_,?_,?_⟩ <;> omega) (Z ?_)
 refine BN .no (Z ?_)
 refine AT (List.map Port.ds y) (by rw [← hv2013c]; simp only [List.map_replicate,go_sem,Port.ds_eq]) (Z ?_)
 refine AF ?_
 cases h
 simp only [go_sem]
theorem LI (a0 r) (h:E6 a0=some r):AC Tryz.prog 200 [.agg (ShardCell.avs a0)] (.bool r):=by
 unfold E6 at h
 refine acF Tryz.func200 mixed (h:=Z ?_)
 refine AD h (fun h=>Z ?_) (fun h=>Z ?_)
 ·replace h:=AB h; obtain⟨u,w,h⟩:=h
  refine AH (MG _ _ _ w) (Z ?_)
  refine AF ?_
  cases h
  simp only [go_sem]
 ·refine AF ?_
  refine AD h (fun h=>Z ?_) (fun h=>Z ?_)
  ·replace h:=AB h; obtain⟨y,q,h⟩:=h
   refine AH (Ot _ _ q) (Z ?_)
   replace h:=AB h; obtain⟨g,j,h⟩:=h
   refine AH (Jq _ _ j) (Z ?_)
   refine AF ?_
   cases h
   simp only [go_sem]
  ·refine AF ?_
   cases h
   simp only [go_sem]
theorem NE (a0 r) (h:Ew a0=some r):AC Tryz.prog 199 [.agg (ShardCell.avs a0)] (.bool r):=by
 unfold Ew at h
 refine acF Tryz.func199 mixed (h:=Z ?_)
 replace h:=AB h; obtain⟨u,w,h⟩:=h
 refine AH (LI _ _ w) (Z ?_)
 refine AF ?_
 cases h
 simp only [go_sem]
theorem GG (n:Nat):(∀ (a0:List ShardVar) (u:Int) (f1:(ShardVar→Option Bool)) (g1:FuncId) (c1:List AV) (s1:Still c1) (h1:∀ (y0:ShardVar) (q:Bool),f1 y0=some q→AC Tryz.prog g1 (fnA c1 [.agg (ShardVar.avs y0)]) (.bool q)) (r:Int),Ai n a0 u f1=some r→Ax Tryz.prog Tryz.f247 [1,0,1,0] (.int .i64 r) ⟨[(0,.ro (List.map ShardVar.ds a0)),(1,.fn g1 c1),(7,.int .i64 ((List.length a0:Nat):Int)),(8,.int .i64 u)],[],[]⟩):=by
 induction n with
 |zero=>exact((fun _ _ _ _ _ _ _ _ h=>by rw [Ai] at h; cases h))
 | succ n ih=>
  have ih0:=ih
  ·intro a0 u f1 g1 c1 s1 h1 r h
   rw [Ai] at h
   refine AS rfl rfl ?_
   try simp only [go_sem,s1.k,s1.r,s1.c,s1.p,s1.o,s1.f]
   refine AY ?_
   try simp only [go_sem,s1.k,s1.r,s1.c,s1.p,s1.o,s1.f]
   refine AD h (fun h=>?_) (fun h=>?_)
   ·try simp only [go_sem,s1.k,s1.r,s1.c,s1.p,s1.o,s1.f]
    refine Cg ?_
    try simp only [go_sem,s1.k,s1.r,s1.c,s1.p,s1.o,s1.f]
    replace h:=AB h; obtain⟨w,y,h⟩:=h
    refine AL y (ShardVar.ds_len _) ?_
    try simp only [go_sem,s1.k,s1.r,s1.c,s1.p,s1.o,s1.f]
    replace h:=AB h; obtain⟨g,j,h⟩:=h
    refine AH (h1 _ _ j) ?_
    try simp only [go_sem,s1.k,s1.r,s1.c,s1.p,s1.o,s1.f]
    refine Cg ?_
    try simp only [go_sem,s1.k,s1.r,s1.c,s1.p,s1.o,s1.f]
    refine AD h (fun h=>?_) (fun h=>?_)
    ·try simp only [go_sem,s1.k,s1.r,s1.c,s1.p,s1.o,s1.f]
     cases h
     simp only [go_sem,s1.k,s1.r,s1.c,s1.p,s1.o,s1.f]
    ·try simp only [go_sem,s1.k,s1.r,s1.c,s1.p,s1.o,s1.f]
     refine Cg ?_
     try simp only [go_sem,s1.k,s1.r,s1.c,s1.p,s1.o,s1.f]
     refine P0 (B9 rfl rfl (ih0 a0 (IntKind.i64.wrap (u+1)) f1 g1 c1 s1 h1 _ h):) (.one ⟨_,.done _,[],[],?_⟩)
     try simp only [go_sem,s1.k,s1.r,s1.c,s1.p,s1.o,s1.f]
   ·try simp only [go_sem,s1.k,s1.r,s1.c,s1.p,s1.o,s1.f]
    refine Cg ?_
    try simp only [go_sem,s1.k,s1.r,s1.c,s1.p,s1.o,s1.f]
    cases h
    simp only [go_sem,s1.k,s1.r,s1.c,s1.p,s1.o,s1.f]
theorem Gx (a0:List ShardVar) (f1:(ShardVar→Option Bool)) (g1:FuncId) (c1:List AV) (s1:Still c1) (h1:∀ (y0:ShardVar) (q:Bool),f1 y0=some q→AC Tryz.prog g1 (fnA c1 [.agg (ShardVar.avs y0)]) (.bool q)) (r:Int) (h:DL a0 f1=some r):AC Tryz.prog 247 [.ro (List.map ShardVar.ds a0),.fn g1 c1] (.int .i64 r):=by
 unfold DL at h
 refine acF Tryz.func247 mixed (h:=?_)
 try simp only [go_sem,s1.k,s1.r,s1.c,s1.p,s1.o,s1.f]
 refine Cd (B9 rfl rfl (GG fuel a0 0 f1 g1 c1 s1 h1 _ h):) (.one ⟨_,.done _,[],[],?_⟩)
 try simp only [go_sem,s1.k,s1.r,s1.c,s1.p,s1.o,s1.f]
theorem GH (a0:List ShardVar) (f1:(ShardVar→Option Bool)) (g1:FuncId) (c1:List AV) (s1:Still c1) (h1:∀ (y0:ShardVar) (q:Bool),f1 y0=some q→AC Tryz.prog g1 (fnA c1 [.agg (ShardVar.avs y0)]) (.bool q)) (r:Bool) (h:Bb a0 f1=some r):AC Tryz.prog 201 [.ro (List.map ShardVar.ds a0),.fn g1 c1] (.bool r):=by
 unfold Bb at h
 refine acF Tryz.func201 mixed (h:=?_)
 try simp only [go_sem,s1.k,s1.r,s1.c,s1.p,s1.o,s1.f]
 replace h:=AB h; obtain⟨u,w,h⟩:=h
 refine AH (Gx _ _ g1 c1 s1 h1 _ w) ?_
 try simp only [go_sem,s1.k,s1.r,s1.c,s1.p,s1.o,s1.f]
 refine Cg ?_
 try simp only [go_sem,s1.k,s1.r,s1.c,s1.p,s1.o,s1.f]
 cases h
 simp only [go_sem,s1.k,s1.r,s1.c,s1.p,s1.o,s1.f]
theorem MH (a0 r) (h:G2 a0=some r):AC Tryz.prog 203 [.agg (ShardVar.avs a0)] (.bool r):=by
 unfold G2 at h
 refine acF Tryz.func203 mixed (h:=Z ?_)
 refine AD h (fun h=>Z ?_) (fun h=>Z ?_)
 ·refine AF ?_
  cases h
  simp only [go_sem]
 ·refine AD h (fun h=>Z ?_) (fun h=>Z ?_)
  ·refine AF ?_
   cases h
   simp only [go_sem]
  ·refine AF ?_
   cases h
   simp only [go_sem]
theorem NF (a0 r) (h:Hu a0=some r):AC Tryz.prog 202 [.agg (ShardVar.avs a0)] (.bool r):=by
 unfold Hu at h
 refine acF Tryz.func202 mixed (h:=Z ?_)
 replace h:=AB h; obtain⟨u,w,h⟩:=h
 refine AH (MH _ _ w) (Z ?_)
 refine AD h (fun h=>Z ?_) (fun h=>Z ?_)
 ·refine AF ?_
  cases h
  simp only [go_sem]
 ·refine AD h (fun h=>Z ?_) (fun h=>Z ?_)
  ·refine AF ?_
   cases h
   simp only [go_sem]
  ·refine AF ?_
   cases h
   simp only [go_sem]
theorem Fh (a0:Shard) (u:Bool) (r:Bool) (h:CM a0 u=some r):Ax Tryz.prog Tryz.f144 [1,0,1] (.bool r) ⟨[(1,.box 1000000500 0),(18,.bool u)],[],[(1000000500,some [.ro (List.map ShardCell.ds a0.cells),.ro (List.map ShardVar.ds a0.vars),.ro (List.map ShardRedex.ds a0.redexes)])]⟩:=by
 unfold CM at h
 refine AS rfl rfl (Z ?_)
 refine AD h (fun h=>Z ?_) (fun h=>Z ?_)
 ·cases h
  simp only [go_sem]
 ·refine AF ?_
  replace h:=AB h; obtain⟨w,y,h⟩:=h
  refine AH (Fy _ _ 199 [] (Still.of rfl) (fun y0 q hq=>NE y0  q hq) _ y) (Z ?_)
  refine AD h (fun h=>Z ?_) (fun h=>Z ?_)
  ·replace h:=AB h; obtain⟨g,j,h⟩:=h
   refine AH (GH _ _ 202 [] (Still.of rfl) (fun y0 q hq=>NF y0  q hq) _ j) (Z ?_)
   refine AF ?_
   cases h
   simp only [go_sem]
  ·refine AF ?_
   cases h
   simp only [go_sem]
theorem Ou (a0 r) (h:HG a0=some r):AC Tryz.prog 144 [.agg (Shard.avs a0)] (.bool r):=by
 unfold HG at h
 refine acF Tryz.func144 mixed (h:=Z ?_)
 refine AD h (fun h=>Z ?_) (fun h=>Z ?_)
 ·exact BS (Fh a0 true _ h) [] [(1000000500,1000)]
 ·refine AD h (fun h=>Z ?_) (fun h=>Z ?_)
  ·exact BS (Fh a0 true _ h) [] [(1000000500,1000)]
  ·exact BS (Fh a0 (decide (400<((List.length a0.redexes:Nat):Int))) _ h) [] [(1000000500,1000)]
theorem Ov (a0 r) (h:E8 a0=some r):AC Tryz.prog 143 [.agg (Shard.avs a0)] (.bool r):=by
 unfold E8 at h
 refine acF Tryz.func143 mixed (h:=Z ?_)
 replace h:=AB h; obtain⟨u,w,h⟩:=h
 refine AH (Ou _ _ w) (Z ?_)
 refine AF ?_
 cases h
 simp only [go_sem]
theorem N2 (n:Nat):(∀a0 a1 u w y g j k b d r,BD n a0 a1 u w y g j k b d=some r→E4 Tryz.prog Tryz.f76 [1,1,1,1,1,0,1,0] (.tup [.agg [.own 1501,.int .i64 r.1.root.machine,.int .i64 r.1.root.kind,.int .i64 r.1.root.index],.int .i64 r.2]) [(1501,⟨List.map Shard.ds r.1.shards,some 3,0,.no⟩)] [] ⟨[(3,.rop [.ro (List.map Agent.ds a0.agents)] 0),(6,.box 1000003500 0),(8,.box 1000003501 0),(94,.own 1000003001),(95,.int .i64 ((List.length w:Nat):Int)),(96,.int .i64 d)],[(1000003000,some ⟨List.map Shard.dn g,some 3,0,.nl⟩),(1000003001,some ⟨List.map Port.ds w,some 2,0,.no⟩)],[(1000003500,some [.nils,.int .i64 0,.int .i64 0,.int .i64 0]),(1000003501,some [.rop [.ro (List.map Agent.ds y)] 0,.ro (List.map AJ a1),.own 1000003000,.int .i64 j,.int .i64 k,.int .i64 b,.ro (List.map Address.ds u)])]⟩):=by
 induction n with
 |zero=>exact((fun _ _ _ _ _ _ _ _ _ _ _ h=>by rw [BD] at h; cases h))
 | succ n ih=>
  have ih0:=ih
  ·intro a0 a1 u w y g j k b d r h
   rw [BD] at h
   refine Bo rfl rfl (Z ?_)
   refine AY (Z ?_)
   refine AD h (fun h=>Z ?_) (fun h=>Z ?_)
   ·refine AF ?_
    replace h:=AB h; obtain⟨c,e,h⟩:=h
    refine AL e (Port.ds_len _) (Z ?_)
    refine AW (AM e) (Z ?_)
    refine AF ?_
    replace h:=AB h; obtain⟨i,l,h⟩:=h
    refine AH (Ib _ _ _ l) (Z ?_)
    refine AF ?_
    replace h:=AB h; obtain⟨t,s,h⟩:=h
    refine AH (N1 _ _ _ s) (Z ?_)
    refine AF ?_
    refine AD h (fun h=>Z ?_) (fun h=>Z ?_)
    ·replace h:=AB h; obtain⟨o,z,h⟩:=h
     refine caG ⟨[],[(1001,1000003000)],[(1,1000003501,0)],[(1501,320048)],[],true⟩ (MF _ _ _ _ z) (Z ?_)
     refine AF ?_
     exact lpG (ih0 a0 a1 u w o.n.agents o.grid.shards o.grid.root.machine o.grid.root.kind o.grid.root.index (IntKind.i64.wrap (d+1)) _ h) [(1000003000,320048),(1000003001,1000003001)] [(1000003500,1000003500),(1000003501,1000003501)]
    ·refine AF ?_
     exact lpG (ih0 a0 a1 u w y g j k b (IntKind.i64.wrap (d+1)) _ h) [(1000003000,1000003000),(1000003001,1000003001)] [(1000003500,1000003500),(1000003501,1000003501)]
   ·refine AF ?_
    replace h:=AB h; obtain⟨u1,u2,h⟩:=h
    refine AH (Gw _ _ 143 [] (Still.of rfl) (fun y0 q hq=>Ov y0  q hq) _ u2) (Z ?_)
    refine AF ?_
    refine AD h (fun h=>Z ?_) (fun h=>Z ?_)
    ·cases h
     refine Cc (.deep 0 2000000000 (some 3) .no [0,0] (by (first|rfl|(simp only [go_sem]; rfl))) (by simp only [go_sem]) (.done _)) [(1501,2000000000)] [] ?_
     simp only [go_sem]
     all_goals try rfl
    ·refine AF ?_
     cases h
     refine Cc (.down 1000003000 _ (List.map Shard.ds g) (by (first|rfl|(simp only [go_sem]; rfl))) (by decide) rfl (by simp only [go_sem]) (.done _)) [(1501,1000003000)] [] ?_
     simp only [go_sem]
theorem N3 (n:Nat):(∀a0 a1 u w y q r,DD n a0 a1 u w y q=some r→E4 Tryz.prog Tryz.f76 [1,1,1,1,0,1,0] (.tup [.agg [.own 1501,.int .i64 r.1.root.machine,.int .i64 r.1.root.kind,.int .i64 r.1.root.index],.int .i64 r.2]) [(1501,⟨List.map Shard.ds r.1.shards,some 3,0,.no⟩)] [] ⟨[(1,.ro (List.map AJ a1)),(3,.rop [.ro (List.map Agent.ds a0.agents)] 0),(6,.box 1000001500 0),(8,.box 1000001501 0),(34,.ro (List.map Agent.ds u)),(35,.int .i64 ((List.length u:Nat):Int)),(36,.int .i64 q)],[(1000001000,some ⟨List.map Shard.dn w,some 3,0,.nl⟩),(1000001001,some ⟨List.map Address.ds y,some 3,0,.no⟩)],[(1000001500,some [.nils,.int .i64 0,.int .i64 0,.int .i64 0]),(1000001501,some [.rop [.ro (List.map Agent.ds a0.agents)] 0,.ro (List.map AJ a1),.own 1000001000,.int .i64 0,.int .i64 0,.int .i64 0,.own 1000001001])]⟩):=by
 induction n with
 |zero=>exact((fun _ _ _ _ _ _ _ h=>by rw [DD] at h; cases h))
 | succ n ih=>
  have ih0:=ih
  ·intro a0 a1 u w y q r h
   rw [DD] at h
   refine Bo rfl rfl (Z ?_)
   refine AY (Z ?_)
   refine AD h (fun h=>Z ?_) (fun h=>Z ?_)
   ·refine AF ?_
    replace h:=AB h; obtain⟨g,k,h⟩:=h
    refine AL k (Agent.ds_len _) (Z ?_)
    refine AF ?_
    replace h:=AB h; obtain⟨b,d,h⟩:=h
    refine AL d rfl (Z ?_)
    replace h:=AB h; obtain⟨c,e,h⟩:=h
    refine AL e (Shard.dn_len _) (Z ?_)
    refine Aa [false,false,false,false,false,false,false,false,false,false,false,false,false,true,true,true,true] (Tr.sq [13,14,15,16] .fin) (by kernel_rfl) (Z ?_)
    refine AW (AM e) (Z ?_)
    refine AW (G0 (sz:=3) (j:=0) (r:=List.map ShardCell.ds c.cells) (AM (f:=Shard.dn) e) (Shard.dn_len _) (by rfl) DH) (Z ?_)
    replace h:=AB h; obtain⟨i,t,h⟩:=h
    refine AH (N0 _ _ _ t) (Z ?_)
    replace h:=AB h; obtain⟨s,o,h⟩:=h
    have hq_:=Au o
    obtain⟨hv12013a,hv12013b⟩:=hq_
    refine BN .no (Z ?_)
    refine Ad (by refine⟨?_,?_⟩ <;> (try simp only [List.length_map,List.length_append,List.length_cons,List.length_nil] at*) <;> (try unfold maxLen) <;> omega) (Z ?_)
    refine AT (List.map Address.ds s) (by rw [← hv12013b]; simp only [List.map_append,List.map_cons,List.map_nil,List.nil_append,List.append_nil,go_sem,Address.ds_eq]) (Z ?_)
    refine AF ?_
    refine Aa [false,false,false,false,false,false,false,false,false,false,false,false,false,false,false,false,false,false,false,false,false,true,true,true,true] (Tr.sq [21,22,23,24] .fin) (by kernel_rfl) (Z ?_)
    refine AW (AM e) (Z ?_)
    replace h:=AB h; obtain⟨z,u1,h⟩:=h
    refine AH (CH _ _ u1) (Z ?_)
    replace h:=AB h; obtain⟨u2,u3,h⟩:=h
    have hq_:=CS u3
    obtain⟨hv13018a,hv13018b,hv13018c⟩:=hq_
    refine Ad (by refine⟨?_,?_,?_⟩ <;> omega) (Z ?_)
    refine BN .no (Z ?_)
    refine AT (List.map Address.ds u2) (by rw [← hv13018c]; simp only [List.map_replicate,go_sem,Address.ds_eq]) (Z ?_)
    refine Rd (.takeS 73 1000001000 5000013021 0 [] [(3,Int.toNat b,0)] ⟨List.map Shard.dn w,some 3,0,.nl⟩ (slN ShardCell.ds c.cells) 5 (List.map ShardCell.ds c.cells) (by (first|rfl|(simp only [go_sem]; rfl))) (by (first|rfl|(simp only [go_sem]; rfl))) rfl (Et (AM (f:=Shard.dn) e) (Shard.dn_len _) (by rfl)) (K4 (by intro x; exact(ShardCell.ds_len _))) (by simp) (by decide) (by simp only [go_sem]) (.done _)) (Z ?_)
    replace h:=AB h; obtain⟨u4,u5,h⟩:=h
    have hq_:=Au u5
    obtain⟨hv13021a,hv13021b⟩:=hq_
    have hv13021n:=Nk hv13021b
    refine BN .no (Z ?_)
    refine Ad (by refine⟨?_,?_⟩ <;> (try simp only [List.length_map,List.length_append,List.length_cons,List.length_nil] at*) <;> (try unfold maxLen) <;> omega) (Z ?_)
    refine AT (List.map ShardCell.ds u4) (by rw [← hv13021b]; simp only [List.map_append,List.map_cons,List.map_nil,List.nil_append,List.append_nil,go_sem,ShardCell.ds_eq]) (Z ?_)
    replace h:=AB h; obtain⟨u6,u7,h⟩:=h
    refine AW (K3 (sz:=3) (AM (f:=Shard.dn) e) (d':=(slN ShardCell.ds c.cells)) (by rfl)) (Z ?_)
    refine AT (List.map Shard.dn u6) ((congrArg (fun l=>List.set l _ _) (B8 (AM (f:=Shard.dn) e) (d':=(slN ShardCell.ds c.cells)) (by rfl))).trans ((List.set_set ..).trans (by rw [← AN u7]; simp only [List.map_set,go_sem,Shard.dn_eq,IX hv13021n,List.set_cons_zero,List.set_cons_succ]))) (Z ?_)
    refine AF ?_
    exact lpG (ih0 a0 a1 u u6 s (IntKind.i64.wrap (q+1)) _ h) [(1000001000,1000001000),(1000001001,192208)] [(1000001500,1000001500),(1000001501,1000001501)]
   ·refine AF ?_
    replace h:=AB h; obtain⟨u8,u9,h⟩:=h
    refine AH (Ke _ _ u9) (Z ?_)
    refine AF ?_
    refine Cd (JQ rfl rfl (N2 fuel a0 a1 y u8 a0.agents w 0 0 0 0 _ h):) (.one ⟨_,.frzT 1000001001 [] [(1000001501,6)] _ _ _ (by (first|rfl|(simp only [go_sem]; rfl))) (by decide) (by (first|rfl|(simp only [go_sem]; rfl))) (by (first|rfl|(simp only [go_sem]; rfl))) (.done _),[(1000003000,1000001000),(1000003001,240000)],[(1000003500,1000001500),(1000003501,1000001501)],?_⟩)
    simp only [go_sem]
    all_goals try rfl
theorem Qj (a0 a1 a2 r) (h:Hp a0 a1 a2=some r):AG Tryz.prog 76 [.agg [.ro (List.map Agent.ds a0.agents)],.ro (List.map AJ a1),.int .i64 a2] [] [] (.tup [.agg [.own 1501,.int .i64 r.1.root.machine,.int .i64 r.1.root.kind,.int .i64 r.1.root.index],.int .i64 r.2]) [(1501,⟨List.map Shard.ds r.1.shards,some 3,0,.no⟩)] [] :=by
 unfold Hp at h
 refine agF Tryz.func76 mixed (h:=Z ?_)
 refine AF ?_
 replace h:=AB h; obtain⟨u,w,h⟩:=h
 refine AH (Qq _ _ w) (Z ?_)
 refine AF ?_
 refine AD h (fun h=>Z ?_) (fun h=>Z ?_)
 ·cases h
  refine Cc (.deep 0 2000000000 (some 3) .no [0,0] (by (first|rfl|(simp only [go_sem]; rfl))) (by simp only [go_sem]) (.done _)) [(1501,2000000000)] [] ?_
  simp only [go_sem]
  all_goals try rfl
 ·refine AF ?_
  replace h:=AB h; obtain⟨y,q,h⟩:=h
  refine AH (Qp _ _ _ _ q) (Z ?_)
  refine AF ?_
  refine AD h (fun h=>Z ?_) (fun h=>Z ?_)
  ·cases h
   refine Cc (.deep 0 2000000000 (some 3) .no [0,0] (by (first|rfl|(simp only [go_sem]; rfl))) (by simp only [go_sem]) (.done _)) [(1501,2000000000)] [] ?_
   simp only [go_sem]
   all_goals try rfl
  ·refine cO (.frzB 1000 [(3,[])] [] _ _ _ (by (first|rfl|(simp only [go_sem]; rfl))) (by decide) (by rfl) (by (first|rfl|(simp only [go_sem]; rfl))) (by (first|rfl|(simp only [go_sem]; rfl))) (.done _)) (Z ?_)
   all_goals try rfl
   refine Aa [] .fin (by kernel_rfl) (Z ?_)
   replace h:=AB h; obtain⟨g,j,h⟩:=h
   have hq_:=CS j
   obtain⟨hv6002a,hv6002b,hv6002c⟩:=hq_
   refine Ad (by refine⟨?_,?_,?_⟩ <;> omega) (Z ?_)
   refine BN .nl (Z ?_)
   refine AT (List.map Shard.dn g) (by rw [← hv6002c]; simp only [List.map_replicate,go_sem,Shard.dn_eq]) (Z ?_)
   replace h:=AB h; obtain⟨k,b,h⟩:=h
   have hq_:=CS b
   obtain⟨hv6004a,hv6004b,hv6004c⟩:=hq_
   refine Ad (by refine⟨?_,?_,?_⟩ <;> omega) (Z ?_)
   refine BN .no (Z ?_)
   refine AT (List.map Address.ds k) (by rw [← hv6004c]; simp only [List.map_replicate,go_sem,Address.ds_eq]) (Z ?_)
   refine AF ?_
   replace h:=AB h; obtain⟨d,c,h⟩:=h
   refine Ad (Tu (by intro x; exact(Agent.ds_len _)) _) (Z ?_)
   refine AW (ax c) (Z ?_)
   exact loG (N3 fuel a0 a1 d g k 0 _ h) [(1000001000,96032),(1000001001,96064)] [(1000001500,1001),(1000001501,6006)]
end Go.Proofs.YtclmbjbbojdojaaGreat.Ab
