/-
 The functions do what their models say. Printed by wip/ab/gen.py.
-/
import Derived.Test.YtclmbjbbojdojaaGreatModF
import Derived.Test.YtclmbjbbojdojaaGreatTi2
import Derived.Test.YtclmbjbbojdojaaGreatWlkV
import Derived.Test.YtclmbjbbojdojaaGreatWlkO
namespace Go.Proofs.YtclmbjbbojdojaaGreat.Ab
set_option linter.unusedVariables false
set_option linter.unusedSimpArgs false
set_option maxRecDepth 20000
set_option maxHeartbeats 4000000
open Go.RowKit
@[go_sem] def tkF6 (b:Nat) (x0:List Shard) (x1:List (List Parcel)) (x2:List (List Int)) (x3:List Int) (x4:List Int) (x5:List Bool):List (Nat×Tok):=[(b,⟨List.map Shard.ds x0,some 3,0,.no⟩),(b+1,⟨List.map (slD Parcel.ds) x1,some 1,0,.no⟩),(b+2,⟨List.map (slD AB) x2,some 1,0,.no⟩),(b+3,⟨List.map AB x3,some 1,0,.no⟩),(b+4,⟨List.map AB x4,some 1,0,.no⟩),(b+5,⟨List.map BA x5,some 1,0,.no⟩)]
@[go_sem] def tkF7 (b:Nat) (x0:List Shard) (x1:List (List Parcel)) (x2:List (List Int)) (x3:List Int) (x4:List Int) (x5:List Bool):List (Nat×Option Tok):=[(b,some ⟨List.map Shard.ds x0,some 3,0,.no⟩),(b+1,some ⟨List.map (slD Parcel.ds) x1,some 1,0,.no⟩),(b+2,some ⟨List.map (slD AB) x2,some 1,0,.no⟩),(b+3,some ⟨List.map AB x3,some 1,0,.no⟩),(b+4,some ⟨List.map AB x4,some 1,0,.no⟩),(b+5,some ⟨List.map BA x5,some 1,0,.no⟩)]
theorem S5 (a0 a1 r) (h:H7 a0 a1=some r):AC Tryz.prog 22 [.agg (Detector.avs a0),.int .i64 a1] (.int .i64 r):=by
 unfold H7 at h
 refine acF Tryz.func22 mixed (h:=Z ?_)
 exact AF (k2 U5 Xm) h
theorem Qq (a0 a1 r) (h:Hp a0 a1=some r):AC Tryz.prog 125 [.rop (Cluster.avs a0) 0,.int .i64 a1] (.int .i64 r):=by
 unfold Hp at h
 refine acF Tryz.func125 mixed (h:=Z ?_)
 exact AF trivial h
theorem PR (n:Nat):(∀a0 u w r,C5 n a0 u w=some r→Aa Tryz.prog Tryz.f182 [1,1,0,1,0] (.int .i64 r) ⟨[(0,.rop (Cluster.avs a0) 0),(3,.int .i64 u),(4,.int .i64 w)],[],[]⟩):=by
 induction n with
 |zero=>exact((fun _ _ _ _ h=>by rw [C5] at h; cases h))
 | succ n ih=>
  have ih0:=ih
  ·intro a0 u w r h
   rw [C5] at h
   exact AF (k2 MY ih0) h
theorem S6 (a0 r) (h:Jf a0=some r):AC Tryz.prog 182 [.rop (Cluster.avs a0) 0] (.int .i64 r):=by
 unfold Jf at h
 refine acF Tryz.func182 mixed (h:=Z ?_)
 exact AF (k1 PR) h
theorem Qr (n:Nat):(∀a0 u w r,Bj n a0 u w=some r→Aa Tryz.prog Tryz.f124 [1,1,1,0,1,0] (.bool r) ⟨[(0,.rop (Cluster.avs a0) 0),(3,.int .i64 u),(5,.int .i64 w)],[],[]⟩):=by
 induction n with
 |zero=>exact((fun _ _ _ _ h=>by rw [Bj] at h; cases h))
 | succ n ih=>
  have ih0:=ih
  ·intro a0 u w r h
   rw [Bj] at h
   exact AF (k3 MY ih0 S6) h
theorem Qs (n:Nat):(∀a0 u w r,Db n a0 u w=some r→Aa Tryz.prog Tryz.f124 [1,1,0,1,0] (.bool r) ⟨[(0,.rop (Cluster.avs a0) 0),(3,.int .i64 u),(4,.int .i64 w)],[],[]⟩):=by
 induction n with
 |zero=>exact((fun _ _ _ _ h=>by rw [Db] at h; cases h))
 | succ n ih=>
  have ih0:=ih
  ·intro a0 u w r h
   rw [Db] at h
   exact AF (k3 Qq ih0 Qr) h
theorem U6 (a0 r) (h:I7 a0=some r):AC Tryz.prog 124 [.rop (Cluster.avs a0) 0] (.bool r):=by
 unfold I7 at h
 refine acF Tryz.func124 mixed (h:=Z ?_)
 exact AF (k1 Qs) h
theorem Vk (a0:Detector) (u:Bool) (r:Bool) (h:KG a0 u=some r):Aa Tryz.prog Tryz.f54 [1,0,1] (.bool r) ⟨[(0,.rop (Detector.avs a0) 0),(15,.bool u)],[],[]⟩:=by
 unfold KG at h
 exact AF (k1 D5) h
theorem aw (a0 r) (h:QZ a0=some r):AC Tryz.prog 54 [.rop (Detector.avs a0) 0] (.bool r):=by
 unfold QZ at h
 refine acF Tryz.func54 mixed (h:=Z ?_)
 exact AF (k3 ax Vk U6) h
theorem ZZ (a0 r) (h:Qb a0=some r):AC Tryz.prog 56 [.rop (Detector.avs a0) 0] (.agg (Detector.rv r)):=by
 unfold Qb at h
 refine acF Tryz.func56 mixed (h:=Z ?_)
 refine AW ?_
 refine AW ?_
 replace h:=AD h; obtain⟨u,w,h⟩:=h
 refine AY (XL (Za _ _ w) (.cons (.rop rfl) .nil)) (Z ?_)
 refine AW ?_
 replace h:=AD h; obtain⟨y,q,h⟩:=h
 have hq_:=Al q
 obtain⟨hv4005a,hv4005b⟩:=hq_
 refine BW .no (Z ?_)
 refine Ad (Cu (by intro x; exact⟨rfl,by simp [go_sem,D.flat]⟩) _) (Z ?_)
 refine Ad (by refine⟨?_,?_⟩ <;> (try simp only [List.length_map,List.length_append,List.length_cons,List.length_nil] at*) <;> (try unfold maxLen) <;> omega) (Z ?_)
 refine AP (y.map BA) (by rw [← hv4005b]; simp only [List.map_append,List.map_cons,List.map_nil,List.nil_append,List.append_nil,go_sem,slD]) (Z ?_)
 exact AF trivial h
theorem Zb (a0 r) (h:NJ a0=some r):AC Tryz.prog 57 [.rop (Detector.avs a0) 0] (.bool r):=by
 unfold NJ at h
 refine acF Tryz.func57 mixed (h:=Z ?_)
 exact AF trivial h
theorem S7 (a0:Detector) (u:Int) (w:Bool) (r:Int × Detector) (h:G0 a0 u w=some r):Dl Tryz.prog Tryz.f58 [1,1,1,0,1,0,1,1] (.int .i64 r.1) (tkF6 1501 r.2.cluster.grid.shards r.2.cluster.channels r.2.cluster.counts r.2.cluster.sent r.2.cluster.got r.2.stained) [(1,[.own 1501,.int .i64 r.2.cluster.grid.root.machine,.int .i64 r.2.cluster.grid.root.kind,.int .i64 r.2.cluster.grid.root.index,.own 1502,.own 1503,.own 1504,.own 1505,.int .i64 r.2.holder,.int .i64 r.2.count,.bool r.2.dark,.own 1506,.int .i64 r.2.rounds,.bool r.2.announced])] ⟨[(0,.box 1 0),(3,.int .i64 a0.holder)],(tkF7 1000000000 a0.cluster.grid.shards a0.cluster.channels a0.cluster.counts a0.cluster.sent a0.cluster.got a0.stained),[(1,some [.own 1000000000,.int .i64 a0.cluster.grid.root.machine,.int .i64 a0.cluster.grid.root.kind,.int .i64 a0.cluster.grid.root.index,.own 1000000001,.own 1000000002,.own 1000000003,.own 1000000004,.int .i64 a0.holder,.int .i64 (IntKind.i64.wrap (a0.count+u)),.bool w,.own 1000000005,.int .i64 a0.rounds,.bool a0.announced])]⟩:=by
 unfold G0 at h
 refine BO rfl rfl (Z ?_)
 replace h:=AD h; obtain⟨y,q,h⟩:=h
 refine AO q rfl (Z ?_)
 replace h:=AD h; obtain⟨g,j,h⟩:=h
 refine Ai (AU q) (Z ?_)
 refine AP (g.map BA) (by rw [← AL j]; simp only [List.map_set,go_sem,slD]) (Z ?_)
 exact AF trivial h
theorem S8 (a0:Detector) (u:Bool) (r:Int × Detector) (h:Fw a0 u=some r):Dl Tryz.prog Tryz.f58 [1,1,1,1,0,1] (.int .i64 r.1) (tkF6 1501 r.2.cluster.grid.shards r.2.cluster.channels r.2.cluster.counts r.2.cluster.sent r.2.cluster.got r.2.stained) [(1,[.own 1501,.int .i64 r.2.cluster.grid.root.machine,.int .i64 r.2.cluster.grid.root.kind,.int .i64 r.2.cluster.grid.root.index,.own 1502,.own 1503,.own 1504,.own 1505,.int .i64 r.2.holder,.int .i64 r.2.count,.bool r.2.dark,.own 1506,.int .i64 r.2.rounds,.bool r.2.announced])] ⟨[(0,.box 1 0),(69,.bool u)],(tkF7 1000001000 a0.cluster.grid.shards a0.cluster.channels a0.cluster.counts a0.cluster.sent a0.cluster.got a0.stained),[(1,some [.own 1000001000,.int .i64 a0.cluster.grid.root.machine,.int .i64 a0.cluster.grid.root.kind,.int .i64 a0.cluster.grid.root.index,.own 1000001001,.own 1000001002,.own 1000001003,.own 1000001004,.int .i64 a0.holder,.int .i64 a0.count,.bool a0.dark,.own 1000001005,.int .i64 a0.rounds,.bool a0.announced])]⟩:=by
 unfold Fw at h
 refine BO rfl rfl (Z ?_)
 refine AJ h (fun h=>Z ?_) (fun h=>Z ?_)
 ·exact AF trivial h
 ·refine AW ?_
  replace h:=AD h; obtain⟨w,y,h⟩:=h
  refine AO y rfl (Z ?_)
  replace h:=AD h; obtain⟨q,g,h⟩:=h
  refine Ai (AU y) (Z ?_)
  refine AP (q.map BA) (by rw [← AL g]; simp only [List.map_set,go_sem,slD]) (Z ?_)
  exact AF trivial h
theorem Xn (a0 r) (h:La a0=some r):AG Tryz.prog 58 [.box 1 0] (tkF6 1001 a0.cluster.grid.shards a0.cluster.channels a0.cluster.counts a0.cluster.sent a0.cluster.got a0.stained) [(1,[.own 1001,.int .i64 a0.cluster.grid.root.machine,.int .i64 a0.cluster.grid.root.kind,.int .i64 a0.cluster.grid.root.index,.own 1002,.own 1003,.own 1004,.own 1005,.int .i64 a0.holder,.int .i64 a0.count,.bool a0.dark,.own 1006,.int .i64 a0.rounds,.bool a0.announced])] (.int .i64 r.1) (tkF6 1501 r.2.cluster.grid.shards r.2.cluster.channels r.2.cluster.counts r.2.cluster.sent r.2.cluster.got r.2.stained) [(1,[.own 1501,.int .i64 r.2.cluster.grid.root.machine,.int .i64 r.2.cluster.grid.root.kind,.int .i64 r.2.cluster.grid.root.index,.own 1502,.own 1503,.own 1504,.own 1505,.int .i64 r.2.holder,.int .i64 r.2.count,.bool r.2.dark,.own 1506,.int .i64 r.2.rounds,.bool r.2.announced])] :=by
 unfold La at h
 refine agF Tryz.func58 mixed (h:=Z ?_)
 exact AF (k3 Qq S7 S8) h
theorem Xo (a0 r) (h:FY a0=some r):AC Tryz.prog 59 [.rop (Detector.avs a0) 0] (.bool r):=by
 unfold FY at h
 refine acF Tryz.func59 mixed (h:=Z ?_)
 exact AF (k1 D5) h
theorem OK (n:Nat):(∀a1 u w y q g j k b d c e i l t s r,Cj n a1 u w y q g j k b d c e i l t s=some r→Aa Tryz.prog Tryz.f23 [1,1,1,1,1,0,0] (.tup [.agg (Detector.rv r.1),.int .i64 r.2.1,.int .i64 r.2.2]) ⟨[(1,.int .i64 a1),(4,.box 1000001500 0),(7,.box 1000001501 0),(8,.int .i64 s)],(tkF7 1000001000 u g j k b i),[(1000001500,some [.nils,.int .i64 0,.int .i64 0,.int .i64 0,.nils,.nils,.nils,.nils,.int .i64 0,.int .i64 0,.bool false,.nils,.int .i64 0,.bool false]),(1000001501,some [.own 1000001000,.int .i64 w,.int .i64 y,.int .i64 q,.own 1000001001,.own 1000001002,.own 1000001003,.own 1000001004,.int .i64 d,.int .i64 c,.bool e,.own 1000001005,.int .i64 l,.bool t])]⟩):=by
 induction n with
 |zero=>exact((fun _ _ _ _ _ _ _ _ _ _ _ _ _ _ _ _ _ h=>by rw [Cj] at h; cases h))
 | succ n ih=>
  have ih0:=ih
  ·intro a1 u w y q g j k b d c e i l t s r h
   rw [Cj] at h
   refine Ah rfl rfl (Z ?_)
   refine Ae (Z ?_)
   refine AJ h (fun h=>Z ?_) (fun h=>Z ?_)
   ·refine AW ?_
    refine AJ h (fun h=>Z ?_) (fun h=>Z ?_)
    ·exact AF trivial h
    ·refine AW ?_
     replace h:=AD h; obtain⟨o,z,h⟩:=h
     refine AY (Zb _ _ z) (Z ?_)
     refine AW ?_
     refine AJ h (fun h=>Z ?_) (fun h=>Z ?_)
     ·exact AF trivial h
     ·refine AW ?_
      replace h:=AD h; obtain⟨u1,u2,h⟩:=h
      refine caG ⟨[],(r6 1001 1000001000 []),[(1,1000001501,0)],(r6 1501 208000 []),[],true⟩ (Xn _ _ u2) (Z ?_)
      exact AF (k2 Xo ih0) h
   ·exact AF trivial h
theorem R4 (a0 a1 r) (h:HF a0 a1=some r):AC Tryz.prog 23 [.agg (Detector.avs a0),.int .i64 a1] (.tup [.agg (Detector.rv r.1),.int .i64 r.2.1,.int .i64 r.2.2]):=by
 unfold HF at h
 refine acF Tryz.func23 mixed (h:=Z ?_)
 exact AF (k4 aw D5 ZZ OK) h
theorem JW (a0 r) (h:EA a0=some r):AC Tryz.prog 24 [.agg (Detector.avs a0)] (.agg (Detector.rv r)):=by
 unfold EA at h
 refine acF Tryz.func24 mixed (h:=Z ?_)
 exact AF (k2 U7 Xp) h
theorem Zc (n:Nat):(∀a0 u w r,I9 n a0 u w=some r→Aa Tryz.prog Tryz.f183 [1,1,0,1,0] (.int .i64 r) ⟨[(3,.int .i64 u),(6,.ro (a0.map AB)),(7,.int .i64 (a0.length:Int)),(8,.int .i64 w)],[],[]⟩):=by
 induction n with
 |zero=>exact((fun _ _ _ _ h=>by rw [I9] at h; cases h))
 | succ n ih=>
  have ih0:=ih
  ·intro a0 u w r h
   rw [I9] at h
   exact AF (k1 ih0) h
theorem gm (a0 r) (h:Yy a0=some r):AC Tryz.prog 183 [.ro (a0.map AB)] (.int .i64 r):=by
 unfold Yy at h
 refine acF Tryz.func183 mixed (h:=Z ?_)
 exact AF (k1 Zc) h
theorem Kg (n:Nat):(∀a0 u w r,BF n a0 u w=some r→Aa Tryz.prog Tryz.f184 [1,1,0,1,0] (.int .i64 r) ⟨[(3,.int .i64 u),(9,.ro (List.map (slD Parcel.ds) a0.channels)),(10,.int .i64 (a0.channels.length:Int)),(11,.int .i64 w)],[],[]⟩):=by
 induction n with
 |zero=>exact((fun _ _ _ _ h=>by rw [BF] at h; cases h))
 | succ n ih=>
  have ih0:=ih
  ·intro a0 u w r h
   rw [BF] at h
   exact AF (k2 Qt ih0) h
theorem MM (a0 r) (h:FQ a0=some r):AC Tryz.prog 184 [.rop (Cluster.avs a0) 0] (.int .i64 r):=by
 unfold FQ at h
 refine acF Tryz.func184 mixed (h:=Z ?_)
 exact AF (k1 Kg) h
theorem Md (a0 r) (h:EO a0=some r):AC Tryz.prog 126 [.rop (Cluster.avs a0) 0] (.bool r):=by
 unfold EO at h
 refine acF Tryz.func126 mixed (h:=Z ?_)
 exact AF (k3 Lo gm MM) h
theorem Ky (a0 r) (h:FZ a0=some r):AC Tryz.prog 127 [.int .i64 a0] (.bool r):=by
 unfold FZ at h
 refine acF Tryz.func127 mixed (h:=Z ?_)
 exact AF trivial h
theorem Me (a0:Detector) (u:Bool) (r:Bool) (h:EP a0 u=some r):Aa Tryz.prog Tryz.f61 [1,0,1] (.bool r) ⟨[(1,.box 1000000500 0),(12,.bool u)],[],[(1000000500,some (Detector.avs a0))]⟩:=by
 unfold EP at h
 exact AF (k3 GV NZ Ky) h
theorem PS (a0 r) (h:GC a0=some r):AC Tryz.prog 61 [.agg (Detector.avs a0)] (.bool r):=by
 unfold GC at h
 refine acF Tryz.func61 mixed (h:=Z ?_)
 exact AF (k3 Qu Me Md) h
theorem R5 (a0 r) (h:Ix a0=some r):AC Tryz.prog 128 [.ro (a0.map BA)] (.ow (some 1) (r.map BA)):=by
 unfold Ix at h
 refine acF Tryz.func128 mixed (h:=Z ?_)
 refine Wf (by simp only [go_sem]) (fun h0=>?_) ?_
 ·try simp only [go_sem]
  have hq_:=List.map_eq_nil_iff.1 h0
  obtain rfl:=hq_
  obtain rfl:r=[] :=by cases h; rfl
  simp only [go_sem]
 ·try simp only [go_sem]
  refine AW ?_
  replace h:=AD h; obtain⟨u,w,h⟩:=h
  have hq_:=Al w
  obtain⟨hv4002a,hv4002b⟩:=hq_
  refine BW .no (Z ?_)
  refine Ad (Cu (by intro x; exact⟨rfl,by simp [go_sem,D.flat]⟩) _) (Z ?_)
  refine Ad (by refine⟨?_,?_⟩ <;> (try simp only [List.length_map,List.length_append,List.length_cons,List.length_nil] at*) <;> (try unfold maxLen) <;> omega) (Z ?_)
  refine AP (u.map BA) (by rw [← hv4002b]; simp only [List.map_append,List.map_cons,List.map_nil,List.nil_append,List.append_nil,go_sem,slD]) (Z ?_)
  exact AF trivial h
theorem Qv (a0 r) (h:H9 a0=some r):AC Tryz.prog 62 [.agg (Detector.avs a0)] (.agg (Detector.rv r)):=by
 unfold H9 at h
 refine acF Tryz.func62 mixed (h:=Z ?_)
 refine AW ?_
 refine CT [false,false,false,false,false,false,false,true,true,true] (Tr.sq [7,8,9] .fin) (by kernel_rfl) (Z ?_)
 exact AF (k2 R6 R5) h
theorem Mf (a0 r) (h:EQ a0=some r):AC Tryz.prog 63 [.rop (Detector.avs a0) 0] (.bool r):=by
 unfold EQ at h
 refine acF Tryz.func63 mixed (h:=Z ?_)
 exact AF trivial h
theorem Mg (a0:Detector) (u:Int) (w:Int) (y:Bool) (r:Int × Int × Detector) (h:DI a0 u w y=some r):Dl Tryz.prog Tryz.f64 [1,1,1,0,0,1,0,1,1] (.tup [.int .i64 r.1,.int .i64 r.2.1]) (tkF6 1501 r.2.2.cluster.grid.shards r.2.2.cluster.channels r.2.2.cluster.counts r.2.2.cluster.sent r.2.2.cluster.got r.2.2.stained) [(1,[.own 1501,.int .i64 r.2.2.cluster.grid.root.machine,.int .i64 r.2.2.cluster.grid.root.kind,.int .i64 r.2.2.cluster.grid.root.index,.own 1502,.own 1503,.own 1504,.own 1505,.int .i64 r.2.2.holder,.int .i64 r.2.2.count,.bool r.2.2.dark,.own 1506,.int .i64 r.2.2.rounds,.bool r.2.2.announced])] ⟨[(0,.box 1 0),(4,.int .i64 a0.holder),(5,.int .i64 (IntKind.i64.wrap ((IntKind.i64.wrap (a0.count+u)) - w)))],(tkF7 1000000000 a0.cluster.grid.shards a0.cluster.channels a0.cluster.counts a0.cluster.sent a0.cluster.got a0.stained),[(1,some [.own 1000000000,.int .i64 a0.cluster.grid.root.machine,.int .i64 a0.cluster.grid.root.kind,.int .i64 a0.cluster.grid.root.index,.own 1000000001,.own 1000000002,.own 1000000003,.own 1000000004,.int .i64 a0.holder,.int .i64 (IntKind.i64.wrap ((IntKind.i64.wrap (a0.count+u)) - w)),.bool y,.own 1000000005,.int .i64 a0.rounds,.bool a0.announced])]⟩:=by
 unfold DI at h
 refine BO rfl rfl (Z ?_)
 replace h:=AD h; obtain⟨q,g,h⟩:=h
 refine AO g rfl (Z ?_)
 replace h:=AD h; obtain⟨j,k,h⟩:=h
 refine Ai (AU g) (Z ?_)
 refine AP (j.map BA) (by rw [← AL k]; simp only [List.map_set,go_sem,slD]) (Z ?_)
 exact AF (k1 Ky) h
theorem Mh (a0:Detector) (u:Bool) (r:Int × Int × Detector) (h:Ce a0 u=some r):Dl Tryz.prog Tryz.f64 [1,1,1,0,0,1,1,1] (.tup [.int .i64 r.1,.int .i64 r.2.1]) (tkF6 1501 r.2.2.cluster.grid.shards r.2.2.cluster.channels r.2.2.cluster.counts r.2.2.cluster.sent r.2.2.cluster.got r.2.2.stained) [(1,[.own 1501,.int .i64 r.2.2.cluster.grid.root.machine,.int .i64 r.2.2.cluster.grid.root.kind,.int .i64 r.2.2.cluster.grid.root.index,.own 1502,.own 1503,.own 1504,.own 1505,.int .i64 r.2.2.holder,.int .i64 r.2.2.count,.bool r.2.2.dark,.own 1506,.int .i64 r.2.2.rounds,.bool r.2.2.announced])] ⟨[(0,.box 1 0),(71,.bool u)],(tkF7 1000001000 a0.cluster.grid.shards a0.cluster.channels a0.cluster.counts a0.cluster.sent a0.cluster.got a0.stained),[(1,some [.own 1000001000,.int .i64 a0.cluster.grid.root.machine,.int .i64 a0.cluster.grid.root.kind,.int .i64 a0.cluster.grid.root.index,.own 1000001001,.own 1000001002,.own 1000001003,.own 1000001004,.int .i64 a0.holder,.int .i64 a0.count,.bool a0.dark,.own 1000001005,.int .i64 a0.rounds,.bool a0.announced])]⟩:=by
 unfold Ce at h
 refine BO rfl rfl (Z ?_)
 refine AJ h (fun h=>Z ?_) (fun h=>Z ?_)
 ·exact AF trivial h
 ·refine AJ h (fun h=>Z ?_) (fun h=>Z ?_)
  ·exact AF trivial h
  ·refine AW ?_
   replace h:=AD h; obtain⟨w,y,h⟩:=h
   refine AO y rfl (Z ?_)
   replace h:=AD h; obtain⟨q,g,h⟩:=h
   refine Ai (AU y) (Z ?_)
   refine AP (q.map BA) (by rw [← AL g]; simp only [List.map_set,go_sem,slD]) (Z ?_)
   exact AF (k1 GV) h
theorem PT (a0 r) (h:GD a0=some r):AG Tryz.prog 64 [.box 1 0] (tkF6 1001 a0.cluster.grid.shards a0.cluster.channels a0.cluster.counts a0.cluster.sent a0.cluster.got a0.stained) [(1,[.own 1001,.int .i64 a0.cluster.grid.root.machine,.int .i64 a0.cluster.grid.root.kind,.int .i64 a0.cluster.grid.root.index,.own 1002,.own 1003,.own 1004,.own 1005,.int .i64 a0.holder,.int .i64 a0.count,.bool a0.dark,.own 1006,.int .i64 a0.rounds,.bool a0.announced])] (.tup [.int .i64 r.1,.int .i64 r.2.1]) (tkF6 1501 r.2.2.cluster.grid.shards r.2.2.cluster.channels r.2.2.cluster.counts r.2.2.cluster.sent r.2.2.cluster.got r.2.2.stained) [(1,[.own 1501,.int .i64 r.2.2.cluster.grid.root.machine,.int .i64 r.2.2.cluster.grid.root.kind,.int .i64 r.2.2.cluster.grid.root.index,.own 1502,.own 1503,.own 1504,.own 1505,.int .i64 r.2.2.holder,.int .i64 r.2.2.count,.bool r.2.2.dark,.own 1506,.int .i64 r.2.2.rounds,.bool r.2.2.announced])] :=by
 unfold GD at h
 refine agF Tryz.func64 mixed (h:=Z ?_)
 exact AF (k2 Mg Mh) h
theorem OL (n:Nat):(∀a1 u w y q g j k b d c e i l t s r,Ck n a1 u w y q g j k b d c e i l t s=some r→Aa Tryz.prog Tryz.f25 [1,1,1,1,0,0] (.tup [.agg (Detector.rv r.1),.int .i64 r.2.1,.int .i64 r.2.2]) ⟨[(1,.int .i64 a1),(4,.box 1000002500 0),(7,.box 1000002501 0),(8,.int .i64 s)],(tkF7 1000002000 u g j k b i),[(1000002500,some [.nils,.int .i64 0,.int .i64 0,.int .i64 0,.nils,.nils,.nils,.nils,.int .i64 0,.int .i64 0,.bool false,.nils,.int .i64 0,.bool false]),(1000002501,some [.own 1000002000,.int .i64 w,.int .i64 y,.int .i64 q,.own 1000002001,.own 1000002002,.own 1000002003,.own 1000002004,.int .i64 d,.int .i64 c,.bool e,.own 1000002005,.int .i64 l,.bool t])]⟩):=by
 induction n with
 |zero=>exact((fun _ _ _ _ _ _ _ _ _ _ _ _ _ _ _ _ _ h=>by rw [Ck] at h; cases h))
 | succ n ih=>
  have ih0:=ih
  ·intro a1 u w y q g j k b d c e i l t s r h
   rw [Ck] at h
   refine Ah rfl rfl (Z ?_)
   refine Ae (Z ?_)
   refine AJ h (fun h=>Z ?_) (fun h=>Z ?_)
   ·refine AW ?_
    refine AJ h (fun h=>Z ?_) (fun h=>Z ?_)
    ·exact AF trivial h
    ·replace h:=AD h; obtain⟨o,z,h⟩:=h
     refine AY (Mf _ _ z) (Z ?_)
     refine AW ?_
     refine AJ h (fun h=>Z ?_) (fun h=>Z ?_)
     ·exact AF trivial h
     ·refine AW ?_
      replace h:=AD h; obtain⟨u1,u2,h⟩:=h
      refine caG ⟨[],(r6 1001 1000002000 []),[(1,1000002501,0)],(r6 1501 224000 []),[],true⟩ (PT _ _ u2) (Z ?_)
      exact AF (k1 ih0) h
   ·exact AF trivial h
theorem OM (a0:Detector) (a1:Int) (u:Bool) (r:Detector × Int × Int) (h:EJ a0 a1 u=some r):Aa Tryz.prog Tryz.f25 [1,0,0,1,1,1] (.tup [.agg (Detector.rv r.1),.int .i64 r.2.1,.int .i64 r.2.2]) ⟨[(1,.int .i64 a1),(2,.box 1000000500 0),(4,.box 1000000501 0),(16,.bool u)],[],[(1000000500,some (Detector.avs a0)),(1000000501,some [.nils,.int .i64 0,.int .i64 0,.int .i64 0,.nils,.nils,.nils,.nils,.int .i64 0,.int .i64 0,.bool false,.nils,.int .i64 0,.bool false])]⟩:=by
 unfold EJ at h
 exact AF (k2 Qv OL) h
theorem Lp (a0 a1 r) (h:GN a0 a1=some r):AC Tryz.prog 25 [.agg (Detector.avs a0),.int .i64 a1] (.tup [.agg (Detector.rv r.1),.int .i64 r.2.1,.int .i64 r.2.2]):=by
 unfold GN at h
 refine acF Tryz.func25 mixed (h:=Z ?_)
 exact AF (k2 PS OM) h
theorem Hb (a0 a1 r) (h:DR a0 a1=some r):AC Tryz.prog 26 [.agg (Detector.avs a0),.agg (Detector.avs a1)] (.bool r):=by
 unfold DR at h
 refine acF Tryz.func26 mixed (h:=Z ?_)
 exact AF (k2 U8 Xq) h
theorem Kz (a0 a1) (z1:Option Nat) (z2:Option Nat) (z3:Option Nat) (z4:Option Nat) (z5:Option Nat) (z6:Option Nat) (r) (h:Dd a0 a1=some r):AG Tryz.prog 27 [.agg [.own 1,.int .i64 a0.cluster.grid.root.machine,.int .i64 a0.cluster.grid.root.kind,.int .i64 a0.cluster.grid.root.index,.own 2,.own 3,.own 4,.own 5,.int .i64 a0.holder,.int .i64 a0.count,.bool a0.dark,.own 6,.int .i64 a0.rounds,.bool a0.announced],.int .i64 a1] [(1,⟨List.map Shard.ds a0.cluster.grid.shards,z1,0,.no⟩),(2,⟨List.map (slD Parcel.ds) a0.cluster.channels,z2,0,.no⟩),(3,⟨List.map (slD AB) a0.cluster.counts,z3,0,.no⟩),(4,⟨List.map AB a0.cluster.sent,z4,0,.no⟩),(5,⟨List.map AB a0.cluster.got,z5,0,.no⟩),(6,⟨List.map BA a0.stained,z6,0,.no⟩)] [] (.int .i64 r.1) [(1,⟨List.map Shard.ds r.2.1,z1,0,.no⟩),(2,⟨List.map (slD Parcel.ds) r.2.2.1,z2,0,.no⟩),(3,⟨List.map (slD AB) r.2.2.2.1,z3,0,.no⟩),(4,⟨List.map AB r.2.2.2.2.1,z4,0,.no⟩),(5,⟨List.map AB r.2.2.2.2.2.1,z5,0,.no⟩),(6,⟨List.map BA r.2.2.2.2.2.2,z6,0,.no⟩)] [] :=by
 unfold Dd at h
 refine agF Tryz.func27 mixed (h:=Z ?_)
 replace h:=AD h; obtain⟨u,w,h⟩:=h
 refine caG ⟨[],(r5 1 1 []),[],[],[],true⟩ (R7 _ _ z1 z2 z3 z4 z5 _ w) (Z ?_)
 refine AW ?_
 replace h:=AD h; obtain⟨y,q,h⟩:=h
 refine caG ⟨[],[(1,6)],[],[],[],true⟩ (U9 _ _ z6 _ q) (Z ?_)
 exact AF trivial h
theorem K0 (a0 a1 r) (h:ER a0 a1=some r):AC Tryz.prog 28 [.agg (Detector.avs a0),.int .i64 a1] (.int .i64 r):=by
 unfold ER at h
 refine acF Tryz.func28 mixed (h:=Z ?_)
 exact AF (k2 R8 VA) h
theorem KW (u:Detector × Int × Int) (w:Int × (List Shard) × (List (List Parcel)) × (List (List Int)) × (List Int) × (List Int) × (List Bool)) (y:Bool) (r:Bool) (h:Bw u w y=some r):Aa Tryz.prog Tryz.f5 [1,1,1,1,1,1,1,1,1,1,1,1,1,1,1,1,1,1,1,0,1] (.bool r) ⟨[(10,.box 1000002500 0),(14,.int .i64 w.1),(113,.bool y)],(tkF7 1000002000 w.2.1 w.2.2.1 w.2.2.2.1 w.2.2.2.2.1 w.2.2.2.2.2.1 w.2.2.2.2.2.2),[(1000002500,some [.own 1000002000,.int .i64 u.1.cluster.grid.root.machine,.int .i64 u.1.cluster.grid.root.kind,.int .i64 u.1.cluster.grid.root.index,.own 1000002001,.own 1000002002,.own 1000002003,.own 1000002004,.int .i64 u.1.holder,.int .i64 u.1.count,.bool u.1.dark,.own 1000002005,.int .i64 u.1.rounds,.bool u.1.announced])]⟩:=by
 unfold Bw at h
 exact AF (k1 K0) h
theorem KX (a0:Detector) (a1:Int) (u:Detector × Int × Int) (w:Detector × Int × Int) (y:Bool) (r:Bool) (h:BS a0 a1 u w y=some r):Aa Tryz.prog Tryz.f5 [1,1,1,1,1,1,1,1,1,1,1,0,1] (.bool r) ⟨[(1,.int .i64 a1),(2,.box 1000001500 0),(6,.box 1000001501 0),(7,.int .i64 u.2.1),(8,.int .i64 u.2.2),(10,.box 1000001502 0),(80,.bool y)],[(1000001000,some ⟨List.map Shard.ds u.1.cluster.grid.shards,some 3,0,.no⟩),(1000001001,some ⟨List.map (slD Parcel.ds) u.1.cluster.channels,some 1,0,.no⟩),(1000001002,some ⟨List.map (slD AB) u.1.cluster.counts,some 1,0,.no⟩),(1000001003,some ⟨List.map AB u.1.cluster.sent,some 1,0,.no⟩),(1000001004,some ⟨List.map AB u.1.cluster.got,some 1,0,.no⟩),(1000001005,some ⟨List.map BA u.1.stained,some 1,0,.no⟩),(1000001006,some ⟨List.map Shard.ds w.1.cluster.grid.shards,some 3,0,.no⟩),(1000001007,some ⟨List.map (slD Parcel.ds) w.1.cluster.channels,some 1,0,.no⟩),(1000001008,some ⟨List.map (slD AB) w.1.cluster.counts,some 1,0,.no⟩),(1000001009,some ⟨List.map AB w.1.cluster.sent,some 1,0,.no⟩),(1000001010,some ⟨List.map AB w.1.cluster.got,some 1,0,.no⟩),(1000001011,some ⟨List.map BA w.1.stained,some 1,0,.no⟩)],[(1000001500,some (Detector.avs a0)),(1000001501,some [.own 1000001000,.int .i64 u.1.cluster.grid.root.machine,.int .i64 u.1.cluster.grid.root.kind,.int .i64 u.1.cluster.grid.root.index,.own 1000001001,.own 1000001002,.own 1000001003,.own 1000001004,.int .i64 u.1.holder,.int .i64 u.1.count,.bool u.1.dark,.own 1000001005,.int .i64 u.1.rounds,.bool u.1.announced]),(1000001502,some [.own 1000001006,.int .i64 w.1.cluster.grid.root.machine,.int .i64 w.1.cluster.grid.root.kind,.int .i64 w.1.cluster.grid.root.index,.own 1000001007,.own 1000001008,.own 1000001009,.own 1000001010,.int .i64 w.1.holder,.int .i64 w.1.count,.bool w.1.dark,.own 1000001011,.int .i64 w.1.rounds,.bool w.1.announced])]⟩:=by
 unfold BS at h
 refine Ah rfl rfl (Z ?_)
 refine AJ h (fun h=>Z ?_) (fun h=>Z ?_)
 ·exact AF trivial h
 ·refine AW ?_
  replace h:=AD h; obtain⟨q,g,h⟩:=h
  refine caG ⟨[],(r6 1 1000001006 []),[],[],[],true⟩ (Kz _ _ (some 3) (some 1) (some 1) (some 1) (some 1) (some 1) _ g) (Z ?_)
  exact AF (k5 K0 JW Lp Hb KW) h
theorem KY (a0:Detector) (a1:Int) (u:Detector × Int × Int) (w:Detector) (y:Detector × Int × Int) (q:Bool) (r:Bool) (h:Bx a0 a1 u w y q=some r):Aa Tryz.prog Tryz.f5 [1,1,1,1,1,1,1,0,1] (.bool r) ⟨[(1,.int .i64 a1),(2,.box 1000000500 0),(6,.box 1000000501 0),(7,.int .i64 u.2.1),(8,.int .i64 u.2.2),(9,.box 1000000502 0),(10,.box 1000000503 0),(11,.int .i64 y.2.1),(12,.int .i64 y.2.2),(54,.bool q)],[(1000000000,some ⟨List.map Shard.ds u.1.cluster.grid.shards,some 3,0,.no⟩),(1000000001,some ⟨List.map (slD Parcel.ds) u.1.cluster.channels,some 1,0,.no⟩),(1000000002,some ⟨List.map (slD AB) u.1.cluster.counts,some 1,0,.no⟩),(1000000003,some ⟨List.map AB u.1.cluster.sent,some 1,0,.no⟩),(1000000004,some ⟨List.map AB u.1.cluster.got,some 1,0,.no⟩),(1000000005,some ⟨List.map BA u.1.stained,some 1,0,.no⟩),(1000000006,some ⟨List.map Shard.ds w.cluster.grid.shards,some 3,0,.no⟩),(1000000007,some ⟨List.map (slD Parcel.ds) w.cluster.channels,some 1,0,.no⟩),(1000000008,some ⟨List.map (slD AB) w.cluster.counts,some 1,0,.no⟩),(1000000009,some ⟨List.map AB w.cluster.sent,some 1,0,.no⟩),(1000000010,some ⟨List.map AB w.cluster.got,some 1,0,.no⟩),(1000000011,some ⟨List.map BA w.stained,some 1,0,.no⟩),(1000000012,some ⟨List.map Shard.ds y.1.cluster.grid.shards,some 3,0,.no⟩),(1000000013,some ⟨List.map (slD Parcel.ds) y.1.cluster.channels,some 1,0,.no⟩),(1000000014,some ⟨List.map (slD AB) y.1.cluster.counts,some 1,0,.no⟩),(1000000015,some ⟨List.map AB y.1.cluster.sent,some 1,0,.no⟩),(1000000016,some ⟨List.map AB y.1.cluster.got,some 1,0,.no⟩),(1000000017,some ⟨List.map BA y.1.stained,some 1,0,.no⟩)],[(1000000500,some (Detector.avs a0)),(1000000501,some [.own 1000000000,.int .i64 u.1.cluster.grid.root.machine,.int .i64 u.1.cluster.grid.root.kind,.int .i64 u.1.cluster.grid.root.index,.own 1000000001,.own 1000000002,.own 1000000003,.own 1000000004,.int .i64 u.1.holder,.int .i64 u.1.count,.bool u.1.dark,.own 1000000005,.int .i64 u.1.rounds,.bool u.1.announced]),(1000000502,some [.own 1000000006,.int .i64 w.cluster.grid.root.machine,.int .i64 w.cluster.grid.root.kind,.int .i64 w.cluster.grid.root.index,.own 1000000007,.own 1000000008,.own 1000000009,.own 1000000010,.int .i64 w.holder,.int .i64 w.count,.bool w.dark,.own 1000000011,.int .i64 w.rounds,.bool w.announced]),(1000000503,some [.own 1000000012,.int .i64 y.1.cluster.grid.root.machine,.int .i64 y.1.cluster.grid.root.kind,.int .i64 y.1.cluster.grid.root.index,.own 1000000013,.own 1000000014,.own 1000000015,.own 1000000016,.int .i64 y.1.holder,.int .i64 y.1.count,.bool y.1.dark,.own 1000000017,.int .i64 y.1.rounds,.bool y.1.announced])]⟩:=by
 unfold Bx at h
 refine Ah rfl rfl (Z ?_)
 refine AJ h (fun h=>Z ?_) (fun h=>Z ?_)
 ·exact AF trivial h
 ·refine AW ?_
  refine CT [] .fin (by kernel_rfl) (Z ?_)
  replace h:=AD h; obtain⟨g,j,h⟩:=h
  refine AY (JW _ _ j) (Z ?_)
  replace h:=AD h; obtain⟨k,b,h⟩:=h
  refine AY (Hb _ _ _ b) (Z ?_)
  refine AW ?_
  refine AJ h (fun h=>Z ?_) (fun h=>Z ?_)
  ·exact AF trivial h
  ·refine AW ?_
   replace h:=AD h; obtain⟨d,c,h⟩:=h
   refine caG ⟨[],(r6 1 1000000006 []),[],[],[],true⟩ (Kz _ _ (some 3) (some 1) (some 1) (some 1) (some 1) (some 1) _ c) (Z ?_)
   exact AF (k2 KX Hb) h
theorem LY (a0 a1 r) (h:Eu a0 a1=some r):AC Tryz.prog 5 [.agg (Detector.avs a0),.int .i64 a1] (.bool r):=by
 unfold Eu at h
 refine acF Tryz.func5 mixed (h:=Z ?_)
 exact AF (k6 S5 JW R4 Lp Hb KY) h
end Go.Proofs.YtclmbjbbojdojaaGreat.Ab
