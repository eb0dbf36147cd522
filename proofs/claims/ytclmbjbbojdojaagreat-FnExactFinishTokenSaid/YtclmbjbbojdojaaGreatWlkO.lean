/-
 The functions do what their models say. Printed by wip/ab/gen.py.
-/
import Derived.Test.YtclmbjbbojdojaaGreatModO
import Derived.Test.YtclmbjbbojdojaaGreatTi2
import Derived.Test.YtclmbjbbojdojaaGreatWlkY
namespace Go.Proofs.YtclmbjbbojdojaaGreat.Ab
set_option linter.defProp false
set_option linter.unusedVariables false
set_option linter.unusedSimpArgs false
set_option maxRecDepth 20000
set_option maxHeartbeats 4000000
open Go.RowKit
@[go_sem] def tkO5 (b:Nat) (x0:List ShardCell) (x1:List ShardVar) (x2:List ShardRedex):List (Nat×Option Tok):=[(b,some ⟨List.map ShardCell.ds x0,some 5,0,.no⟩),(b+1,some ⟨List.map ShardVar.ds x1,some 5,0,.no⟩),(b+2,some ⟨List.map ShardRedex.ds x2,some 6,0,.no⟩)]
theorem Mb (a0 r) (h:F0 a0=some r):AC Tryz.prog 133 [.rop (ShardCell.avs a0) 0] (.agg (ShardCell.rv r)):=by
 unfold F0 at h
 refine acF Tryz.func133 mixed (h:=Z ?_)
 refine AW ?_
 refine CT [false,false,false,false,false,false,false,false,false,false,false,false,false,false,false,false,false,false,false,false,false,false,false,false,true] (Tr.sq [24] .fin) (by kernel_rfl) (Z ?_)
 replace h:=AD h; obtain⟨u,w,h⟩:=h
 refine AY (K1 _ _ w) (Z ?_)
 replace h:=AD h; obtain⟨y,q,h⟩:=h
 have hq_:=Al q
 obtain⟨hv2022a,hv2022b⟩:=hq_
 refine Ad (by rfl) (Z ?_)
 refine BW .no (Z ?_)
 refine Ad (Cu (by intro x; exact⟨(Address.ds_len _),by simp [Address.ds_eq,D.flat]⟩) _) (Z ?_)
 refine Ad (by refine⟨?_,?_⟩ <;> (try simp only [List.length_map,List.length_append,List.length_cons,List.length_nil] at*) <;> (try unfold maxLen) <;> omega) (Z ?_)
 refine AP (y.map Address.ds) (by rw [← hv2022b]; simp only [List.nil_append]) (Z ?_)
 exact AF trivial h
theorem OS (n:Nat):(∀a0 u w y q r,DJ n a0 u w y q=some r→Aa Tryz.prog Tryz.f132 [1,1,0,1,0] (.agg (Shard.rv r)) ⟨[(0,.rop (Shard.avs a0) 0),(2,.box 1000001500 0),(3,.box 1000001501 0),(4,.int .i64 q)],(tkO5 1000001000 y u w),[(1000001500,some [.nils,.nils,.nils]),(1000001501,some [.own 1000001000,.own 1000001001,.own 1000001002])]⟩):=by
 induction n with
 |zero=>exact((fun _ _ _ _ _ _ h=>by rw [DJ] at h; cases h))
 | succ n ih=>
  have ih0:=ih
  ·intro a0 u w y q r h
   rw [DJ] at h
   refine Ah rfl rfl (Z ?_)
   refine Ae (Z ?_)
   refine AJ h (fun h=>Z ?_) (fun h=>Z ?_)
   ·refine AW ?_
    refine CT [false,false,false,false,false,false,false,false,false,false,true,true,true] (Tr.sq [10,11,12] .fin) (by kernel_rfl) (Z ?_)
    replace h:=AD h; obtain⟨g,j,h⟩:=h
    refine AO j (ShardCell.ds_len _) (Z ?_)
    replace h:=AD h; obtain⟨k,b,h⟩:=h
    refine AY (Mb _ _ b) (Z ?_)
    replace h:=AD h; obtain⟨d,c,h⟩:=h
    have hq_:=Al c
    obtain⟨hv6010a,hv6010b⟩:=hq_
    refine BW .no (Z ?_)
    refine Ad (by refine⟨?_,?_⟩ <;> (try simp only [List.length_map,List.length_append,List.length_cons,List.length_nil] at*) <;> (try unfold maxLen) <;> omega) (Z ?_)
    refine AP (d.map ShardCell.ds) (by rw [← hv6010b]; simp only [List.map_append,List.map_cons,List.map_nil,List.nil_append,List.append_nil,go_sem,ShardCell.ds_eq]) (Z ?_)
    exact AF (k1 ih0) h
   ·exact AF trivial h
theorem SD (a0 r) (h:GP a0=some r):AC Tryz.prog 132 [.rop (Shard.avs a0) 0] (.agg (Shard.rv r)):=by
 unfold GP at h
 refine acF Tryz.func132 mixed (h:=Z ?_)
 refine AW ?_
 refine CT [false,false,false,false,false,false,false,false,false,false,false,false,false,false,true] (Tr.sq [14] .fin) (by kernel_rfl) (Z ?_)
 replace h:=AD h; obtain⟨u,w,h⟩:=h
 have hq_:=Al w
 obtain⟨hv2005a,hv2005b⟩:=hq_
 refine Ad (by rfl) (Z ?_)
 refine BW .no (Z ?_)
 refine Ad (Cu (by intro x; exact⟨(ShardVar.ds_len _),by simp [ShardVar.ds_eq,D.flat]⟩) _) (Z ?_)
 refine Ad (by refine⟨?_,?_⟩ <;> (try simp only [List.length_map,List.length_append,List.length_cons,List.length_nil] at*) <;> (try unfold maxLen) <;> omega) (Z ?_)
 refine AP (u.map ShardVar.ds) (by rw [← hv2005b]; simp only [List.nil_append]) (Z ?_)
 replace h:=AD h; obtain⟨y,q,h⟩:=h
 have hq_:=Al q
 obtain⟨hv2011a,hv2011b⟩:=hq_
 refine Ad (by rfl) (Z ?_)
 refine BW .no (Z ?_)
 refine Ad (Cu (by intro x; exact⟨(ShardRedex.ds_len _),by simp [ShardRedex.ds_eq,D.flat]⟩) _) (Z ?_)
 refine Ad (by refine⟨?_,?_⟩ <;> (try simp only [List.length_map,List.length_append,List.length_cons,List.length_nil] at*) <;> (try unfold maxLen) <;> omega) (Z ?_)
 refine AP (y.map ShardRedex.ds) (by rw [← hv2011b]; simp only [List.nil_append]) (Z ?_)
 refine AW ?_
 refine CX (CH rfl rfl (OS fuel a0 u y [] 0 _ h):) (.one ⟨_,.cell 2013 0 2000000000 (some 5) .no _ (by simp only [go_sem]; rfl) (by rfl) (by simp only [go_sem]) (.done _),[(1000001000,2000000000),(1000001001,32080),(1000001002,32176)],[(1000001500,1000),(1000001501,2013)],?_⟩)
 simp only [go_sem]
 all_goals try rfl
theorem Pg (n:Nat):(∀a0 u w r,Dx n a0 u w=some r→Aa Tryz.prog Tryz.f71 [1,1,0,1,0] (.agg (Grid.rv r)) ⟨[(0,.rop (Grid.avs a0) 0),(2,.box 1000001500 0),(3,.box 1000001501 0),(4,.int .i64 w)],[(1000001000,some ⟨List.map Shard.ds u,some 3,0,.no⟩)],[(1000001500,some [.nils,.int .i64 0,.int .i64 0,.int .i64 0]),(1000001501,some [.own 1000001000,.int .i64 a0.root.machine,.int .i64 a0.root.kind,.int .i64 a0.root.index])]⟩):=by
 induction n with
 |zero=>exact((fun _ _ _ _ h=>by rw [Dx] at h; cases h))
 | succ n ih=>
  have ih0:=ih
  ·intro a0 u w r h
   rw [Dx] at h
   refine Ah rfl rfl (Z ?_)
   refine Ae (Z ?_)
   refine AJ h (fun h=>Z ?_) (fun h=>Z ?_)
   ·refine AW ?_
    refine CT [false,false,false,false,false,false,false,false,false,false,true,true,true] (Tr.sq [10,11,12] .fin) (by kernel_rfl) (Z ?_)
    replace h:=AD h; obtain⟨y,q,h⟩:=h
    refine AO q (Shard.ds_len _) (Z ?_)
    replace h:=AD h; obtain⟨g,j,h⟩:=h
    refine AY (SD _ _ j) (Z ?_)
    replace h:=AD h; obtain⟨k,b,h⟩:=h
    have hq_:=Al b
    obtain⟨hv6010a,hv6010b⟩:=hq_
    refine BW .no (Z ?_)
    refine Ad (by refine⟨?_,?_⟩ <;> (try simp only [List.length_map,List.length_append,List.length_cons,List.length_nil] at*) <;> (try unfold maxLen) <;> omega) (Z ?_)
    refine AP (k.map Shard.ds) (by rw [← hv6010b]; simp only [List.map_append,List.map_cons,List.map_nil,List.nil_append,List.append_nil,go_sem,Shard.ds_eq]) (Z ?_)
    exact AF (k1 ih0) h
   ·exact AF trivial h
theorem TE (a0 r) (h:IB a0=some r):AC Tryz.prog 71 [.rop (Grid.avs a0) 0] (.agg (Grid.rv r)):=by
 unfold IB at h
 refine acF Tryz.func71 mixed (h:=Z ?_)
 refine AW ?_
 refine AW ?_
 refine CX (CH rfl rfl (Pg fuel a0 [] 0 _ h):) (.one ⟨_,.cell 2005 0 2000000000 (some 3) .no _ (by simp only [go_sem]; rfl) (by rfl) (by simp only [go_sem]) (.done _),[(1000001000,2000000000)],[(1000001500,1000),(1000001501,2005)],?_⟩)
 simp only [go_sem]
 all_goals try rfl
theorem LK (n:Nat):(∀a0 u w r,A8 n a0 u w=some r→Aa Tryz.prog Tryz.f72 [1,1,0,1,0] (.ow (some 1) (List.map (slD Parcel.ds) r)) ⟨[(0,.ro (List.map (slD Parcel.ds) a0)),(3,.own 1000005000),(4,.int .i64 w)],[(1000005000,some ⟨List.map (slD Parcel.ds) u,some 1,0,.no⟩)],[]⟩)∧
    (∀a0 u w y q r,BX n a0 u w y q=some r→Aa Tryz.prog Tryz.f72 [1,1,0,1,0,0,1,0,0,1,0,1,0] (.ow (some 1) (List.map (slD Parcel.ds) r)) ⟨[(0,.ro (List.map (slD Parcel.ds) a0)),(3,.own 1000009000),(4,.int .i64 w),(5,.own 1000009001),(6,.int .i64 q)],[(1000009000,some ⟨List.map (slD Parcel.ds) u,some 1,0,.no⟩),(1000009001,some ⟨List.map Parcel.ds y,some 12,0,.no⟩)],[]⟩):=by
 induction n with
 |zero=>exact⟨(fun _ _ _ _ h=>by rw [A8] at h; cases h),(fun _ _ _ _ _ _ h=>by rw [BX] at h; cases h)⟩
 | succ n ih=>
  obtain⟨ih0,ih1⟩:=ih
  refine⟨?_,?_⟩
  ·intro a0 u w r h
   rw [A8] at h
   refine Ah rfl rfl (Z ?_)
   refine Ae (Z ?_)
   refine AJ h (fun h=>Z ?_) (fun h=>Z ?_)
   ·refine AW ?_
    refine AW ?_
    refine CX (CH rfl rfl (ih1 a0 u w [] 0 _ h):) (.one ⟨_,.lit 5 2000000000 6000 0 12 .no [] _ _ (by (first|rfl|(simp only [go_sem]; rfl))) (by simp only [go_sem]; rfl) (by (first|rfl|(simp only [go_sem]; rfl))) (by (first|rfl|(simp only [go_sem]; rfl))) (by decide) (by decide) (by simp only [go_sem]) (.done _),[(1000009000,1000005000),(1000009001,2000000000)],[],?_⟩)
    simp only [go_sem]
    all_goals try rfl
   ·exact AF trivial h
  ·intro a0 u w y q r h
   rw [BX] at h
   refine Ah rfl rfl (Z ?_)
   refine Ae (Z ?_)
   replace h:=AD h; obtain⟨g,j,h⟩:=h
   refine AO j rfl (Z ?_)
   refine AJ h (fun h=>Z ?_) (fun h=>Z ?_)
   ·refine AW ?_
    replace h:=AD h; obtain⟨k,b,h⟩:=h
    refine AO b rfl (Z ?_)
    replace h:=AD h; obtain⟨d,c,h⟩:=h
    refine AO c (Parcel.ds_len _) (Z ?_)
    refine AW ?_
    replace h:=AD h; obtain⟨e,i,h⟩:=h
    refine AY (XL (Mb _ _ i) (.cons (.rop rfl) .nil)) (Z ?_)
    refine AW ?_
    replace h:=AD h; obtain⟨l,t,h⟩:=h
    have hq_:=Al t
    obtain⟨hv12003a,hv12003b⟩:=hq_
    refine BW .no (Z ?_)
    refine Ad (by refine⟨?_,?_⟩ <;> (try simp only [List.length_map,List.length_append,List.length_cons,List.length_nil] at*) <;> (try unfold maxLen) <;> omega) (Z ?_)
    refine AP (l.map Parcel.ds) (by rw [← hv12003b]; simp only [List.map_append,List.map_cons,List.map_nil,List.nil_append,List.append_nil,go_sem,Parcel.ds_eq]) (Z ?_)
    exact AF (k1 ih1) h
   ·refine AW ?_
    replace h:=AD h; obtain⟨s,o,h⟩:=h
    have hq_:=Al o
    obtain⟨hv13003a,hv13003b⟩:=hq_
    refine BW .no (Z ?_)
    refine Ad (by refine⟨?_,?_⟩ <;> (try simp only [List.length_map,List.length_append,List.length_cons,List.length_nil] at*) <;> (try unfold maxLen) <;> omega) (Z ?_)
    refine AP (List.map (slD Parcel.ds) s) (by rw [← hv13003b]; simp only [List.map_append,List.map_cons,List.map_nil,List.nil_append,List.append_nil,go_sem,slD]) (Z ?_)
    exact AF (k1 ih0) h
def Ls (n:Nat):=(LK n).1
theorem OT (a0 r) (h:Fe a0=some r):AC Tryz.prog 72 [.ro (List.map (slD Parcel.ds) a0)] (.ow (some 1) (List.map (slD Parcel.ds) r)):=by
 unfold Fe at h
 refine acF Tryz.func72 mixed (h:=Z ?_)
 refine AW ?_
 refine CX (CH rfl rfl (Ls fuel a0 [] 0 _ h):) (.one ⟨_,.lit 3 2000000000 2000 0 1 .no [] _ _ (by (first|rfl|(simp only [go_sem]; rfl))) (by simp only [go_sem]; rfl) (by (first|rfl|(simp only [go_sem]; rfl))) (by (first|rfl|(simp only [go_sem]; rfl))) (by decide) (by decide) (by simp only [go_sem]) (.done _),[(1000005000,2000000000)],[],?_⟩)
 simp only [go_sem]
 all_goals try rfl
theorem OU (n:Nat):(∀a0 u w r,DK n a0 u w=some r→Aa Tryz.prog Tryz.f73 [1,1,0,1,0] (.ow (some 1) (List.map (slD AB) r)) ⟨[(0,.ro (List.map (slD AB) a0)),(3,.own 1000001000),(4,.int .i64 w)],[(1000001000,some ⟨List.map (slD AB) u,some 1,0,.no⟩)],[]⟩):=by
 induction n with
 |zero=>exact((fun _ _ _ _ h=>by rw [DK] at h; cases h))
 | succ n ih=>
  have ih0:=ih
  ·intro a0 u w r h
   rw [DK] at h
   refine Ah rfl rfl (Z ?_)
   refine Ae (Z ?_)
   refine AJ h (fun h=>Z ?_) (fun h=>Z ?_)
   ·refine AW ?_
    replace h:=AD h; obtain⟨y,q,h⟩:=h
    refine AO q rfl (Z ?_)
    replace h:=AD h; obtain⟨g,j,h⟩:=h
    refine AY (K1 _ _ j) (Z ?_)
    replace h:=AD h; obtain⟨k,b,h⟩:=h
    have hq_:=Al b
    obtain⟨hv6007a,hv6007b⟩:=hq_
    refine BW .no (Z ?_)
    refine Ad (by refine⟨?_,?_⟩ <;> (try simp only [List.length_map,List.length_append,List.length_cons,List.length_nil] at*) <;> (try unfold maxLen) <;> omega) (Z ?_)
    refine AP (List.map (slD AB) k) (by rw [← hv6007b]; simp only [List.map_append,List.map_cons,List.map_nil,List.nil_append,List.append_nil,go_sem,slD]) (Z ?_)
    exact AF (k1 ih0) h
   ·exact AF trivial h
theorem SE (a0 r) (h:HK a0=some r):AC Tryz.prog 73 [.ro (List.map (slD AB) a0)] (.ow (some 1) (List.map (slD AB) r)):=by
 unfold HK at h
 refine acF Tryz.func73 mixed (h:=Z ?_)
 refine AW ?_
 refine CX (CH rfl rfl (OU fuel a0 [] 0 _ h):) (.one ⟨_,.lit 3 2000000000 2000 0 1 .no [] _ _ (by (first|rfl|(simp only [go_sem]; rfl))) (by simp only [go_sem]; rfl) (by (first|rfl|(simp only [go_sem]; rfl))) (by (first|rfl|(simp only [go_sem]; rfl))) (by decide) (by decide) (by simp only [go_sem]) (.done _),[(1000001000,2000000000)],[],?_⟩)
 simp only [go_sem]
 all_goals try rfl
theorem Za (a0 r) (h:NI a0=some r):AC Tryz.prog 31 [.rop (Cluster.avs a0) 0] (.agg (Cluster.rv r)):=by
 unfold NI at h
 refine acF Tryz.func31 mixed (h:=Z ?_)
 refine AW ?_
 refine CT [false,false,false,false,false,false,false,false,false,false,false,false,false,false,false,false,false,false,false,false,false,false,false,false,false,true] (Tr.sq [25] .fin) (by kernel_rfl) (Z ?_)
 exact AF (k4 TE OT SE K1) h
theorem Kl (a0 r) (h:EC a0=some r):AC Tryz.prog 204 [.ro (a0.map ShardVar.ds)] (.ow (some 5) (r.map ShardVar.ds)):=by
 unfold EC at h
 refine acF Tryz.func204 mixed (h:=Z ?_)
 refine Wf (by simp only [go_sem]) (fun h0=>?_) ?_
 ·try simp only [go_sem]
  have hq_:=List.map_eq_nil_iff.1 h0
  obtain rfl:=hq_
  obtain rfl:r=[] :=by cases h; rfl
  simp only [go_sem]
 ·try simp only [go_sem]
  refine AW ?_
  replace h:=AD h; obtain⟨u,w,h⟩:=h
  have hq_:=Al w
  obtain⟨hv4002a,hv4002b⟩:=hq_
  refine BW .no (Z ?_)
  refine Ad (Cu (by intro x; exact⟨(ShardVar.ds_len _),by simp [ShardVar.ds_eq,D.flat]⟩) _) (Z ?_)
  refine Ad (by refine⟨?_,?_⟩ <;> (try simp only [List.length_map,List.length_append,List.length_cons,List.length_nil] at*) <;> (try unfold maxLen) <;> omega) (Z ?_)
  refine AP (u.map ShardVar.ds) (by rw [← hv4002b]; simp only [List.map_append,List.map_cons,List.map_nil,List.nil_append,List.append_nil,go_sem,ShardVar.ds_eq]) (Z ?_)
  exact AF trivial h
theorem Jj (a0 r) (h:DW a0=some r):AC Tryz.prog 205 [.ro (a0.map ShardRedex.ds)] (.ow (some 6) (r.map ShardRedex.ds)):=by
 unfold DW at h
 refine acF Tryz.func205 mixed (h:=Z ?_)
 refine Wf (by simp only [go_sem]) (fun h0=>?_) ?_
 ·try simp only [go_sem]
  have hq_:=List.map_eq_nil_iff.1 h0
  obtain rfl:=hq_
  obtain rfl:r=[] :=by cases h; rfl
  simp only [go_sem]
 ·try simp only [go_sem]
  refine AW ?_
  replace h:=AD h; obtain⟨u,w,h⟩:=h
  have hq_:=Al w
  obtain⟨hv4002a,hv4002b⟩:=hq_
  refine BW .no (Z ?_)
  refine Ad (Cu (by intro x; exact⟨(ShardRedex.ds_len _),by simp [ShardRedex.ds_eq,D.flat]⟩) _) (Z ?_)
  refine Ad (by refine⟨?_,?_⟩ <;> (try simp only [List.length_map,List.length_append,List.length_cons,List.length_nil] at*) <;> (try unfold maxLen) <;> omega) (Z ?_)
  refine AP (u.map ShardRedex.ds) (by rw [← hv4002b]; simp only [List.map_append,List.map_cons,List.map_nil,List.nil_append,List.append_nil,go_sem,ShardRedex.ds_eq]) (Z ?_)
  exact AF trivial h
theorem HW (a0 r) (h:Br a0=some r):AC Tryz.prog 206 [.ro (a0.map Address.ds)] (.ow (some 3) (r.map Address.ds)):=by
 unfold Br at h
 refine acF Tryz.func206 mixed (h:=Z ?_)
 refine Wf (by simp only [go_sem]) (fun h0=>?_) ?_
 ·try simp only [go_sem]
  have hq_:=List.map_eq_nil_iff.1 h0
  obtain rfl:=hq_
  obtain rfl:r=[] :=by cases h; rfl
  simp only [go_sem]
 ·try simp only [go_sem]
  refine AW ?_
  replace h:=AD h; obtain⟨u,w,h⟩:=h
  have hq_:=Al w
  obtain⟨hv4002a,hv4002b⟩:=hq_
  refine BW .no (Z ?_)
  refine Ad (Cu (by intro x; exact⟨(Address.ds_len _),by simp [Address.ds_eq,D.flat]⟩) _) (Z ?_)
  refine Ad (by refine⟨?_,?_⟩ <;> (try simp only [List.length_map,List.length_append,List.length_cons,List.length_nil] at*) <;> (try unfold maxLen) <;> omega) (Z ?_)
  refine AP (u.map Address.ds) (by rw [← hv4002b]; simp only [List.map_append,List.map_cons,List.map_nil,List.nil_append,List.append_nil,go_sem,Address.ds_eq]) (Z ?_)
  exact AF trivial h
theorem Q5 (n:Nat):(∀a0 u w y q r,EW n a0 u w y q=some r→Aa Tryz.prog Tryz.f145 [1,1,0,1,0] (.agg (Shard.rv r)) ⟨[(2,.box 1000001500 0),(3,.box 1000001501 0),(14,.ro (a0.cells.map ShardCell.ds)),(15,.int .i64 (a0.cells.length:Int)),(16,.int .i64 q)],(tkO5 1000001000 y u w),[(1000001500,some [.nils,.nils,.nils]),(1000001501,some [.own 1000001000,.own 1000001001,.own 1000001002])]⟩):=by
 induction n with
 |zero=>exact((fun _ _ _ _ _ _ h=>by rw [EW] at h; cases h))
 | succ n ih=>
  have ih0:=ih
  ·intro a0 u w y q r h
   rw [EW] at h
   refine Ah rfl rfl (Z ?_)
   refine Ae (Z ?_)
   refine AJ h (fun h=>Z ?_) (fun h=>Z ?_)
   ·refine AW ?_
    replace h:=AD h; obtain⟨g,j,h⟩:=h
    refine AO j (ShardCell.ds_len _) (Z ?_)
    refine AW ?_
    refine CT [false,false,false,false,false,false,false,true,true,true] (Tr.sq [7,8,9] .fin) (by kernel_rfl) (Z ?_)
    replace h:=AD h; obtain⟨k,b,h⟩:=h
    refine AY (E5 _ _ b) (Z ?_)
    replace h:=AD h; obtain⟨d,c,h⟩:=h
    refine AY (HW _ _ c) (Z ?_)
    refine AW ?_
    replace h:=AD h; obtain⟨e,i,h⟩:=h
    have hq_:=Al i
    obtain⟨hv7004a,hv7004b⟩:=hq_
    refine BW .no (Z ?_)
    refine Ad (by refine⟨?_,?_⟩ <;> (try simp only [List.length_map,List.length_append,List.length_cons,List.length_nil] at*) <;> (try unfold maxLen) <;> omega) (Z ?_)
    refine AP (e.map ShardCell.ds) (by rw [← hv7004b]; simp only [List.map_append,List.map_cons,List.map_nil,List.nil_append,List.append_nil,go_sem,ShardCell.ds_eq]) (Z ?_)
    exact AF (k1 ih0) h
   ·exact AF trivial h
theorem VG (a0 r) (h:Hs a0=some r):AC Tryz.prog 145 [.agg (Shard.avs a0)] (.agg (Shard.rv r)):=by
 unfold Hs at h
 refine acF Tryz.func145 mixed (h:=Z ?_)
 refine AW ?_
 refine CT [false,false,false,false,false,false,false,false,true] (Tr.sq [8] .fin) (by kernel_rfl) (Z ?_)
 replace h:=AD h; obtain⟨u,w,h⟩:=h
 refine AY (Kl _ _ w) (Z ?_)
 replace h:=AD h; obtain⟨y,q,h⟩:=h
 refine AY (Jj _ _ q) (Z ?_)
 refine AW ?_
 refine CX (CH rfl rfl (Q5 fuel a0 u y [] 0 _ h):) (.one ⟨_,.cell 2007 0 2000000000 (some 5) .no _ (by simp only [go_sem]; rfl) (by rfl) (by simp only [go_sem]) (.done _),[(1000001000,2000000000),(1000001001,32032),(1000001002,32080)],[(1000001500,1001),(1000001501,2007)],?_⟩)
 simp only [go_sem]
 all_goals try rfl
theorem SF (n:Nat):(∀a0 u w r,FF n a0 u w=some r→Aa Tryz.prog Tryz.f77 [1,1,0,1,0] (.agg (Grid.rv r)) ⟨[(2,.box 1000001500 0),(3,.box 1000001501 0),(10,.ro (a0.shards.map Shard.ds)),(11,.int .i64 (a0.shards.length:Int)),(12,.int .i64 w)],[(1000001000,some ⟨List.map Shard.ds u,some 3,0,.no⟩)],[(1000001500,some [.nils,.int .i64 0,.int .i64 0,.int .i64 0]),(1000001501,some [.own 1000001000,.int .i64 a0.root.machine,.int .i64 a0.root.kind,.int .i64 a0.root.index])]⟩):=by
 induction n with
 |zero=>exact((fun _ _ _ _ h=>by rw [FF] at h; cases h))
 | succ n ih=>
  have ih0:=ih
  ·intro a0 u w r h
   rw [FF] at h
   refine Ah rfl rfl (Z ?_)
   refine Ae (Z ?_)
   refine AJ h (fun h=>Z ?_) (fun h=>Z ?_)
   ·refine AW ?_
    replace h:=AD h; obtain⟨y,q,h⟩:=h
    refine AO q (Shard.ds_len _) (Z ?_)
    refine AW ?_
    refine CT [false,false,false,false,false,true,true,true] (Tr.sq [5,6,7] .fin) (by kernel_rfl) (Z ?_)
    replace h:=AD h; obtain⟨g,j,h⟩:=h
    refine AY (VG _ _ j) (Z ?_)
    replace h:=AD h; obtain⟨k,b,h⟩:=h
    have hq_:=Al b
    obtain⟨hv6005a,hv6005b⟩:=hq_
    refine BW .no (Z ?_)
    refine Ad (by refine⟨?_,?_⟩ <;> (try simp only [List.length_map,List.length_append,List.length_cons,List.length_nil] at*) <;> (try unfold maxLen) <;> omega) (Z ?_)
    refine AP (k.map Shard.ds) (by rw [← hv6005b]; simp only [List.map_append,List.map_cons,List.map_nil,List.nil_append,List.append_nil,go_sem,Shard.ds_eq]) (Z ?_)
    exact AF (k1 ih0) h
   ·exact AF trivial h
theorem Vp (a0 r) (h:KJ a0=some r):AC Tryz.prog 77 [.agg (Grid.avs a0)] (.agg (Grid.rv r)):=by
 unfold KJ at h
 refine acF Tryz.func77 mixed (h:=Z ?_)
 refine AW ?_
 refine AW ?_
 refine CX (CH rfl rfl (SF fuel a0 [] 0 _ h):) (.one ⟨_,.cell 2003 0 2000000000 (some 3) .no _ (by simp only [go_sem]; rfl) (by rfl) (by simp only [go_sem]) (.done _),[(1000001000,2000000000)],[(1000001500,1001),(1000001501,2003)],?_⟩)
 simp only [go_sem]
 all_goals try rfl
theorem Lt (a0 r) (h:E0 a0=some r):AG Tryz.prog 207 [.ro (a0.map Parcel.ds)] [] [] (.own 1501) [(1501,⟨List.map Parcel.dz r,some 12,0,.yes⟩)] [] :=by
 unfold E0 at h
 refine agF Tryz.func207 mixed (h:=Z ?_)
 refine Wf (by simp only [go_sem]) (fun h0=>?_) ?_
 ·try simp only [go_sem]
  have hq_:=List.map_eq_nil_iff.1 h0
  obtain rfl:=hq_
  obtain rfl:r=[] :=by cases h; rfl
  simp only [go_sem]
  refine f8 (.deep 0 2000000000 (some 12) .yes [] (by (first|rfl|(simp only [go_sem]; rfl))) (by simp only [go_sem]) (.done _)) [(1501,2000000000)] [] ?_
  simp only [go_sem]
  all_goals try rfl
 ·try simp only [go_sem]
  refine AW ?_
  replace h:=AD h; obtain⟨u,w,h⟩:=h
  have hq_:=Al w
  obtain⟨hv4002a,hv4002b⟩:=hq_
  refine BW .yes (Z ?_)
  refine Ad (aM (by intro x; exact⟨(Parcel.ds_len _),Parcel.dz_ng x⟩) _) (Z ?_)
  refine AP (a0.map Parcel.dz) (jO Parcel.dz_fz _) (Z ?_)
  refine Ad (by refine⟨?_,?_⟩ <;> (try simp only [List.length_map,List.length_append,List.length_cons,List.length_nil] at*) <;> (try unfold maxLen) <;> omega) (Z ?_)
  refine AP (u.map Parcel.dz) (by rw [← hv4002b]; simp only [List.map_append,List.map_cons,List.map_nil,List.nil_append,List.append_nil,go_sem,Parcel.ds_eq,Parcel.dz_eq]) (Z ?_)
  exact AF trivial h
theorem OV (n:Nat):(∀u w y r,Cm n u w y=some r→Dl Tryz.prog Tryz.f146 [1,1,0,1,0] (.own 1501) [(1501,⟨List.map Parcel.ds r,some 12,0,.no⟩)] [] ⟨[(3,.own 1000001000),(8,.int .i64 (u.length:Int)),(9,.int .i64 y)],[(1000001000,some ⟨List.map MParcel.ds w,some 12,0,.yes⟩)],[]⟩):=by
 induction n with
 |zero=>exact((fun _ _ _ _ h=>by rw [Cm] at h; cases h))
 | succ n ih=>
  have ih0:=ih
  ·intro u w y r h
   rw [Cm] at h
   refine BO rfl rfl (Z ?_)
   refine Ae (Z ?_)
   refine AJ h (fun h=>Z ?_) (fun h=>Z ?_)
   ·refine AW ?_
    refine CT [false,false,false,false,false,false,false,false,false,false,false,false,false,false,false,false,false,false,false,false,false,true,true,true,true,true] (Tr.sq [21,22,23,24,25] .fin) (by kernel_rfl) (Z ?_)
    replace h:=AD h; obtain⟨q,g,h⟩:=h
    refine AO g (MParcel.ds_len _) (Z ?_)
    replace h:=AD h; obtain⟨j,k,h⟩:=h
    replace k:=MParcel.sh_some k
    subst k
    have k:=g
    refine Ai (AU k) (Z ?_)
    replace h:=AD h; obtain⟨d,c,h⟩:=h
    refine AY (E5 _ _ c) (Z ?_)
    replace h:=AD h; obtain⟨e,i,h⟩:=h
    refine AO i (MParcel.ds_len _) (Z ?_)
    replace h:=AD h; obtain⟨l,t,h⟩:=h
    replace t:=MParcel.sh_some t
    subst t
    have t:=i
    refine Ai (AU t) (Z ?_)
    replace h:=AD h; obtain⟨s,o,h⟩:=h
    refine AY (HW _ _ o) (Z ?_)
    replace h:=AD h; obtain⟨z,u1,h⟩:=h
    refine AO u1 (MParcel.ds_len _) (Z ?_)
    replace h:=AD h; obtain⟨u2,u3,h⟩:=h
    replace u3:=MParcel.sh_some u3
    subst u3
    have u3:=u1
    refine Ai (AU u3) (Z ?_)
    refine AP (List.set (w.map MParcel.ds) (Int.toNat y) [.int .i64 u2.kind,.int .i64 u2.cell.kind,.int .i64 u2.cell.level,.int .i64 u2.cell.value,.sl (d.map AB),.fz (u2.cell.aux.map Address.ds),.int .i64 u2.a.machine,.int .i64 u2.a.kind,.int .i64 u2.a.index,.int .i64 u2.b.machine,.int .i64 u2.b.kind,.int .i64 u2.b.index]) (by simp only [go_sem,MParcel.ds_sh,MParcel.ds_ow]) (Z ?_)
    refine jQ u3 rfl (Z ?_)
    replace h:=AD h; obtain⟨u4,u5,h⟩:=h
    refine Ai (FV (AU u3)) (Z ?_)
    refine AP (u4.map MParcel.ds) (by rw [← AL u5,List.set_set]; simp only [List.map_set,go_sem,MParcel.ds_sh,MParcel.ds_ow]) (Z ?_)
    exact AF (k1 ih0) h
   ·refine AW ?_
    replace h:=AD h; obtain⟨mx0,hmx0,h⟩:=h
    rw [MParcel.ow_some hmx0]
    cases h
    refine f8 (.pure 1000001000 _ (by (first|rfl|(simp only [go_sem]; rfl))) (by decide) rfl ((congrArg Tw (MParcel.map_ow _)).trans (QX Parcel.ds_clr _)) (.done _)) [(1501,1000001000)] [] ?_
    simp only [go_sem]
theorem SG (a0 r) (h:GQ a0=some r):AG Tryz.prog 146 [.ro (a0.map Parcel.ds)] [] [] (.own 1501) [(1501,⟨List.map Parcel.ds r,some 12,0,.no⟩)] [] :=by
 unfold GQ at h
 refine agF Tryz.func146 mixed (h:=Z ?_)
 replace h:=AD h; obtain⟨u,w,h⟩:=h
 refine be (Lt _ _ w) (by (first|rfl|(simp only [go_sem]; rfl))) (Z ?_)
 exact AF (k1 OV) h
theorem Ni (n:Nat):(∀a0 u w r,Cy n a0 u w=some r→Aa Tryz.prog Tryz.f78 [1,1,0,1,0] (.ow (some 1) (List.map (slD Parcel.ds) r)) ⟨[(0,.ro (List.map (slD Parcel.ds) a0)),(3,.own 1000001000),(9,.int .i64 (a0.length:Int)),(10,.int .i64 w)],[(1000001000,some ⟨List.map (slD Parcel.ds) u,some 1,0,.no⟩)],[]⟩):=by
 induction n with
 |zero=>exact((fun _ _ _ _ h=>by rw [Cy] at h; cases h))
 | succ n ih=>
  have ih0:=ih
  ·intro a0 u w r h
   rw [Cy] at h
   refine Ah rfl rfl (Z ?_)
   refine Ae (Z ?_)
   refine AJ h (fun h=>Z ?_) (fun h=>Z ?_)
   ·refine AW ?_
    replace h:=AD h; obtain⟨y,q,h⟩:=h
    refine AO q rfl (Z ?_)
    replace h:=AD h; obtain⟨g,j,h⟩:=h
    refine be (SG _ _ j) (by (first|rfl|(simp only [go_sem]; rfl))) (Z ?_)
    replace h:=AD h; obtain⟨k,b,h⟩:=h
    refine AO b rfl (Z ?_)
    replace h:=AD h; obtain⟨d,c,h⟩:=h
    refine Ai (AU b) (Z ?_)
    refine AP (List.map (slD Parcel.ds) d) (by rw [← AL c]; simp only [List.map_set,go_sem,slD]) (Z ?_)
    exact AF (k1 ih0) h
   ·exact AF trivial h
theorem Q6 (a0 r) (h:Gj a0=some r):AC Tryz.prog 78 [.ro (List.map (slD Parcel.ds) a0)] (.ow (some 1) (List.map (slD Parcel.ds) r)):=by
 unfold Gj at h
 refine acF Tryz.func78 mixed (h:=Z ?_)
 replace h:=AD h; obtain⟨u,w,h⟩:=h
 have hq_:=D6 w
 obtain⟨hv2002a,hv2002b,hv2002c⟩:=hq_
 refine Ad (by refine⟨?_,?_,?_⟩ <;> omega) (Z ?_)
 refine BW .no (Z ?_)
 refine AP (List.map (slD Parcel.ds) u) (by rw [← hv2002c]; simp only [List.map_replicate,go_sem,slD]) (Z ?_)
 exact AF (k1 Ni) h
theorem Ph (n:Nat):(∀a0 u w r,Dy n a0 u w=some r→Aa Tryz.prog Tryz.f79 [1,1,0,1,0] (.ow (some 1) (List.map (slD AB) r)) ⟨[(0,.ro (List.map (slD AB) a0)),(3,.own 1000001000),(9,.int .i64 (a0.length:Int)),(10,.int .i64 w)],[(1000001000,some ⟨List.map (slD AB) u,some 1,0,.no⟩)],[]⟩):=by
 induction n with
 |zero=>exact((fun _ _ _ _ h=>by rw [Dy] at h; cases h))
 | succ n ih=>
  have ih0:=ih
  ·intro a0 u w r h
   rw [Dy] at h
   refine Ah rfl rfl (Z ?_)
   refine Ae (Z ?_)
   refine AJ h (fun h=>Z ?_) (fun h=>Z ?_)
   ·refine AW ?_
    replace h:=AD h; obtain⟨y,q,h⟩:=h
    refine AO q rfl (Z ?_)
    replace h:=AD h; obtain⟨g,j,h⟩:=h
    refine AY (E5 _ _ j) (Z ?_)
    replace h:=AD h; obtain⟨k,b,h⟩:=h
    refine AO b rfl (Z ?_)
    replace h:=AD h; obtain⟨d,c,h⟩:=h
    refine Ai (AU b) (Z ?_)
    refine AP (List.map (slD AB) d) (by rw [← AL c]; simp only [List.map_set,go_sem,slD]) (Z ?_)
    exact AF (k1 ih0) h
   ·exact AF trivial h
theorem TF (a0 r) (h:IC a0=some r):AC Tryz.prog 79 [.ro (List.map (slD AB) a0)] (.ow (some 1) (List.map (slD AB) r)):=by
 unfold IC at h
 refine acF Tryz.func79 mixed (h:=Z ?_)
 replace h:=AD h; obtain⟨u,w,h⟩:=h
 have hq_:=D6 w
 obtain⟨hv2002a,hv2002b,hv2002c⟩:=hq_
 refine Ad (by refine⟨?_,?_,?_⟩ <;> omega) (Z ?_)
 refine BW .no (Z ?_)
 refine AP (List.map (slD AB) u) (by rw [← hv2002c]; simp only [List.map_replicate,go_sem,slD]) (Z ?_)
 exact AF (k1 Ph) h
theorem R6 (a0 r) (h:HG a0=some r):AC Tryz.prog 34 [.agg (Cluster.avs a0)] (.agg (Cluster.rv r)):=by
 unfold HG at h
 refine acF Tryz.func34 mixed (h:=Z ?_)
 refine AW ?_
 refine CT [false,false,false,false,false,false,false,false,false,false,false,false,false,false,false,false,true] (Tr.sq [16] .fin) (by kernel_rfl) (Z ?_)
 exact AF (k4 Vp Q6 TF E5) h
end Go.Proofs.YtclmbjbbojdojaaGreat.Ab
