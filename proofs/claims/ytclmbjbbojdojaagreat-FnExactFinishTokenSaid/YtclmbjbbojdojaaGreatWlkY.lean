/-
 The functions do what their models say. Printed by wip/ab/gen.py.
-/
import Derived.Test.YtclmbjbbojdojaaGreatModY
import Derived.Test.YtclmbjbbojdojaaGreatTi2
import Derived.Test.YtclmbjbbojdojaaGreatWlkU
import Derived.Test.YtclmbjbbojdojaaGreatWlkW
namespace Go.Proofs.YtclmbjbbojdojaaGreat.Ab
set_option linter.unusedVariables false
set_option linter.unusedSimpArgs false
set_option maxRecDepth 20000
set_option maxHeartbeats 4000000
open Go.RowKit
theorem K1 (a0 r) (h:HH a0=some r):AC Tryz.prog 74 [.ro (a0.map AB)] (.ow (some 1) (r.map AB)):=by
 unfold HH at h
 refine acF Tryz.func74 mixed (h:=Z ?_)
 replace h:=AD h; obtain⟨u,w,h⟩:=h
 have hq_:=Al w
 obtain⟨hv2002a,hv2002b⟩:=hq_
 refine BW .no (Z ?_)
 refine Ad (Cu (by intro x; exact⟨rfl,by simp [go_sem,D.flat]⟩) _) (Z ?_)
 refine Ad (by refine⟨?_,?_⟩ <;> (try simp only [List.length_map,List.length_append,List.length_cons,List.length_nil] at*) <;> (try unfold maxLen) <;> omega) (Z ?_)
 refine AP (u.map AB) (by rw [← hv2002b]; simp only [List.map_append,List.map_cons,List.map_nil,List.nil_append,List.append_nil,go_sem,slD]) (Z ?_)
 exact AF trivial h
theorem Hz (n:Nat):(∀ (a0:List ShardCell) (u:Int) (f1:(ShardCell→Option Bool)) (g1:FuncId) (c1:List AV) (s1:Still c1) (h1:∀ (y0:ShardCell) (q:Bool),f1 y0=some q→AC Tryz.prog g1 (fnA c1 [.agg (ShardCell.avs y0)]) (.bool q)) (r:Int),As n a0 u f1=some r→Aa Tryz.prog Tryz.f245 [1,0,1,0] (.int .i64 r) ⟨[(0,.ro (a0.map ShardCell.ds)),(1,.fn g1 c1),(7,.int .i64 (a0.length:Int)),(8,.int .i64 u)],[],[]⟩):=by
 induction n with
 |zero=>exact((fun _ _ _ _ _ _ _ _ h=>by rw [As] at h; cases h))
 | succ n ih=>
  have ih0:=ih
  ·intro a0 u f1 g1 c1 s1 h1 r h
   rw [As] at h
   refine Ah rfl rfl ?_
   try simp only [go_sem,s1.k,s1.r,s1.c,s1.p,s1.o,s1.f]
   refine Ae ?_
   try simp only [go_sem,s1.k,s1.r,s1.c,s1.p,s1.o,s1.f]
   refine AJ h (fun h=>?_) (fun h=>?_)
   ·try simp only [go_sem,s1.k,s1.r,s1.c,s1.p,s1.o,s1.f]
    refine Bv ?_
    try simp only [go_sem,s1.k,s1.r,s1.c,s1.p,s1.o,s1.f]
    replace h:=AD h; obtain⟨w,y,h⟩:=h
    refine AO y (ShardCell.ds_len _) ?_
    try simp only [go_sem,s1.k,s1.r,s1.c,s1.p,s1.o,s1.f]
    replace h:=AD h; obtain⟨g,j,h⟩:=h
    refine AY (h1 _ _ j) ?_
    try simp only [go_sem,s1.k,s1.r,s1.c,s1.p,s1.o,s1.f]
    refine Bv ?_
    try simp only [go_sem,s1.k,s1.r,s1.c,s1.p,s1.o,s1.f]
    refine AJ h (fun h=>?_) (fun h=>?_)
    ·try simp only [go_sem,s1.k,s1.r,s1.c,s1.p,s1.o,s1.f]
     cases h
     simp only [go_sem,s1.k,s1.r,s1.c,s1.p,s1.o,s1.f]
    ·try simp only [go_sem,s1.k,s1.r,s1.c,s1.p,s1.o,s1.f]
     refine Bv ?_
     try simp only [go_sem,s1.k,s1.r,s1.c,s1.p,s1.o,s1.f]
     refine QU (CH rfl rfl (ih0 a0 (IntKind.i64.wrap (u+1)) f1 g1 c1 s1 h1 _ h):) (.one ⟨_,.done _,[],[],?_⟩)
     try simp only [go_sem,s1.k,s1.r,s1.c,s1.p,s1.o,s1.f]
   ·try simp only [go_sem,s1.k,s1.r,s1.c,s1.p,s1.o,s1.f]
    refine Bv ?_
    try simp only [go_sem,s1.k,s1.r,s1.c,s1.p,s1.o,s1.f]
    cases h
    simp only [go_sem,s1.k,s1.r,s1.c,s1.p,s1.o,s1.f]
theorem Iw (a0:List ShardCell) (f1:(ShardCell→Option Bool)) (g1:FuncId) (c1:List AV) (s1:Still c1) (h1:∀ (y0:ShardCell) (q:Bool),f1 y0=some q→AC Tryz.prog g1 (fnA c1 [.agg (ShardCell.avs y0)]) (.bool q)) (r:Int) (h:EE a0 f1=some r):AC Tryz.prog 245 [.ro (a0.map ShardCell.ds),.fn g1 c1] (.int .i64 r):=by
 unfold EE at h
 refine acF Tryz.func245 mixed (h:=?_)
 try simp only [go_sem,s1.k,s1.r,s1.c,s1.p,s1.o,s1.f]
 refine CX (CH rfl rfl (Hz fuel a0 0 f1 g1 c1 s1 h1 _ h):) (.one ⟨_,.done _,[],[],?_⟩)
 try simp only [go_sem,s1.k,s1.r,s1.c,s1.p,s1.o,s1.f]
theorem H0 (a0:List ShardCell) (f1:(ShardCell→Option Bool)) (g1:FuncId) (c1:List AV) (s1:Still c1) (h1:∀ (y0:ShardCell) (q:Bool),f1 y0=some q→AC Tryz.prog g1 (fnA c1 [.agg (ShardCell.avs y0)]) (.bool q)) (r:Bool) (h:CI a0 f1=some r):AC Tryz.prog 198 [.ro (a0.map ShardCell.ds),.fn g1 c1] (.bool r):=by
 unfold CI at h
 refine acF Tryz.func198 mixed (h:=?_)
 try simp only [go_sem,s1.k,s1.r,s1.c,s1.p,s1.o,s1.f]
 replace h:=AD h; obtain⟨u,w,h⟩:=h
 refine AY (Iw _ _ g1 c1 s1 h1 _ w) ?_
 try simp only [go_sem,s1.k,s1.r,s1.c,s1.p,s1.o,s1.f]
 refine Bv ?_
 try simp only [go_sem,s1.k,s1.r,s1.c,s1.p,s1.o,s1.f]
 cases h
 simp only [go_sem,s1.k,s1.r,s1.c,s1.p,s1.o,s1.f]
theorem Nt (n:Nat):(∀a0 a1 u r,Dr n a0 a1 u=some r→Aa Tryz.prog Tryz.f265 [1,1,0,1,0] (.bool r) ⟨[(0,.ro (a0.map AB)),(1,.ro (a1.map AB)),(12,.int .i64 (a0.length:Int)),(13,.int .i64 u)],[],[]⟩):=by
 induction n with
 |zero=>exact((fun _ _ _ _ h=>by rw [Dr] at h; cases h))
 | succ n ih=>
  have ih0:=ih
  ·intro a0 a1 u r h
   rw [Dr] at h
   exact AF (k1 ih0) h
theorem RN (a0 a1 r) (h:Gs a0 a1=some r):AC Tryz.prog 265 [.ro (a0.map AB),.ro (a1.map AB)] (.bool r):=by
 unfold Gs at h
 refine acF Tryz.func265 mixed (h:=Z ?_)
 exact AF (k1 Nt) h
theorem Jk (n:Nat):(∀a0 a1 u r,Bn n a0 a1 u=some r→Aa Tryz.prog Tryz.f266 [1,1,0,1,0] (.bool r) ⟨[(0,.ro (a0.map Address.ds)),(1,.ro (a1.map Address.ds)),(12,.int .i64 (a0.length:Int)),(13,.int .i64 u)],[],[]⟩):=by
 induction n with
 |zero=>exact((fun _ _ _ _ h=>by rw [Bn] at h; cases h))
 | succ n ih=>
  have ih0:=ih
  ·intro a0 a1 u r h
   rw [Bn] at h
   exact AF (k1 ih0) h
theorem LM (a0 a1 r) (h:DG a0 a1=some r):AC Tryz.prog 266 [.ro (a0.map Address.ds),.ro (a1.map Address.ds)] (.bool r):=by
 unfold DG at h
 refine acF Tryz.func266 mixed (h:=Z ?_)
 exact AF (k1 Jk) h
theorem Ka (a0 a1 r) (h:Em a0 a1=some r):AC Tryz.prog 231 [.agg (ShardCell.avs a0),.agg (ShardCell.avs a1)] (.bool r):=by
 unfold Em at h
 refine acF Tryz.func231 mixed (h:=Z ?_)
 exact AF (k2 RN LM) h
theorem E5 (a0 r) (h:CA a0=some r):AC Tryz.prog 80 [.ro (a0.map AB)] (.ow (some 1) (r.map AB)):=by
 unfold CA at h
 refine acF Tryz.func80 mixed (h:=Z ?_)
 refine Wf (by simp only [go_sem]) (fun h0=>?_) ?_
 ·try simp only [go_sem]
  have hq_:=List.map_eq_nil_iff.1 h0
  obtain rfl:=hq_
  obtain rfl:r=[] :=by cases h; rfl
  simp only [go_sem]
 ·try simp only [go_sem]
  refine AW ?_
  replace h:=AD h; obtain⟨u,w,h⟩:=h
  have hq_:=Al w
  obtain⟨hv4002a,hv4002b⟩:=hq_
  refine BW .no (Z ?_)
  refine Ad (Cu (by intro x; exact⟨rfl,by simp [go_sem,D.flat]⟩) _) (Z ?_)
  refine Ad (by refine⟨?_,?_⟩ <;> (try simp only [List.length_map,List.length_append,List.length_cons,List.length_nil] at*) <;> (try unfold maxLen) <;> omega) (Z ?_)
  refine AP (u.map AB) (by rw [← hv4002b]; simp only [List.map_append,List.map_cons,List.map_nil,List.nil_append,List.append_nil,go_sem,slD]) (Z ?_)
  exact AF trivial h
theorem Tc (a0 r) (h:IQ a0=some r):AC Tryz.prog 246 [.agg (ShardCell.avs a0)] (.agg (Agent.rv r)):=by
 unfold IQ at h
 refine acF Tryz.func246 mixed (h:=Z ?_)
 refine AW ?_
 refine CT [false,false,false,false,false,false,false,false,false,false,false,false,false,false,false,true] (Tr.sq [15] .fin) (by kernel_rfl) (Z ?_)
 replace h:=AD h; obtain⟨u,w,h⟩:=h
 refine AY (E5 _ _ w) (Z ?_)
 replace h:=AD h; obtain⟨y,q,h⟩:=h
 have hq_:=D6 q
 obtain⟨hv2013a,hv2013b,hv2013c⟩:=hq_
 refine Ad (by refine⟨?_,?_,?_⟩ <;> omega) (Z ?_)
 refine BW .no (Z ?_)
 refine AP (y.map Port.ds) (by rw [← hv2013c]; simp only [List.map_replicate,go_sem,Port.ds_eq]) (Z ?_)
 exact AF trivial h
theorem Jc (a0 r) (h:EK a0=some r):AC Tryz.prog 200 [.agg (ShardCell.avs a0)] (.bool r):=by
 unfold EK at h
 refine acF Tryz.func200 mixed (h:=Z ?_)
 exact AF (k3 Ka Tc TK) h
theorem RO (a0 r) (h:IR a0=some r):AC Tryz.prog 199 [.agg (ShardCell.avs a0)] (.bool r):=by
 unfold IR at h
 refine acF Tryz.func199 mixed (h:=Z ?_)
 exact AF (k1 Jc) h
theorem IZ (n:Nat):(∀ (a0:List ShardVar) (u:Int) (f1:(ShardVar→Option Bool)) (g1:FuncId) (c1:List AV) (s1:Still c1) (h1:∀ (y0:ShardVar) (q:Bool),f1 y0=some q→AC Tryz.prog g1 (fnA c1 [.agg (ShardVar.avs y0)]) (.bool q)) (r:Int),Aw n a0 u f1=some r→Aa Tryz.prog Tryz.f247 [1,0,1,0] (.int .i64 r) ⟨[(0,.ro (a0.map ShardVar.ds)),(1,.fn g1 c1),(7,.int .i64 (a0.length:Int)),(8,.int .i64 u)],[],[]⟩):=by
 induction n with
 |zero=>exact((fun _ _ _ _ _ _ _ _ h=>by rw [Aw] at h; cases h))
 | succ n ih=>
  have ih0:=ih
  ·intro a0 u f1 g1 c1 s1 h1 r h
   rw [Aw] at h
   refine Ah rfl rfl ?_
   try simp only [go_sem,s1.k,s1.r,s1.c,s1.p,s1.o,s1.f]
   refine Ae ?_
   try simp only [go_sem,s1.k,s1.r,s1.c,s1.p,s1.o,s1.f]
   refine AJ h (fun h=>?_) (fun h=>?_)
   ·try simp only [go_sem,s1.k,s1.r,s1.c,s1.p,s1.o,s1.f]
    refine Bv ?_
    try simp only [go_sem,s1.k,s1.r,s1.c,s1.p,s1.o,s1.f]
    replace h:=AD h; obtain⟨w,y,h⟩:=h
    refine AO y (ShardVar.ds_len _) ?_
    try simp only [go_sem,s1.k,s1.r,s1.c,s1.p,s1.o,s1.f]
    replace h:=AD h; obtain⟨g,j,h⟩:=h
    refine AY (h1 _ _ j) ?_
    try simp only [go_sem,s1.k,s1.r,s1.c,s1.p,s1.o,s1.f]
    refine Bv ?_
    try simp only [go_sem,s1.k,s1.r,s1.c,s1.p,s1.o,s1.f]
    refine AJ h (fun h=>?_) (fun h=>?_)
    ·try simp only [go_sem,s1.k,s1.r,s1.c,s1.p,s1.o,s1.f]
     cases h
     simp only [go_sem,s1.k,s1.r,s1.c,s1.p,s1.o,s1.f]
    ·try simp only [go_sem,s1.k,s1.r,s1.c,s1.p,s1.o,s1.f]
     refine Bv ?_
     try simp only [go_sem,s1.k,s1.r,s1.c,s1.p,s1.o,s1.f]
     refine QU (CH rfl rfl (ih0 a0 (IntKind.i64.wrap (u+1)) f1 g1 c1 s1 h1 _ h):) (.one ⟨_,.done _,[],[],?_⟩)
     try simp only [go_sem,s1.k,s1.r,s1.c,s1.p,s1.o,s1.f]
   ·try simp only [go_sem,s1.k,s1.r,s1.c,s1.p,s1.o,s1.f]
    refine Bv ?_
    try simp only [go_sem,s1.k,s1.r,s1.c,s1.p,s1.o,s1.f]
    cases h
    simp only [go_sem,s1.k,s1.r,s1.c,s1.p,s1.o,s1.f]
theorem JR (a0:List ShardVar) (f1:(ShardVar→Option Bool)) (g1:FuncId) (c1:List AV) (s1:Still c1) (h1:∀ (y0:ShardVar) (q:Bool),f1 y0=some q→AC Tryz.prog g1 (fnA c1 [.agg (ShardVar.avs y0)]) (.bool q)) (r:Int) (h:Ed a0 f1=some r):AC Tryz.prog 247 [.ro (a0.map ShardVar.ds),.fn g1 c1] (.int .i64 r):=by
 unfold Ed at h
 refine acF Tryz.func247 mixed (h:=?_)
 try simp only [go_sem,s1.k,s1.r,s1.c,s1.p,s1.o,s1.f]
 refine CX (CH rfl rfl (IZ fuel a0 0 f1 g1 c1 s1 h1 _ h):) (.one ⟨_,.done _,[],[],?_⟩)
 try simp only [go_sem,s1.k,s1.r,s1.c,s1.p,s1.o,s1.f]
theorem Ia (a0:List ShardVar) (f1:(ShardVar→Option Bool)) (g1:FuncId) (c1:List AV) (s1:Still c1) (h1:∀ (y0:ShardVar) (q:Bool),f1 y0=some q→AC Tryz.prog g1 (fnA c1 [.agg (ShardVar.avs y0)]) (.bool q)) (r:Bool) (h:CP a0 f1=some r):AC Tryz.prog 201 [.ro (a0.map ShardVar.ds),.fn g1 c1] (.bool r):=by
 unfold CP at h
 refine acF Tryz.func201 mixed (h:=?_)
 try simp only [go_sem,s1.k,s1.r,s1.c,s1.p,s1.o,s1.f]
 replace h:=AD h; obtain⟨u,w,h⟩:=h
 refine AY (JR _ _ g1 c1 s1 h1 _ w) ?_
 try simp only [go_sem,s1.k,s1.r,s1.c,s1.p,s1.o,s1.f]
 refine Bv ?_
 try simp only [go_sem,s1.k,s1.r,s1.c,s1.p,s1.o,s1.f]
 cases h
 simp only [go_sem,s1.k,s1.r,s1.c,s1.p,s1.o,s1.f]
theorem P0 (a0 r) (h:HZ a0=some r):AC Tryz.prog 203 [.agg (ShardVar.avs a0)] (.bool r):=by
 unfold HZ at h
 refine acF Tryz.func203 mixed (h:=Z ?_)
 exact AF trivial h
theorem RP (a0 r) (h:Gt a0=some r):AC Tryz.prog 202 [.agg (ShardVar.avs a0)] (.bool r):=by
 unfold Gt at h
 refine acF Tryz.func202 mixed (h:=Z ?_)
 exact AF (k1 P0) h
theorem P1 (a0:Shard) (u:Bool) (r:Bool) (h:DE a0 u=some r):Aa Tryz.prog Tryz.f144 [1,0,1] (.bool r) ⟨[(1,.box 1000000500 0),(18,.bool u)],[],[(1000000500,some (Shard.avs a0))]⟩:=by
 unfold DE at h
 refine Ah rfl rfl (Z ?_)
 refine AJ h (fun h=>Z ?_) (fun h=>Z ?_)
 ·exact AF trivial h
 ·refine AW ?_
  replace h:=AD h; obtain⟨w,y,h⟩:=h
  refine AY (H0 _ _ 199 [] (Still.of rfl) (fun y0 q hq=>RO y0  q hq) _ y) (Z ?_)
  refine AJ h (fun h=>Z ?_) (fun h=>Z ?_)
  ·replace h:=AD h; obtain⟨g,j,h⟩:=h
   refine AY (Ia _ _ 202 [] (Still.of rfl) (fun y0 q hq=>RP y0  q hq) _ j) (Z ?_)
   exact AF trivial h
  ·exact AF trivial h
theorem TB (a0 r) (h:IA a0=some r):AC Tryz.prog 144 [.agg (Shard.avs a0)] (.bool r):=by
 unfold IA at h
 refine acF Tryz.func144 mixed (h:=Z ?_)
 exact AF (k1 P1) h
end Go.Proofs.YtclmbjbbojdojaaGreat.Ab
