/-
 The functions do what their models say. Printed by wip/ab/gen.py.
-/
import Derived.Test.YtclmbjbbojdojaaGreatModY
import Derived.Test.YtclmbjbbojdojaaGreatTi2
import Derived.Test.YtclmbjbbojdojaaGreatWlkU
import Derived.Test.YtclmbjbbojdojaaGreatWlkW
namespace Go.Proofs.YtclmbjbbojdojaaGreat.Ab
set_option linter.unusedVariables false
set_option linter.unusedSimpArgs false
set_option maxRecDepth 20000
set_option maxHeartbeats 4000000
open Go.RowKit
theorem XF (a0 r) (h:Ln a0=some r):AC Tryz.prog 74 [.ro (a0.map AB)] (.ow (some 1) (r.map AB)):=by
 unfold Ln at h
 refine acF Tryz.func74 mixed (h:=Z ?_)
 replace h:=AD h; obtain⟨u,w,h⟩:=h
 have hq_:=B8 w
 obtain⟨hv2002a,hv2002b⟩:=hq_
 refine C3 .no (Z ?_)
 refine B4 (Kr (by intro x; exact⟨rfl,by simp [go_sem,D.flat]⟩) _) (Z ?_)
 refine B4 (by refine⟨?_,?_⟩ <;> (try simp only [List.length_map,List.length_append,List.length_cons,List.length_nil] at*) <;> (try unfold maxLen) <;> omega) (Z ?_)
 refine Bo (u.map AB) (by rw [← hv2002b]; simp only [List.map_append,List.map_cons,List.map_nil,List.nil_append,List.append_nil,go_sem,slD]) (Z ?_)
 exact AJ trivial h
theorem G9 (n:Nat):(∀ (a0:List ShardCell) (u:Int) (f1:(ShardCell→Option Bool)) (g1:FuncId) (c1:List AV) (s1:Still c1) (h1:∀ (y0:ShardCell) (q:Bool),f1 y0=some q→AC Tryz.prog g1 (fnA c1 [.agg (ShardCell.avs y0)]) (.bool q)) (r:Int),Am n a0 u f1=some r→Ac Tryz.prog Tryz.f245 [1,0,1,0] (.int .i64 r) ⟨[(0,.ro (a0.map ShardCell.ds)),(1,.fn g1 c1),(7,.int .i64 (a0.length:Int)),(8,.int .i64 u)],[],[]⟩):=by
 induction n with
 |zero=>exact((fun _ _ _ _ _ _ _ _ h=>by rw [Am] at h; cases h))
 | succ n ih=>
  have ih0:=ih
  ·intro a0 u f1 g1 c1 s1 h1 r h
   rw [Am] at h
   refine AR rfl rfl ?_
   try simp only [go_sem,s1.k,s1.r,s1.c,s1.p,s1.o,s1.f]
   refine AY ?_
   try simp only [go_sem,s1.k,s1.r,s1.c,s1.p,s1.o,s1.f]
   refine AH h (fun h=>?_) (fun h=>?_)
   ·try simp only [go_sem,s1.k,s1.r,s1.c,s1.p,s1.o,s1.f]
    refine BF ?_
    try simp only [go_sem,s1.k,s1.r,s1.c,s1.p,s1.o,s1.f]
    replace h:=AD h; obtain⟨w,y,h⟩:=h
    refine Ad y (ShardCell.ds_len _) ?_
    try simp only [go_sem,s1.k,s1.r,s1.c,s1.p,s1.o,s1.f]
    replace h:=AD h; obtain⟨g,j,h⟩:=h
    refine AK (h1 _ _ j) ?_
    try simp only [go_sem,s1.k,s1.r,s1.c,s1.p,s1.o,s1.f]
    refine BF ?_
    try simp only [go_sem,s1.k,s1.r,s1.c,s1.p,s1.o,s1.f]
    refine AH h (fun h=>?_) (fun h=>?_)
    ·try simp only [go_sem,s1.k,s1.r,s1.c,s1.p,s1.o,s1.f]
     cases h
     simp only [go_sem,s1.k,s1.r,s1.c,s1.p,s1.o,s1.f]
    ·try simp only [go_sem,s1.k,s1.r,s1.c,s1.p,s1.o,s1.f]
     refine BF ?_
     try simp only [go_sem,s1.k,s1.r,s1.c,s1.p,s1.o,s1.f]
     refine My (Ck rfl rfl (ih0 a0 (IntKind.i64.wrap (u+1)) f1 g1 c1 s1 h1 _ h):) (.one ⟨_,.done _,[],[],?_⟩)
     try simp only [go_sem,s1.k,s1.r,s1.c,s1.p,s1.o,s1.f]
   ·try simp only [go_sem,s1.k,s1.r,s1.c,s1.p,s1.o,s1.f]
    refine BF ?_
    try simp only [go_sem,s1.k,s1.r,s1.c,s1.p,s1.o,s1.f]
    cases h
    simp only [go_sem,s1.k,s1.r,s1.c,s1.p,s1.o,s1.f]
theorem H1 (a0:List ShardCell) (f1:(ShardCell→Option Bool)) (g1:FuncId) (c1:List AV) (s1:Still c1) (h1:∀ (y0:ShardCell) (q:Bool),f1 y0=some q→AC Tryz.prog g1 (fnA c1 [.agg (ShardCell.avs y0)]) (.bool q)) (r:Int) (h:Dc a0 f1=some r):AC Tryz.prog 245 [.ro (a0.map ShardCell.ds),.fn g1 c1] (.int .i64 r):=by
 unfold Dc at h
 refine acF Tryz.func245 mixed (h:=?_)
 try simp only [go_sem,s1.k,s1.r,s1.c,s1.p,s1.o,s1.f]
 refine DW (Ck rfl rfl (G9 fuel a0 0 f1 g1 c1 s1 h1 _ h):) (.one ⟨_,.done _,[],[],?_⟩)
 try simp only [go_sem,s1.k,s1.r,s1.c,s1.p,s1.o,s1.f]
theorem HA (a0:List ShardCell) (f1:(ShardCell→Option Bool)) (g1:FuncId) (c1:List AV) (s1:Still c1) (h1:∀ (y0:ShardCell) (q:Bool),f1 y0=some q→AC Tryz.prog g1 (fnA c1 [.agg (ShardCell.avs y0)]) (.bool q)) (r:Bool) (h:B1 a0 f1=some r):AC Tryz.prog 198 [.ro (a0.map ShardCell.ds),.fn g1 c1] (.bool r):=by
 unfold B1 at h
 refine acF Tryz.func198 mixed (h:=?_)
 try simp only [go_sem,s1.k,s1.r,s1.c,s1.p,s1.o,s1.f]
 replace h:=AD h; obtain⟨u,w,h⟩:=h
 refine AK (H1 _ _ g1 c1 s1 h1 _ w) ?_
 try simp only [go_sem,s1.k,s1.r,s1.c,s1.p,s1.o,s1.f]
 refine BF ?_
 try simp only [go_sem,s1.k,s1.r,s1.c,s1.p,s1.o,s1.f]
 cases h
 simp only [go_sem,s1.k,s1.r,s1.c,s1.p,s1.o,s1.f]
theorem ML (n:Nat):(∀a0 a1 u r,DH n a0 a1 u=some r→Ac Tryz.prog Tryz.f265 [1,1,0,1,0] (.bool r) ⟨[(0,.ro (a0.map AB)),(1,.ro (a1.map AB)),(12,.int .i64 (a0.length:Int)),(13,.int .i64 u)],[],[]⟩):=by
 induction n with
 |zero=>exact((fun _ _ _ _ h=>by rw [DH] at h; cases h))
 | succ n ih=>
  have ih0:=ih
  ·intro a0 a1 u r h
   rw [DH] at h
   refine AR rfl rfl (Z ?_)
   refine AY (Z ?_)
   refine AH h (fun h=>Z ?_) (fun h=>Z ?_)
   ·refine AL ?_
    refine Ah [] .fin (by kernel_rfl) (Z ?_)
    exact AJ (k1 ih0) h
   ·exact AJ trivial h
theorem Pc (a0 a1 r) (h:Fw a0 a1=some r):AC Tryz.prog 265 [.ro (a0.map AB),.ro (a1.map AB)] (.bool r):=by
 unfold Fw at h
 refine acF Tryz.func265 mixed (h:=Z ?_)
 exact AJ (k1 ML) h
theorem Ip (n:Nat):(∀a0 a1 u r,Bh n a0 a1 u=some r→Ac Tryz.prog Tryz.f266 [1,1,0,1,0] (.bool r) ⟨[(0,.ro (a0.map Address.ds)),(1,.ro (a1.map Address.ds)),(12,.int .i64 (a0.length:Int)),(13,.int .i64 u)],[],[]⟩):=by
 induction n with
 |zero=>exact((fun _ _ _ _ h=>by rw [Bh] at h; cases h))
 | succ n ih=>
  have ih0:=ih
  ·intro a0 a1 u r h
   rw [Bh] at h
   refine AR rfl rfl (Z ?_)
   refine AY (Z ?_)
   refine AH h (fun h=>Z ?_) (fun h=>Z ?_)
   ·refine AL ?_
    refine Ah [] .fin (by kernel_rfl) (Z ?_)
    exact AJ (k1 ih0) h
   ·exact AJ trivial h
theorem KC (a0 a1 r) (h:Cn a0 a1=some r):AC Tryz.prog 266 [.ro (a0.map Address.ds),.ro (a1.map Address.ds)] (.bool r):=by
 unfold Cn at h
 refine acF Tryz.func266 mixed (h:=Z ?_)
 exact AJ (k1 Ip) h
theorem Ge (a0 a1 r) (h:Ce a0 a1=some r):AC Tryz.prog 231 [.agg (ShardCell.avs a0),.agg (ShardCell.avs a1)] (.bool r):=by
 unfold Ce at h
 refine acF Tryz.func231 mixed (h:=Z ?_)
 exact AJ (k2 Pc KC) h
theorem Pd (a0 r) (h:HL a0=some r):AC Tryz.prog 80 [.ro (a0.map AB)] (.ow (some 1) (r.map AB)):=by
 unfold HL at h
 refine acF Tryz.func80 mixed (h:=Z ?_)
 refine lo (by simp only [go_sem]) (fun h0=>?_) ?_
 ·try simp only [go_sem]
  have hq_:=List.map_eq_nil_iff.1 h0
  obtain rfl:=hq_
  obtain rfl:r=[] :=by cases h; rfl
  simp only [go_sem]
 ·try simp only [go_sem]
  refine AL ?_
  replace h:=AD h; obtain⟨u,w,h⟩:=h
  have hq_:=B8 w
  obtain⟨hv4002a,hv4002b⟩:=hq_
  refine C3 .no (Z ?_)
  refine B4 (Kr (by intro x; exact⟨rfl,by simp [go_sem,D.flat]⟩) _) (Z ?_)
  refine B4 (by refine⟨?_,?_⟩ <;> (try simp only [List.length_map,List.length_append,List.length_cons,List.length_nil] at*) <;> (try unfold maxLen) <;> omega) (Z ?_)
  refine Bo (u.map AB) (by rw [← hv4002b]; simp only [List.map_append,List.map_cons,List.map_nil,List.nil_append,List.append_nil,go_sem,slD]) (Z ?_)
  exact AJ trivial h
theorem RQ (a0 r) (h:HM a0=some r):AC Tryz.prog 246 [.agg (ShardCell.avs a0)] (.agg (Agent.rv r)):=by
 unfold HM at h
 refine acF Tryz.func246 mixed (h:=Z ?_)
 refine AL ?_
 refine Ah [false,false,false,false,false,false,false,false,false,false,false,false,false,false,false,true] (Tr.sq [15] .fin) (by kernel_rfl) (Z ?_)
 replace h:=AD h; obtain⟨u,w,h⟩:=h
 refine AK (Pd _ _ w) (Z ?_)
 replace h:=AD h; obtain⟨y,q,h⟩:=h
 have hq_:=EF q
 obtain⟨hv2013a,hv2013b,hv2013c⟩:=hq_
 refine B4 (by refine⟨?_,?_,?_⟩ <;> omega) (Z ?_)
 refine C3 .no (Z ?_)
 refine Bo (y.map Port.ds) (by rw [← hv2013c]; simp only [List.map_replicate,go_sem,Port.ds_eq]) (Z ?_)
 exact AJ trivial h
theorem Ih (a0 r) (h:Dg a0=some r):AC Tryz.prog 200 [.agg (ShardCell.avs a0)] (.bool r):=by
 unfold Dg at h
 refine acF Tryz.func200 mixed (h:=Z ?_)
 exact AJ (k3 Ge RQ RD) h
theorem Pe (a0 r) (h:HN a0=some r):AC Tryz.prog 199 [.agg (ShardCell.avs a0)] (.bool r):=by
 unfold HN at h
 refine acF Tryz.func199 mixed (h:=Z ?_)
 exact AJ (k1 Ih) h
theorem HV (n:Nat):(∀ (a0:List ShardVar) (u:Int) (f1:(ShardVar→Option Bool)) (g1:FuncId) (c1:List AV) (s1:Still c1) (h1:∀ (y0:ShardVar) (q:Bool),f1 y0=some q→AC Tryz.prog g1 (fnA c1 [.agg (ShardVar.avs y0)]) (.bool q)) (r:Int),Aq n a0 u f1=some r→Ac Tryz.prog Tryz.f247 [1,0,1,0] (.int .i64 r) ⟨[(0,.ro (a0.map ShardVar.ds)),(1,.fn g1 c1),(7,.int .i64 (a0.length:Int)),(8,.int .i64 u)],[],[]⟩):=by
 induction n with
 |zero=>exact((fun _ _ _ _ _ _ _ _ h=>by rw [Aq] at h; cases h))
 | succ n ih=>
  have ih0:=ih
  ·intro a0 u f1 g1 c1 s1 h1 r h
   rw [Aq] at h
   refine AR rfl rfl ?_
   try simp only [go_sem,s1.k,s1.r,s1.c,s1.p,s1.o,s1.f]
   refine AY ?_
   try simp only [go_sem,s1.k,s1.r,s1.c,s1.p,s1.o,s1.f]
   refine AH h (fun h=>?_) (fun h=>?_)
   ·try simp only [go_sem,s1.k,s1.r,s1.c,s1.p,s1.o,s1.f]
    refine BF ?_
    try simp only [go_sem,s1.k,s1.r,s1.c,s1.p,s1.o,s1.f]
    replace h:=AD h; obtain⟨w,y,h⟩:=h
    refine Ad y (ShardVar.ds_len _) ?_
    try simp only [go_sem,s1.k,s1.r,s1.c,s1.p,s1.o,s1.f]
    replace h:=AD h; obtain⟨g,j,h⟩:=h
    refine AK (h1 _ _ j) ?_
    try simp only [go_sem,s1.k,s1.r,s1.c,s1.p,s1.o,s1.f]
    refine BF ?_
    try simp only [go_sem,s1.k,s1.r,s1.c,s1.p,s1.o,s1.f]
    refine AH h (fun h=>?_) (fun h=>?_)
    ·try simp only [go_sem,s1.k,s1.r,s1.c,s1.p,s1.o,s1.f]
     cases h
     simp only [go_sem,s1.k,s1.r,s1.c,s1.p,s1.o,s1.f]
    ·try simp only [go_sem,s1.k,s1.r,s1.c,s1.p,s1.o,s1.f]
     refine BF ?_
     try simp only [go_sem,s1.k,s1.r,s1.c,s1.p,s1.o,s1.f]
     refine My (Ck rfl rfl (ih0 a0 (IntKind.i64.wrap (u+1)) f1 g1 c1 s1 h1 _ h):) (.one ⟨_,.done _,[],[],?_⟩)
     try simp only [go_sem,s1.k,s1.r,s1.c,s1.p,s1.o,s1.f]
   ·try simp only [go_sem,s1.k,s1.r,s1.c,s1.p,s1.o,s1.f]
    refine BF ?_
    try simp only [go_sem,s1.k,s1.r,s1.c,s1.p,s1.o,s1.f]
    cases h
    simp only [go_sem,s1.k,s1.r,s1.c,s1.p,s1.o,s1.f]
theorem IR (a0:List ShardVar) (f1:(ShardVar→Option Bool)) (g1:FuncId) (c1:List AV) (s1:Still c1) (h1:∀ (y0:ShardVar) (q:Bool),f1 y0=some q→AC Tryz.prog g1 (fnA c1 [.agg (ShardVar.avs y0)]) (.bool q)) (r:Int) (h:Dy a0 f1=some r):AC Tryz.prog 247 [.ro (a0.map ShardVar.ds),.fn g1 c1] (.int .i64 r):=by
 unfold Dy at h
 refine acF Tryz.func247 mixed (h:=?_)
 try simp only [go_sem,s1.k,s1.r,s1.c,s1.p,s1.o,s1.f]
 refine DW (Ck rfl rfl (HV fuel a0 0 f1 g1 c1 s1 h1 _ h):) (.one ⟨_,.done _,[],[],?_⟩)
 try simp only [go_sem,s1.k,s1.r,s1.c,s1.p,s1.o,s1.f]
theorem HW (a0:List ShardVar) (f1:(ShardVar→Option Bool)) (g1:FuncId) (c1:List AV) (s1:Still c1) (h1:∀ (y0:ShardVar) (q:Bool),f1 y0=some q→AC Tryz.prog g1 (fnA c1 [.agg (ShardVar.avs y0)]) (.bool q)) (r:Bool) (h:B6 a0 f1=some r):AC Tryz.prog 201 [.ro (a0.map ShardVar.ds),.fn g1 c1] (.bool r):=by
 unfold B6 at h
 refine acF Tryz.func201 mixed (h:=?_)
 try simp only [go_sem,s1.k,s1.r,s1.c,s1.p,s1.o,s1.f]
 replace h:=AD h; obtain⟨u,w,h⟩:=h
 refine AK (IR _ _ g1 c1 s1 h1 _ w) ?_
 try simp only [go_sem,s1.k,s1.r,s1.c,s1.p,s1.o,s1.f]
 refine BF ?_
 try simp only [go_sem,s1.k,s1.r,s1.c,s1.p,s1.o,s1.f]
 cases h
 simp only [go_sem,s1.k,s1.r,s1.c,s1.p,s1.o,s1.f]
theorem OF (a0 r) (h:GX a0=some r):AC Tryz.prog 203 [.agg (ShardVar.avs a0)] (.bool r):=by
 unfold GX at h
 refine acF Tryz.func203 mixed (h:=Z ?_)
 exact AJ trivial h
theorem Pf (a0 r) (h:Fx a0=some r):AC Tryz.prog 202 [.agg (ShardVar.avs a0)] (.bool r):=by
 unfold Fx at h
 refine acF Tryz.func202 mixed (h:=Z ?_)
 exact AJ (k1 OF) h
theorem Gj (a0:Shard) (u:Bool) (r:Bool) (h:Cj a0 u=some r):Ac Tryz.prog Tryz.f144 [1,0,1] (.bool r) ⟨[(1,.box 1000000500 0),(18,.bool u)],[],[(1000000500,some (Shard.avs a0))]⟩:=by
 unfold Cj at h
 refine AR rfl rfl (Z ?_)
 refine AH h (fun h=>Z ?_) (fun h=>Z ?_)
 ·exact AJ trivial h
 ·refine AL ?_
  replace h:=AD h; obtain⟨w,y,h⟩:=h
  refine AK (HA _ _ 199 [] (Still.of rfl) (fun y0 q hq=>Pe y0  q hq) _ y) (Z ?_)
  refine AH h (fun h=>Z ?_) (fun h=>Z ?_)
  ·replace h:=AD h; obtain⟨g,j,h⟩:=h
   refine AK (HW _ _ 202 [] (Still.of rfl) (fun y0 q hq=>Pf y0  q hq) _ j) (Z ?_)
   exact AJ trivial h
  ·exact AJ trivial h
theorem K8 (a0 r) (h:F8 a0=some r):AC Tryz.prog 144 [.agg (Shard.avs a0)] (.bool r):=by
 unfold F8 at h
 refine acF Tryz.func144 mixed (h:=Z ?_)
 refine AH h (fun h=>Z ?_) (fun h=>Z ?_)
 ·exact ES (Gj a0 true _ h) [] [(1000000500,1000)]
 ·refine AH h (fun h=>Z ?_) (fun h=>Z ?_)
  ·exact ES (Gj a0 true _ h) [] [(1000000500,1000)]
  ·exact ES (Gj a0 (decide (400<(a0.redexes.length:Int))) _ h) [] [(1000000500,1000)]
end Go.Proofs.YtclmbjbbojdojaaGreat.Ab
