/-
 The functions do what their models say. Printed by wip/ab/gen.py.
-/
import Derived.Test.YtclmbjbbojdojaaGreatModI
import Derived.Test.YtclmbjbbojdojaaGreatTi2
import Derived.Test.YtclmbjbbojdojaaGreatManM
import Derived.Test.YtclmbjbbojdojaaGreatWlkY
namespace Go.Proofs.YtclmbjbbojdojaaGreat.Ab
set_option linter.defProp false
set_option linter.unusedVariables false
set_option linter.unusedSimpArgs false
set_option maxRecDepth 20000
set_option maxHeartbeats 4000000
open Go.RowKit
theorem D3 (a0 r) (h:BX a0=some r):AC Tryz.prog 51 [.rop (Cluster.avs a0) 0] (.int .i64 r):=by
 unfold BX at h
 refine acF Tryz.func51 mixed (h:=Z ?_)
 exact AJ trivial h
theorem TZ (a0 a1 r) (h:Kt a0 a1=some r):AC Tryz.prog 122 [.int .i64 a0,.rop [.int .i64 a1] 0] (.bool r):=by
 unfold Kt at h
 refine acF Tryz.func122 mixed (h:=Z ?_)
 exact AJ trivial h
theorem Jy (a0 a1 r) (h:IA a0 a1=some r):AC Tryz.prog 52 [.int .i64 a0,.ro (a1.map AB)] (.bool r):=by
 unfold IA at h
 refine acF Tryz.func52 mixed (h:=Z ?_)
 replace h:=AD h; obtain⟨u,w,h⟩:=h
 refine AK (GV _ _ 122 [.agg [],.rop [.int .i64 a0] 0] (Still.of (by simp only [EN,Fi,Bool.and_true,Bool.true_and,Bool.and_self])) (fun y0 q hq=>TZ y0 _ q hq) _ w) (Z ?_)
 exact AJ trivial h
theorem Hy (n:Nat):(∀ (a0:List Parcel) (u:Int) (f1:(Parcel→Option Bool)) (g1:FuncId) (c1:List AV) (s1:Still c1) (h1:∀ (y0:Parcel) (q:Bool),f1 y0=some q→AC Tryz.prog g1 (fnA c1 [.agg (Parcel.avs y0)]) (.bool q)) (r:Int),A2 n a0 u f1=some r→Ac Tryz.prog Tryz.f230 [1,0,1,0] (.int .i64 r) ⟨[(0,.ro (a0.map Parcel.ds)),(1,.fn g1 c1),(7,.int .i64 (a0.length:Int)),(8,.int .i64 u)],[],[]⟩):=by
 induction n with
 |zero=>exact((fun _ _ _ _ _ _ _ _ h=>by rw [A2] at h; cases h))
 | succ n ih=>
  have ih0:=ih
  ·intro a0 u f1 g1 c1 s1 h1 r h
   rw [A2] at h
   refine AR rfl rfl ?_
   try simp only [go_sem,s1.k,s1.r,s1.c,s1.p,s1.o,s1.f]
   refine AY ?_
   try simp only [go_sem,s1.k,s1.r,s1.c,s1.p,s1.o,s1.f]
   refine AH h (fun h=>?_) (fun h=>?_)
   ·try simp only [go_sem,s1.k,s1.r,s1.c,s1.p,s1.o,s1.f]
    refine BF ?_
    try simp only [go_sem,s1.k,s1.r,s1.c,s1.p,s1.o,s1.f]
    replace h:=AD h; obtain⟨w,y,h⟩:=h
    refine Ad y (Parcel.ds_len _) ?_
    try simp only [go_sem,s1.k,s1.r,s1.c,s1.p,s1.o,s1.f]
    replace h:=AD h; obtain⟨g,j,h⟩:=h
    refine AK (h1 _ _ j) ?_
    try simp only [go_sem,s1.k,s1.r,s1.c,s1.p,s1.o,s1.f]
    refine BF ?_
    try simp only [go_sem,s1.k,s1.r,s1.c,s1.p,s1.o,s1.f]
    refine AH h (fun h=>?_) (fun h=>?_)
    ·try simp only [go_sem,s1.k,s1.r,s1.c,s1.p,s1.o,s1.f]
     cases h
     simp only [go_sem,s1.k,s1.r,s1.c,s1.p,s1.o,s1.f]
    ·try simp only [go_sem,s1.k,s1.r,s1.c,s1.p,s1.o,s1.f]
     refine BF ?_
     try simp only [go_sem,s1.k,s1.r,s1.c,s1.p,s1.o,s1.f]
     refine My (Ck rfl rfl (ih0 a0 (IntKind.i64.wrap (u+1)) f1 g1 c1 s1 h1 _ h):) (.one ⟨_,.done _,[],[],?_⟩)
     try simp only [go_sem,s1.k,s1.r,s1.c,s1.p,s1.o,s1.f]
   ·try simp only [go_sem,s1.k,s1.r,s1.c,s1.p,s1.o,s1.f]
    refine BF ?_
    try simp only [go_sem,s1.k,s1.r,s1.c,s1.p,s1.o,s1.f]
    cases h
    simp only [go_sem,s1.k,s1.r,s1.c,s1.p,s1.o,s1.f]
theorem In (a0:List Parcel) (f1:(Parcel→Option Bool)) (g1:FuncId) (c1:List AV) (s1:Still c1) (h1:∀ (y0:Parcel) (q:Bool),f1 y0=some q→AC Tryz.prog g1 (fnA c1 [.agg (Parcel.avs y0)]) (.bool q)) (r:Int) (h:EV a0 f1=some r):AC Tryz.prog 230 [.ro (a0.map Parcel.ds),.fn g1 c1] (.int .i64 r):=by
 unfold EV at h
 refine acF Tryz.func230 mixed (h:=?_)
 try simp only [go_sem,s1.k,s1.r,s1.c,s1.p,s1.o,s1.f]
 refine DW (Ck rfl rfl (Hy fuel a0 0 f1 g1 c1 s1 h1 _ h):) (.one ⟨_,.done _,[],[],?_⟩)
 try simp only [go_sem,s1.k,s1.r,s1.c,s1.p,s1.o,s1.f]
theorem Ex (a0:List Parcel) (f1:(Parcel→Option Bool)) (g1:FuncId) (c1:List AV) (s1:Still c1) (h1:∀ (y0:Parcel) (q:Bool),f1 y0=some q→AC Tryz.prog g1 (fnA c1 [.agg (Parcel.avs y0)]) (.bool q)) (r:Bool) (h:BJ a0 f1=some r):AC Tryz.prog 166 [.ro (a0.map Parcel.ds),.fn g1 c1] (.bool r):=by
 unfold BJ at h
 refine acF Tryz.func166 mixed (h:=?_)
 try simp only [go_sem,s1.k,s1.r,s1.c,s1.p,s1.o,s1.f]
 replace h:=AD h; obtain⟨u,w,h⟩:=h
 refine AK (In _ _ g1 c1 s1 h1 _ w) ?_
 try simp only [go_sem,s1.k,s1.r,s1.c,s1.p,s1.o,s1.f]
 refine BF ?_
 try simp only [go_sem,s1.k,s1.r,s1.c,s1.p,s1.o,s1.f]
 cases h
 simp only [go_sem,s1.k,s1.r,s1.c,s1.p,s1.o,s1.f]
theorem Ig (a0:Parcel) (a1:Int) (u:Bool) (r:Bool) (h:El a0 a1 u=some r):Ac Tryz.prog Tryz.f168 [1,1,0,1] (.bool r) ⟨[(1,.int .i64 a1),(2,.box 1000000500 0),(17,.bool u)],[],[(1000000500,some (Parcel.avs a0))]⟩:=by
 unfold El at h
 exact AJ (k1 Ih) h
theorem QH (a0 a1 r) (h:GQ a0 a1=some r):AC Tryz.prog 168 [.agg (Parcel.avs a0),.int .i64 a1] (.bool r):=by
 unfold GQ at h
 refine acF Tryz.func168 mixed (h:=Z ?_)
 refine AH h (fun h=>Z ?_) (fun h=>Z ?_)
 ·replace h:=AD h; obtain⟨u,w,h⟩:=h
  refine AK (Ge _ _ _ w) (Z ?_)
  exact ES (Ig a0 a1 (!u) _ h) [] [(1000000500,1000)]
 ·exact ES (Ig a0 a1 false _ h) [] [(1000000500,1000)]
theorem IL (a0 a1 r) (h:DG a0 a1=some r):AC Tryz.prog 167 [.agg (Parcel.avs a0),.rop [.int .i64 a1] 0] (.bool r):=by
 unfold DG at h
 refine acF Tryz.func167 mixed (h:=Z ?_)
 exact AJ (k1 QH) h
theorem Ky (n:Nat):(∀a0 a1 u r,Aw n a0 a1 u=some r→Ac Tryz.prog Tryz.f112 [1,1,0,1,0] (.bool r) ⟨[(1,.int .i64 a1),(15,.ro (List.map (slD Parcel.ds) a0)),(16,.int .i64 (a0.length:Int)),(17,.int .i64 u)],[],[]⟩)∧
    (∀a0 a1 u w r,BG n a0 a1 u w=some r→Ac Tryz.prog Tryz.f112 [1,1,0,1,0,0,1,1,0,0,1,1,1] (.bool r) ⟨[(1,.int .i64 a1),(15,.ro (List.map (slD Parcel.ds) a0)),(16,.int .i64 (a0.length:Int)),(17,.int .i64 u),(45,.bool w)],[],[]⟩):=by
 induction n with
 |zero=>exact⟨(fun _ _ _ _ h=>by rw [Aw] at h; cases h),(fun _ _ _ _ _ h=>by rw [BG] at h; cases h)⟩
 | succ n ih=>
  obtain⟨ih0,ih1⟩:=ih
  refine⟨?_,?_⟩
  ·intro a0 a1 u r h
   rw [Aw] at h
   refine AR rfl rfl (Z ?_)
   refine AY (Z ?_)
   refine AH h (fun h=>Z ?_) (fun h=>Z ?_)
   ·refine AL ?_
    replace h:=AD h; obtain⟨y,g,h⟩:=h
    refine Ad g rfl (Z ?_)
    refine Ah [false,false,false,false,false,false,false,false,true] (Tr.sq [8] .fin) (by kernel_rfl) (Z ?_)
    replace h:=AD h; obtain⟨j,k,h⟩:=h
    refine B4 (Oj k) (Z ?_)
    replace h:=AD h; obtain⟨b,d,h⟩:=h
    refine B4 (Oj d) (Z ?_)
    refine AL ?_
    refine AH h (fun h=>Z ?_) (fun h=>Z ?_)
    ·refine AH h (fun h=>Z ?_) (fun h=>Z ?_)
     ·exact AJ (k1 ih1) h
     ·refine AH h (fun h=>Z ?_) (fun h=>Z ?_)
      ·exact AJ (k1 ih1) h
      ·replace h:=AD h; obtain⟨c,e,h⟩:=h
       refine AK (Ex _ _ 167 [.agg [],.rop [.int .i64 (Int.tmod u a1)] 0] (Still.of (by simp only [EN,Fi,Bool.and_true,Bool.true_and,Bool.and_self])) (fun y0 q hq=>IL y0 _ q hq) _ e) (Z ?_)
       exact AJ (k1 ih1) h
    ·refine AH h (fun h=>Z ?_) (fun h=>Z ?_)
     ·exact AJ (k1 ih1) h
     ·replace h:=AD h; obtain⟨c,e,h⟩:=h
      refine AK (Ex _ _ 167 [.agg [],.rop [.int .i64 (Int.tmod u a1)] 0] (Still.of (by simp only [EN,Fi,Bool.and_true,Bool.true_and,Bool.and_self])) (fun y0 q hq=>IL y0 _ q hq) _ e) (Z ?_)
      exact AJ (k1 ih1) h
   ·exact AJ trivial h
  ·intro a0 a1 u w r h
   rw [BG] at h
   exact AJ (k1 ih0) h
def LH (n:Nat):=(Ky n).1
theorem JV (a0 a1 r) (h:EA a0 a1=some r):AC Tryz.prog 112 [.ro (List.map (slD Parcel.ds) a0),.int .i64 a1] (.bool r):=by
 unfold EA at h
 refine acF Tryz.func112 mixed (h:=Z ?_)
 exact AJ (k1 LH) h
theorem Jd (n:Nat):(∀ (a0:List (List Int)) (u:Int) (f1:((List Int)→Option Bool)) (g1:FuncId) (c1:List AV) (s1:Still c1) (h1:∀ (y0:List Int) (q:Bool),f1 y0=some q→AC Tryz.prog g1 (fnA c1 [.ro (y0.map AB)]) (.bool q)) (r:Int),BY n a0 u f1=some r→Ac Tryz.prog Tryz.f169 [1,0,1,0] (.int .i64 r) ⟨[(0,.ro (List.map (slD AB) a0)),(1,.fn g1 c1),(7,.int .i64 (a0.length:Int)),(8,.int .i64 u)],[],[]⟩):=by
 induction n with
 |zero=>exact((fun _ _ _ _ _ _ _ _ h=>by rw [BY] at h; cases h))
 | succ n ih=>
  have ih0:=ih
  ·intro a0 u f1 g1 c1 s1 h1 r h
   rw [BY] at h
   refine AR rfl rfl ?_
   try simp only [go_sem,s1.k,s1.r,s1.c,s1.p,s1.o,s1.f]
   refine AY ?_
   try simp only [go_sem,s1.k,s1.r,s1.c,s1.p,s1.o,s1.f]
   refine AH h (fun h=>?_) (fun h=>?_)
   ·try simp only [go_sem,s1.k,s1.r,s1.c,s1.p,s1.o,s1.f]
    refine BF ?_
    try simp only [go_sem,s1.k,s1.r,s1.c,s1.p,s1.o,s1.f]
    replace h:=AD h; obtain⟨w,y,h⟩:=h
    refine Ad y rfl ?_
    try simp only [go_sem,s1.k,s1.r,s1.c,s1.p,s1.o,s1.f]
    replace h:=AD h; obtain⟨g,j,h⟩:=h
    refine AK (h1 _ _ j) ?_
    try simp only [go_sem,s1.k,s1.r,s1.c,s1.p,s1.o,s1.f]
    refine BF ?_
    try simp only [go_sem,s1.k,s1.r,s1.c,s1.p,s1.o,s1.f]
    refine AH h (fun h=>?_) (fun h=>?_)
    ·try simp only [go_sem,s1.k,s1.r,s1.c,s1.p,s1.o,s1.f]
     cases h
     simp only [go_sem,s1.k,s1.r,s1.c,s1.p,s1.o,s1.f]
    ·try simp only [go_sem,s1.k,s1.r,s1.c,s1.p,s1.o,s1.f]
     refine BF ?_
     try simp only [go_sem,s1.k,s1.r,s1.c,s1.p,s1.o,s1.f]
     refine My (Ck rfl rfl (ih0 a0 (IntKind.i64.wrap (u+1)) f1 g1 c1 s1 h1 _ h):) (.one ⟨_,.done _,[],[],?_⟩)
     try simp only [go_sem,s1.k,s1.r,s1.c,s1.p,s1.o,s1.f]
   ·try simp only [go_sem,s1.k,s1.r,s1.c,s1.p,s1.o,s1.f]
    refine BF ?_
    try simp only [go_sem,s1.k,s1.r,s1.c,s1.p,s1.o,s1.f]
    cases h
    simp only [go_sem,s1.k,s1.r,s1.c,s1.p,s1.o,s1.f]
theorem Kz (a0:List (List Int)) (f1:((List Int)→Option Bool)) (g1:FuncId) (c1:List AV) (s1:Still c1) (h1:∀ (y0:List Int) (q:Bool),f1 y0=some q→AC Tryz.prog g1 (fnA c1 [.ro (y0.map AB)]) (.bool q)) (r:Int) (h:GN a0 f1=some r):AC Tryz.prog 169 [.ro (List.map (slD AB) a0),.fn g1 c1] (.int .i64 r):=by
 unfold GN at h
 refine acF Tryz.func169 mixed (h:=?_)
 try simp only [go_sem,s1.k,s1.r,s1.c,s1.p,s1.o,s1.f]
 refine DW (Ck rfl rfl (Jd fuel a0 0 f1 g1 c1 s1 h1 _ h):) (.one ⟨_,.done _,[],[],?_⟩)
 try simp only [go_sem,s1.k,s1.r,s1.c,s1.p,s1.o,s1.f]
theorem Je (a0:List (List Int)) (f1:((List Int)→Option Bool)) (g1:FuncId) (c1:List AV) (s1:Still c1) (h1:∀ (y0:List Int) (q:Bool),f1 y0=some q→AC Tryz.prog g1 (fnA c1 [.ro (y0.map AB)]) (.bool q)) (r:Bool) (h:DY a0 f1=some r):AC Tryz.prog 113 [.ro (List.map (slD AB) a0),.fn g1 c1] (.bool r):=by
 unfold DY at h
 refine acF Tryz.func113 mixed (h:=?_)
 try simp only [go_sem,s1.k,s1.r,s1.c,s1.p,s1.o,s1.f]
 replace h:=AD h; obtain⟨u,w,h⟩:=h
 refine AK (Kz _ _ g1 c1 s1 h1 _ w) ?_
 try simp only [go_sem,s1.k,s1.r,s1.c,s1.p,s1.o,s1.f]
 refine BF ?_
 try simp only [go_sem,s1.k,s1.r,s1.c,s1.p,s1.o,s1.f]
 cases h
 simp only [go_sem,s1.k,s1.r,s1.c,s1.p,s1.o,s1.f]
theorem IM (a0 r) (h:CS a0=some r):AC Tryz.prog 115 [.ro (a0.map AB)] (.bool r):=by
 unfold CS at h
 refine acF Tryz.func115 mixed (h:=Z ?_)
 exact AJ (k1 Jy) h
theorem Mm (a0 r) (h:F7 a0=some r):AC Tryz.prog 114 [.ro (a0.map AB)] (.bool r):=by
 unfold F7 at h
 refine acF Tryz.func114 mixed (h:=Z ?_)
 exact AJ (k1 IM) h
theorem IN (n:Nat):(∀ (a0:List Shard) (u:Int) (f1:(Shard→Option Bool)) (g1:FuncId) (c1:List AV) (s1:Still c1) (h1:∀ (y0:Shard) (q:Bool),f1 y0=some q→AC Tryz.prog g1 (fnA c1 [.agg (Shard.avs y0)]) (.bool q)) (r:Int),A6 n a0 u f1=some r→Ac Tryz.prog Tryz.f197 [1,0,1,0] (.int .i64 r) ⟨[(0,.ro (a0.map Shard.ds)),(1,.fn g1 c1),(7,.int .i64 (a0.length:Int)),(8,.int .i64 u)],[],[]⟩):=by
 induction n with
 |zero=>exact((fun _ _ _ _ _ _ _ _ h=>by rw [A6] at h; cases h))
 | succ n ih=>
  have ih0:=ih
  ·intro a0 u f1 g1 c1 s1 h1 r h
   rw [A6] at h
   refine AR rfl rfl ?_
   try simp only [go_sem,s1.k,s1.r,s1.c,s1.p,s1.o,s1.f]
   refine AY ?_
   try simp only [go_sem,s1.k,s1.r,s1.c,s1.p,s1.o,s1.f]
   refine AH h (fun h=>?_) (fun h=>?_)
   ·try simp only [go_sem,s1.k,s1.r,s1.c,s1.p,s1.o,s1.f]
    refine BF ?_
    try simp only [go_sem,s1.k,s1.r,s1.c,s1.p,s1.o,s1.f]
    replace h:=AD h; obtain⟨w,y,h⟩:=h
    refine Ad y (Shard.ds_len _) ?_
    try simp only [go_sem,s1.k,s1.r,s1.c,s1.p,s1.o,s1.f]
    replace h:=AD h; obtain⟨g,j,h⟩:=h
    refine AK (h1 _ _ j) ?_
    try simp only [go_sem,s1.k,s1.r,s1.c,s1.p,s1.o,s1.f]
    refine BF ?_
    try simp only [go_sem,s1.k,s1.r,s1.c,s1.p,s1.o,s1.f]
    refine AH h (fun h=>?_) (fun h=>?_)
    ·try simp only [go_sem,s1.k,s1.r,s1.c,s1.p,s1.o,s1.f]
     cases h
     simp only [go_sem,s1.k,s1.r,s1.c,s1.p,s1.o,s1.f]
    ·try simp only [go_sem,s1.k,s1.r,s1.c,s1.p,s1.o,s1.f]
     refine BF ?_
     try simp only [go_sem,s1.k,s1.r,s1.c,s1.p,s1.o,s1.f]
     refine My (Ck rfl rfl (ih0 a0 (IntKind.i64.wrap (u+1)) f1 g1 c1 s1 h1 _ h):) (.one ⟨_,.done _,[],[],?_⟩)
     try simp only [go_sem,s1.k,s1.r,s1.c,s1.p,s1.o,s1.f]
   ·try simp only [go_sem,s1.k,s1.r,s1.c,s1.p,s1.o,s1.f]
    refine BF ?_
    try simp only [go_sem,s1.k,s1.r,s1.c,s1.p,s1.o,s1.f]
    cases h
    simp only [go_sem,s1.k,s1.r,s1.c,s1.p,s1.o,s1.f]
theorem JW (a0:List Shard) (f1:(Shard→Option Bool)) (g1:FuncId) (c1:List AV) (s1:Still c1) (h1:∀ (y0:Shard) (q:Bool),f1 y0=some q→AC Tryz.prog g1 (fnA c1 [.agg (Shard.avs y0)]) (.bool q)) (r:Int) (h:Em a0 f1=some r):AC Tryz.prog 197 [.ro (a0.map Shard.ds),.fn g1 c1] (.int .i64 r):=by
 unfold Em at h
 refine acF Tryz.func197 mixed (h:=?_)
 try simp only [go_sem,s1.k,s1.r,s1.c,s1.p,s1.o,s1.f]
 refine DW (Ck rfl rfl (IN fuel a0 0 f1 g1 c1 s1 h1 _ h):) (.one ⟨_,.done _,[],[],?_⟩)
 try simp only [go_sem,s1.k,s1.r,s1.c,s1.p,s1.o,s1.f]
theorem IP (a0:List Shard) (f1:(Shard→Option Bool)) (g1:FuncId) (c1:List AV) (s1:Still c1) (h1:∀ (y0:Shard) (q:Bool),f1 y0=some q→AC Tryz.prog g1 (fnA c1 [.agg (Shard.avs y0)]) (.bool q)) (r:Bool) (h:Bv a0 f1=some r):AC Tryz.prog 142 [.ro (a0.map Shard.ds),.fn g1 c1] (.bool r):=by
 unfold Bv at h
 refine acF Tryz.func142 mixed (h:=?_)
 try simp only [go_sem,s1.k,s1.r,s1.c,s1.p,s1.o,s1.f]
 replace h:=AD h; obtain⟨u,w,h⟩:=h
 refine AK (JW _ _ g1 c1 s1 h1 _ w) ?_
 try simp only [go_sem,s1.k,s1.r,s1.c,s1.p,s1.o,s1.f]
 refine BF ?_
 try simp only [go_sem,s1.k,s1.r,s1.c,s1.p,s1.o,s1.f]
 cases h
 simp only [go_sem,s1.k,s1.r,s1.c,s1.p,s1.o,s1.f]
theorem LI (a0 r) (h:Dq a0=some r):AC Tryz.prog 170 [.agg (Shard.avs a0)] (.bool r):=by
 unfold Dq at h
 refine acF Tryz.func170 mixed (h:=Z ?_)
 exact AJ (k1 K8) h
theorem KX (a0 a1 r) (h:FY a0 a1=some r):AC Tryz.prog 137 [.int .i64 a0,.int .i64 a1] (.agg (Address.rv r)):=by
 unfold FY at h
 refine acF Tryz.func137 mixed (h:=Z ?_)
 exact AJ trivial h
theorem K9 (a0 a1 r) (h:F9 a0 a1=some r):AC Tryz.prog 196 [.int .i64 a0,.int .i64 a1] (.agg (Address.rv r)):=by
 unfold F9 at h
 refine acF Tryz.func196 mixed (h:=Z ?_)
 exact AJ trivial h
theorem Gf (a0:Grid) (a1:Address) (u:Bool) (r:Bool) (h:DM a0 a1 u=some r):Ac Tryz.prog Tryz.f232 [1,0,1] (.bool r) ⟨[(0,.rop (Grid.avs a0) 0),(3,.box 1000000500 0),(23,.bool u)],[],[(1000000500,some (Address.avs a1))]⟩:=by
 unfold DM at h
 refine AR rfl rfl (Z ?_)
 refine AH h (fun h=>Z ?_) (fun h=>Z ?_)
 ·exact AJ trivial h
 ·refine AL ?_
  refine Ah [false,false,false,false,false,false,false,false,false,true] (Tr.sq [9] .fin) (by kernel_rfl) (Z ?_)
  exact AJ trivial h
theorem Q3 (a0 a1 r) (h:E7 a0 a1=some r):AC Tryz.prog 232 [.rop (Grid.avs a0) 0,.agg (Address.avs a1)] (.bool r):=by
 unfold E7 at h
 refine acF Tryz.func232 mixed (h:=Z ?_)
 refine Ah [] .fin (by kernel_rfl) (Z ?_)
 refine AH h (fun h=>Z ?_) (fun h=>Z ?_)
 ·exact ES (Gf a0 a1 true _ h) [] [(1000000500,1000)]
 ·refine AH h (fun h=>Z ?_) (fun h=>Z ?_)
  ·exact ES (Gf a0 a1 true _ h) [] [(1000000500,1000)]
  ·exact ES (Gf a0 a1 (decide (a1.index<0)) _ h) [] [(1000000500,1000)]
theorem Q4 (n:Nat):(∀a0 u w r,EH n a0 u w=some r→F5 Tryz.prog Tryz.f233 [1,1,0,1,0] (.mpr 1601) [] [(1601,[.mpc (.wide [.i64,.i64,.i64]) (r.map Hk)])] ⟨[(3,.mpr 1000003500),(9,.ro (a0.map Statement.ds)),(10,.int .i64 (a0.length:Int)),(11,.int .i64 w)],[],[(1000003500,some [.mpc (.wide [.i64,.i64,.i64]) (u.map Hk)])]⟩)∧
    (∀a0 w y q g r,C8 n a0 w y q g=some r→F5 Tryz.prog Tryz.f233 [1,1,0,1,0,0,1,1,0,0,1,1,0] (.mpr 1601) [] [(1601,[.mpc (.wide [.i64,.i64,.i64]) (r.map Hk)])] ⟨[(3,.mpr 1000005500),(9,.ro (a0.map Statement.ds)),(10,.int .i64 (a0.length:Int)),(11,.int .i64 w),(19,.own 1000005000),(20,.int .i64 2),(21,.int .i64 g)],[(1000005000,some ⟨List.map Thing.ds [y.a,y.b],some 5,0,.no⟩)],[(1000005500,some [.mpc (.wide [.i64,.i64,.i64]) (q.map Hk)])]⟩):=by
 induction n with
 |zero=>exact⟨(fun _ _ _ _ h=>by rw [EH] at h; cases h),(fun _ _ _ _ _ _ h=>by rw [C8] at h; cases h)⟩
 | succ n ih=>
  obtain⟨ih0,ih1⟩:=ih
  refine⟨?_,?_⟩
  ·intro a0 u w r h
   rw [EH] at h
   refine Cs rfl rfl (Z ?_)
   refine AY (Z ?_)
   refine AH h (fun h=>Z ?_) (fun h=>Z ?_)
   ·refine AL ?_
    replace h:=AD h; obtain⟨y,j,h⟩:=h
    refine Ad j (Statement.ds_len _) (Z ?_)
    refine AL ?_
    refine AL ?_
    refine DW (Ik rfl rfl (ih1 a0 w y u 0 _ h):) (.one ⟨_,.lit 19 2000000000 6004 2 5 .no [] _ _ (by (first|rfl|(simp only [go_sem]; rfl))) (by simp only [go_sem]; rfl) (by (first|rfl|(simp only [go_sem]; rfl))) (by (first|rfl|(simp only [go_sem]; rfl))) (by decide) (by decide) (by simp only [go_sem]) (.done _),[(1000005000,2000000000)],[(1000005500,1000003500)],?_⟩)
    simp only [go_sem]
    all_goals try rfl
   ·refine AL ?_
    cases h
    refine Hb (.done _) [] [(1601,1000003500)] ?_
    simp only [go_sem]
  ·intro a0 w y q g r h
   rw [C8] at h
   refine Cs rfl rfl (Z ?_)
   refine AY (Z ?_)
   refine AH h (fun h=>Z ?_) (fun h=>Z ?_)
   ·refine AL ?_
    replace h:=AD h; obtain⟨k,d,h⟩:=h
    refine Ad d (Thing.ds_len _) (Z ?_)
    refine GK (FL (f:=Thing.ds) d) (Z ?_)
    refine AL ?_
    refine AH h (fun h=>Z ?_) (fun h=>Z ?_)
    ·replace h:=AD h; obtain⟨c,e,h⟩:=h
     refine mJ e rfl rfl (by (first|rfl|(simp only [go_sem]; rfl))) (by (first|rfl|(simp only [go_sem]; rfl))) (by (first|rfl|(simp only [go_sem]; rfl))) (by (first|rfl|(simp only [go_sem]; rfl))) (Z ?_)
     refine AL ?_
     exact lpG (ih1 a0 w y c (IntKind.i64.wrap (g+1)) _ h) [(1000005000,1000005000)] [(1000005500,1000005500)]
    ·refine AL ?_
     exact lpG (ih1 a0 w y q (IntKind.i64.wrap (g+1)) _ h) [(1000005000,1000005000)] [(1000005500,1000005500)]
   ·refine AL ?_
    exact lpG (ih0 a0 q (IntKind.i64.wrap (w+1)) _ h) [] [(1000003500,1000005500)]
def Sw (n:Nat):=(Q4 n).1
theorem YI (a0 r) (h:RU a0=some r):AG Tryz.prog 233 [.ro (a0.map Statement.ds)] [] [] (.mpr 1601) [] [(1601,[.mpc (.wide [.i64,.i64,.i64]) (r.map Hk)])] :=by
 unfold RU at h
 refine agF Tryz.func233 mixed (h:=Z ?_)
 exact loG (Sw fuel a0 [] 0 _ h) [] [(1000003500,2000)]
theorem JX (n:Nat):(∀a0 u w r,AW n a0 u w=some r→Ac Tryz.prog Tryz.f171 [1,1,1,0,1,0] (.bool r) ⟨[(7,.mpr 1000015500),(52,.ro (a0.shards.map Shard.ds)),(53,.int .i64 (a0.shards.length:Int)),(54,.int .i64 w)],[],[(1000015500,some [.mpc (.wide [.i64,.i64,.i64]) (u.map Hk)])]⟩)∧
    (∀a0 w u y q r,Ae n a0 w u y q=some r→Ac Tryz.prog Tryz.f171 [1,1,1,0,1,0,0,1,1,0,0,1,0,1,0] (.bool r) ⟨[(7,.mpr 1000024500),(8,.int .i64 w),(9,.box 1000024501 0),(52,.ro (a0.shards.map Shard.ds)),(53,.int .i64 (a0.shards.length:Int)),(54,.int .i64 w),(60,.ro (y.cells.map ShardCell.ds)),(61,.int .i64 (y.cells.length:Int)),(62,.int .i64 q)],[],[(1000024500,some [.mpc (.wide [.i64,.i64,.i64]) (u.map Hk)]),(1000024501,some (Shard.avs y))]⟩)∧
    (∀a0 w q u y g r,BZ n a0 w q u y g=some r→Ac Tryz.prog Tryz.f171 [1,1,1,0,1,0,0,1,1,0,0,1,0,1,0,0,1,1,0,0,1,1] (.bool r) ⟨[(7,.mpr 1000025500),(8,.int .i64 w),(9,.box 1000025501 0),(52,.ro (a0.shards.map Shard.ds)),(53,.int .i64 (a0.shards.length:Int)),(54,.int .i64 w),(60,.ro (y.cells.map ShardCell.ds)),(61,.int .i64 (y.cells.length:Int)),(62,.int .i64 q),(77,.bool g)],[],[(1000025500,some [.mpc (.wide [.i64,.i64,.i64]) (u.map Hk)]),(1000025501,some (Shard.avs y))]⟩)∧
    (∀a0 w u y j r,An n a0 w u y j=some r→Ac Tryz.prog Tryz.f171 [1,1,1,0,1,0,0,1,1,0,0,1,1,1,0] (.bool r) ⟨[(7,.mpr 1000026500),(8,.int .i64 w),(52,.ro (a0.shards.map Shard.ds)),(53,.int .i64 (a0.shards.length:Int)),(54,.int .i64 w),(80,.ro (y.vars.map ShardVar.ds)),(81,.int .i64 (y.vars.length:Int)),(82,.int .i64 j)],[],[(1000026500,some [.mpc (.wide [.i64,.i64,.i64]) (u.map Hk)])]⟩)∧
    (∀a0 w j u y k r,Ba n a0 w j u y k=some r→Ac Tryz.prog Tryz.f171 [1,1,1,0,1,0,0,1,1,0,0,1,1,1,0,0,1,1,0,0,1,1] (.bool r) ⟨[(7,.mpr 1000027500),(8,.int .i64 w),(52,.ro (a0.shards.map Shard.ds)),(53,.int .i64 (a0.shards.length:Int)),(54,.int .i64 w),(80,.ro (y.vars.map ShardVar.ds)),(81,.int .i64 (y.vars.length:Int)),(82,.int .i64 j),(96,.bool k)],[],[(1000027500,some [.mpc (.wide [.i64,.i64,.i64]) (u.map Hk)])]⟩):=by
 induction n with
 |zero=>exact⟨(fun _ _ _ _ h=>by rw [AW] at h; cases h),(fun _ _ _ _ _ _ h=>by rw [Ae] at h; cases h),(fun _ _ _ _ _ _ _ h=>by rw [BZ] at h; cases h),(fun _ _ _ _ _ _ h=>by rw [An] at h; cases h),(fun _ _ _ _ _ _ _ h=>by rw [Ba] at h; cases h)⟩
 | succ n ih=>
  obtain⟨ih0,ih1,ih2,ih3,ih4⟩:=ih
  refine⟨?_,?_,?_,?_,?_⟩
  ·intro a0 u w r h
   rw [AW] at h
   refine AR rfl rfl (Z ?_)
   refine AY (Z ?_)
   refine AH h (fun h=>Z ?_) (fun h=>Z ?_)
   ·refine AL ?_
    replace h:=AD h; obtain⟨y,b,h⟩:=h
    refine Ad b (Shard.ds_len _) (Z ?_)
    refine AL ?_
    exact loF (ih1 a0 w u y 0 _ h) [] [(1000024500,1000015500),(1000024501,11003)]
   ·exact AJ trivial h
  ·intro a0 w u y q r h
   rw [Ae] at h
   refine AR rfl rfl (Z ?_)
   refine AY (Z ?_)
   refine AH h (fun h=>Z ?_) (fun h=>Z ?_)
   ·refine AL ?_
    replace h:=AD h; obtain⟨d,c,h⟩:=h
    refine Ad c (ShardCell.ds_len _) (Z ?_)
    refine AL ?_
    refine AH h (fun h=>Z ?_) (fun h=>Z ?_)
    ·replace h:=AD h; obtain⟨e,i,h⟩:=h
     refine AK (KX _ _ _ i) (Z ?_)
     exact ES (ih2 a0 w q u y (!decide (((Dl u [e.machine,e.kind,e.index]).getD 0)=1)) _ h) [] [(1000025500,1000024500),(1000025501,1000024501)]
    ·exact ES (ih2 a0 w q u y false _ h) [] [(1000025500,1000024500),(1000025501,1000024501)]
   ·refine AL ?_
    exact loF (ih3 a0 w u y 0 _ h) [] [(1000026500,1000024500)]
  ·intro a0 w q u y g r h
   rw [BZ] at h
   refine AR rfl rfl (Z ?_)
   refine AH h (fun h=>Z ?_) (fun h=>Z ?_)
   ·exact AJ trivial h
   ·refine AL ?_
    exact lpF (ih1 a0 w u y (IntKind.i64.wrap (q+1)) _ h) [] [(1000024500,1000025500),(1000024501,1000025501)]
  ·intro a0 w u y j r h
   rw [An] at h
   refine AR rfl rfl (Z ?_)
   refine AY (Z ?_)
   refine AH h (fun h=>Z ?_) (fun h=>Z ?_)
   ·refine AL ?_
    replace h:=AD h; obtain⟨l,t,h⟩:=h
    refine Ad t (ShardVar.ds_len _) (Z ?_)
    refine AL ?_
    refine AH h (fun h=>Z ?_) (fun h=>Z ?_)
    ·replace h:=AD h; obtain⟨s,o,h⟩:=h
     refine AK (K9 _ _ _ o) (Z ?_)
     exact ES (ih4 a0 w j u y (!decide (((Dl u [s.machine,s.kind,s.index]).getD 0)=2)) _ h) [] [(1000027500,1000026500)]
    ·exact ES (ih4 a0 w j u y false _ h) [] [(1000027500,1000026500)]
   ·refine AL ?_
    exact lpF (ih0 a0 u (IntKind.i64.wrap (w+1)) _ h) [] [(1000015500,1000026500)]
  ·intro a0 w j u y k r h
   rw [Ba] at h
   refine AR rfl rfl (Z ?_)
   refine AH h (fun h=>Z ?_) (fun h=>Z ?_)
   ·exact AJ trivial h
   ·refine AL ?_
    exact lpF (ih3 a0 w u y (IntKind.i64.wrap (j+1)) _ h) [] [(1000026500,1000027500)]
def Jf (n:Nat):=(JX n).1
theorem J9 (n:Nat):(∀a0 a1 u r,Ap n a0 a1 u=some r→Ac Tryz.prog Tryz.f171 [1,0,1,0] (.bool r) ⟨[(0,.rop (Grid.avs a0) 0),(1,.ro (a1.map Statement.ds)),(14,.ro (a1.map Statement.ds)),(15,.int .i64 (a1.length:Int)),(16,.int .i64 u)],[],[]⟩)∧
    (∀a0 a1 u w r,A4 n a0 a1 u w=some r→Ac Tryz.prog Tryz.f171 [1,0,1,0,0,1,1,0,0,1,1] (.bool r) ⟨[(0,.rop (Grid.avs a0) 0),(1,.ro (a1.map Statement.ds)),(14,.ro (a1.map Statement.ds)),(15,.int .i64 (a1.length:Int)),(16,.int .i64 u),(45,.bool w)],[],[]⟩):=by
 induction n with
 |zero=>exact⟨(fun _ _ _ _ h=>by rw [Ap] at h; cases h),(fun _ _ _ _ _ h=>by rw [A4] at h; cases h)⟩
 | succ n ih=>
  obtain⟨ih0,ih1⟩:=ih
  refine⟨?_,?_⟩
  ·intro a0 a1 u r h
   rw [Ap] at h
   refine AR rfl rfl (Z ?_)
   refine AY (Z ?_)
   refine AH h (fun h=>Z ?_) (fun h=>Z ?_)
   ·exact AJ (k2 Q3 ih1) h
   ·refine AL ?_
    replace h:=AD h; obtain⟨d,c,h⟩:=h
    refine caG ⟨[],[],[],[],[(1601,128016)],true⟩ (YI _ _ c) (Z ?_)
    refine AL ?_
    exact loF (Jf fuel a0 d 0 _ h) [] [(1000015500,128016)]
  ·intro a0 a1 u w r h
   rw [A4] at h
   exact AJ (k1 ih0) h
def KY (n:Nat):=(J9 n).1
theorem L7 (a0 a1 r) (h:EI a0 a1=some r):AC Tryz.prog 171 [.rop (Grid.avs a0) 0,.ro (a1.map Statement.ds)] (.bool r):=by
 unfold EI at h
 refine acF Tryz.func171 mixed (h:=Z ?_)
 exact AJ (k1 KY) h
theorem QI (a0 a1 r) (h:Lo a0 a1=some r):AC Tryz.prog 175 [.agg (Address.avs a0),.int .i64 a1] (.agg (Thing.rv r)):=by
 unfold Lo at h
 refine acF Tryz.func175 mixed (h:=Z ?_)
 exact AJ trivial h
theorem LJ (n:Nat):(∀a0 a1 u w r,BH n a0 a1 u w=some r→Ac Tryz.prog Tryz.f174 [1,1,0,1,0] (.ow (some 10) (r.map Statement.ds)) ⟨[(2,.box 1000001500 0),(5,.own 1000001000),(8,.ro (a1.map Address.ds)),(9,.int .i64 (a1.length:Int)),(10,.int .i64 w)],[(1000001000,some ⟨List.map Statement.ds u,some 10,0,.no⟩)],[(1000001500,some (Address.avs a0))]⟩):=by
 induction n with
 |zero=>exact((fun _ _ _ _ _ h=>by rw [BH] at h; cases h))
 | succ n ih=>
  have ih0:=ih
  ·intro a0 a1 u w r h
   rw [BH] at h
   refine AR rfl rfl (Z ?_)
   refine AY (Z ?_)
   refine AH h (fun h=>Z ?_) (fun h=>Z ?_)
   ·refine AL ?_
    replace h:=AD h; obtain⟨y,q,h⟩:=h
    refine Ad q (Address.ds_len _) (Z ?_)
    refine AL ?_
    refine Ah [false,false,false,false,false,false,false,false,false,true,true] (Tr.sq [9,10] .fin) (by kernel_rfl) (Z ?_)
    replace h:=AD h; obtain⟨g,j,h⟩:=h
    refine AK (QI _ _ _ j) (Z ?_)
    replace h:=AD h; obtain⟨k,b,h⟩:=h
    have hq_:=B8 b
    obtain⟨hv6009a,hv6009b⟩:=hq_
    refine C3 .no (Z ?_)
    refine B4 (by refine⟨?_,?_⟩ <;> (try simp only [List.length_map,List.length_append,List.length_cons,List.length_nil] at*) <;> (try unfold maxLen) <;> omega) (Z ?_)
    refine Bo (k.map Statement.ds) (by rw [← hv6009b]; simp only [List.map_append,List.map_cons,List.map_nil,List.nil_append,List.append_nil,go_sem,Statement.ds_eq]) (Z ?_)
    refine AL ?_
    exact lpF (ih0 a0 a1 k (IntKind.i64.wrap (w+1)) _ h) [(1000001000,96144)] [(1000001500,1000001500)]
   ·exact AJ trivial h
theorem JY (a0 a1 r) (h:EB a0 a1=some r):AC Tryz.prog 174 [.agg (Address.avs a0),.ro (a1.map Address.ds)] (.ow (some 10) (r.map Statement.ds)):=by
 unfold EB at h
 refine acF Tryz.func174 mixed (h:=Z ?_)
 refine DW (Ck rfl rfl (LJ fuel a0 a1 [] 0 _ h):) (.one ⟨_,.slot 5 2000000000 (some 10) .no (by simp only [go_sem]) (by simp only [go_sem]) (.done _),[(1000001000,2000000000)],[(1000001500,1000)],?_⟩)
 simp only [go_sem]
 all_goals try rfl
theorem Jg (n:Nat):(∀a0 u w r,Aa n a0 u w=some r→Ac Tryz.prog Tryz.f172 [1,1,0,1,0] (.ow (some 10) (r.map Statement.ds)) ⟨[(3,.own 1000011000),(24,.ro (a0.shards.map Shard.ds)),(25,.int .i64 (a0.shards.length:Int)),(26,.int .i64 w)],[(1000011000,some ⟨List.map Statement.ds u,some 10,0,.no⟩)],[]⟩)∧
    (∀a0 w y q g r,Ai n a0 w y q g=some r→Ac Tryz.prog Tryz.f172 [1,1,0,1,0,0,1,1,0,0,1,0,1,0] (.ow (some 10) (r.map Statement.ds)) ⟨[(3,.own 1000018000),(4,.int .i64 w),(5,.box 1000018500 0),(24,.ro (a0.shards.map Shard.ds)),(25,.int .i64 (a0.shards.length:Int)),(26,.int .i64 w),(32,.ro (y.cells.map ShardCell.ds)),(33,.int .i64 (y.cells.length:Int)),(34,.int .i64 g)],[(1000018000,some ⟨List.map Statement.ds q,some 10,0,.no⟩)],[(1000018500,some (Shard.avs y))]⟩)∧
    (∀a0 w y j k r,Aj n a0 w y j k=some r→Ac Tryz.prog Tryz.f172 [1,1,0,1,0,0,1,1,0,0,1,1,0,1,0] (.ow (some 10) (r.map Statement.ds)) ⟨[(3,.own 1000020000),(4,.int .i64 w),(5,.box 1000020500 0),(24,.ro (a0.shards.map Shard.ds)),(25,.int .i64 (a0.shards.length:Int)),(26,.int .i64 w),(49,.ro (y.redexes.map ShardRedex.ds)),(50,.int .i64 (y.redexes.length:Int)),(51,.int .i64 k)],[(1000020000,some ⟨List.map Statement.ds j,some 10,0,.no⟩)],[(1000020500,some (Shard.avs y))]⟩)∧
    (∀a0 w y b d r,Ak n a0 w y b d=some r→Ac Tryz.prog Tryz.f172 [1,1,0,1,0,0,1,1,0,0,1,1,1,1,0] (.ow (some 10) (r.map Statement.ds)) ⟨[(3,.own 1000021000),(4,.int .i64 w),(24,.ro (a0.shards.map Shard.ds)),(25,.int .i64 (a0.shards.length:Int)),(26,.int .i64 w),(67,.ro (y.vars.map ShardVar.ds)),(68,.int .i64 (y.vars.length:Int)),(69,.int .i64 d)],[(1000021000,some ⟨List.map Statement.ds b,some 10,0,.no⟩)],[]⟩):=by
 induction n with
 |zero=>exact⟨(fun _ _ _ _ h=>by rw [Aa] at h; cases h),(fun _ _ _ _ _ _ h=>by rw [Ai] at h; cases h),(fun _ _ _ _ _ _ h=>by rw [Aj] at h; cases h),(fun _ _ _ _ _ _ h=>by rw [Ak] at h; cases h)⟩
 | succ n ih=>
  obtain⟨ih0,ih1,ih2,ih3⟩:=ih
  refine⟨?_,?_,?_,?_⟩
  ·intro a0 u w r h
   rw [Aa] at h
   refine AR rfl rfl (Z ?_)
   refine AY (Z ?_)
   refine AH h (fun h=>Z ?_) (fun h=>Z ?_)
   ·refine AL ?_
    replace h:=AD h; obtain⟨y,c,h⟩:=h
    refine Ad c (Shard.ds_len _) (Z ?_)
    refine AL ?_
    exact loF (ih1 a0 w y u 0 _ h) [(1000018000,1000011000)] [(1000018500,5003)]
   ·exact AJ trivial h
  ·intro a0 w y q g r h
   rw [Ai] at h
   refine AR rfl rfl (Z ?_)
   refine AY (Z ?_)
   refine AH h (fun h=>Z ?_) (fun h=>Z ?_)
   ·refine AL ?_
    replace h:=AD h; obtain⟨e,i,h⟩:=h
    refine Ad i (ShardCell.ds_len _) (Z ?_)
    refine AL ?_
    refine Ah [false,false,false,false,false,false,false,true,true] (Tr.sq [7,8] .fin) (by kernel_rfl) (Z ?_)
    replace h:=AD h; obtain⟨l,t,h⟩:=h
    refine AK (KX _ _ _ t) (Z ?_)
    replace h:=AD h; obtain⟨s,o,h⟩:=h
    refine AK (JY _ _ _ o) (Z ?_)
    replace h:=AD h; obtain⟨z,u1,h⟩:=h
    have hq_:=B8 u1
    obtain⟨hv9007a,hv9007b⟩:=hq_
    refine C3 .no (Z ?_)
    refine B4 (Qm (by intro x; exact(Statement.ds_len _)) _) (Z ?_)
    refine B4 (by refine⟨?_,?_⟩ <;> (try simp only [List.length_map,List.length_append,List.length_cons,List.length_nil] at*) <;> (try unfold maxLen) <;> omega) (Z ?_)
    refine Bo (z.map Statement.ds) (by rw [← hv9007b]; simp only [List.map_append,List.map_cons,List.map_nil,List.nil_append,List.append_nil,go_sem,Statement.ds_eq]) (Z ?_)
    refine AL ?_
    exact lpF (ih1 a0 w y z (IntKind.i64.wrap (g+1)) _ h) [(1000018000,144112)] [(1000018500,1000018500)]
   ·refine AL ?_
    exact loF (ih2 a0 w y q 0 _ h) [(1000020000,1000018000)] [(1000020500,1000018500)]
  ·intro a0 w y j k r h
   rw [Aj] at h
   refine AR rfl rfl (Z ?_)
   refine AY (Z ?_)
   refine AH h (fun h=>Z ?_) (fun h=>Z ?_)
   ·refine AL ?_
    replace h:=AD h; obtain⟨u2,u3,h⟩:=h
    refine Ad u3 (ShardRedex.ds_len _) (Z ?_)
    refine AL ?_
    replace h:=AD h; obtain⟨u4,u5,h⟩:=h
    have hq_:=B8 u5
    obtain⟨hv14009a,hv14009b⟩:=hq_
    refine C3 .no (Z ?_)
    refine B4 (by refine⟨?_,?_⟩ <;> (try simp only [List.length_map,List.length_append,List.length_cons,List.length_nil] at*) <;> (try unfold maxLen) <;> omega) (Z ?_)
    refine Bo (u4.map Statement.ds) (by rw [← hv14009b]; simp only [List.map_append,List.map_cons,List.map_nil,List.nil_append,List.append_nil,go_sem,Statement.ds_eq]) (Z ?_)
    refine AL ?_
    exact lpF (ih2 a0 w y u4 (IntKind.i64.wrap (k+1)) _ h) [(1000020000,224144)] [(1000020500,1000020500)]
   ·refine AL ?_
    exact loF (ih3 a0 w y j 0 _ h) [(1000021000,1000020000)] []
  ·intro a0 w y b d r h
   rw [Ak] at h
   refine AR rfl rfl (Z ?_)
   refine AY (Z ?_)
   refine AH h (fun h=>Z ?_) (fun h=>Z ?_)
   ·refine AL ?_
    replace h:=AD h; obtain⟨u6,u7,h⟩:=h
    refine Ad u7 (ShardVar.ds_len _) (Z ?_)
    refine AL ?_
    refine AH h (fun h=>Z ?_) (fun h=>Z ?_)
    ·refine Ah [false,false,false,false,false,false,false,false,false,false,true,true] (Tr.sq [10,11] .fin) (by kernel_rfl) (Z ?_)
     replace h:=AD h; obtain⟨u8,u9,h⟩:=h
     refine AK (K9 _ _ _ u9) (Z ?_)
     replace h:=AD h; obtain⟨u10,u11,h⟩:=h
     have hq_:=B8 u11
     obtain⟨hv20010a,hv20010b⟩:=hq_
     refine C3 .no (Z ?_)
     refine B4 (by refine⟨?_,?_⟩ <;> (try simp only [List.length_map,List.length_append,List.length_cons,List.length_nil] at*) <;> (try unfold maxLen) <;> omega) (Z ?_)
     refine Bo (u10.map Statement.ds) (by rw [← hv20010b]; simp only [List.map_append,List.map_cons,List.map_nil,List.nil_append,List.append_nil,go_sem,Statement.ds_eq]) (Z ?_)
     refine AL ?_
     exact lpF (ih3 a0 w y u10 (IntKind.i64.wrap (d+1)) _ h) [(1000021000,320160)] []
    ·refine AL ?_
     exact lpF (ih3 a0 w y b (IntKind.i64.wrap (d+1)) _ h) [(1000021000,1000021000)] []
   ·refine AL ?_
    exact lpF (ih0 a0 b (IntKind.i64.wrap (w+1)) _ h) [(1000011000,1000021000)] []
def KA (n:Nat):=(Jg n).1
theorem L8 (a0 r) (h:EJ a0=some r):AC Tryz.prog 172 [.rop (Grid.avs a0) 0] (.ow (some 10) (r.map Statement.ds)):=by
 unfold EJ at h
 refine acF Tryz.func172 mixed (h:=Z ?_)
 refine Ah [] .fin (by kernel_rfl) (Z ?_)
 replace h:=AD h; obtain⟨u,w,h⟩:=h
 refine AK (QI _ _ _ w) (Z ?_)
 refine AL ?_
 refine DW (Ck rfl rfl (KA fuel a0 [(⟨u,(⟨a0.root,0,false⟩:Thing)⟩:Statement)] 0 _ h):) (.one ⟨_,.lit 3 2000000000 2008 1 10 .no [] _ _ (by (first|rfl|(simp only [go_sem]; rfl))) (by simp only [go_sem]; rfl) (by (first|rfl|(simp only [go_sem]; rfl))) (by (first|rfl|(simp only [go_sem]; rfl))) (by decide) (by decide) (by simp only [go_sem]) (.done _),[(1000011000,2000000000)],[],?_⟩)
 simp only [go_sem]
 all_goals try rfl
theorem FK (a0:Grid) (a1:List Statement) (u:Bool) (r:Bool) (h:B5 a0 a1 u=some r):Ac Tryz.prog Tryz.f116 [1,0,1] (.bool r) ⟨[(0,.rop (Grid.avs a0) 0),(1,.ro (a1.map Statement.ds)),(25,.bool u)],[],[]⟩:=by
 unfold B5 at h
 refine AR rfl rfl (Z ?_)
 refine AH h (fun h=>Z ?_) (fun h=>Z ?_)
 ·exact AJ trivial h
 ·refine AL ?_
  replace h:=AD h; obtain⟨w,y,h⟩:=h
  refine AK (L8 _ _ y) (Z ?_)
  replace h:=AD h; obtain⟨q,g,h⟩:=h
  have hq_:=B8 g
  obtain⟨hv4004a,hv4004b⟩:=hq_
  refine C3 .no (Z ?_)
  refine B4 (Kr (by intro x; exact⟨(Statement.ds_len _),by simp [Statement.ds_eq,D.flat]⟩) _) (Z ?_)
  refine B4 (by refine⟨?_,?_⟩ <;> (try simp only [List.length_map,List.length_append,List.length_cons,List.length_nil] at*) <;> (try unfold maxLen) <;> omega) (Z ?_)
  refine Bo (q.map Statement.ds) (by rw [← hv4004b]; simp only [List.map_append,List.map_cons,List.map_nil,List.nil_append,List.append_nil,go_sem,Statement.ds_eq]) (Z ?_)
  exact AJ (k1 L7) h
theorem Mn (a0 a1 r) (h:En a0 a1=some r):AC Tryz.prog 116 [.rop (Grid.avs a0) 0,.ro (a1.map Statement.ds)] (.bool r):=by
 unfold En at h
 refine acF Tryz.func116 mixed (h:=Z ?_)
 refine AH h (fun h=>Z ?_) (fun h=>Z ?_)
 ·exact AJ (k1 FK) h
 ·refine AH h (fun h=>Z ?_) (fun h=>Z ?_)
  ·exact AJ (k1 FK) h
  ·replace h:=AD h; obtain⟨u,w,h⟩:=h
   refine AK (IP _ _ 170 [] (Still.of rfl) (fun y0 q hq=>LI y0  q hq) _ w) (Z ?_)
   exact AJ (k1 FK) h
theorem Nw (a0 a1 r) (h:GW a0 a1=some r):AC Tryz.prog 173 [.int .i64 a0,.int .i64 a1] (.agg (Address.rv r)):=by
 unfold GW at h
 refine acF Tryz.func173 mixed (h:=Z ?_)
 exact AJ trivial h
theorem Gg (n:Nat):(∀a0 u w r,AS n a0 u w=some r→Ac Tryz.prog Tryz.f117 [1,1,0,1,0] (.ow (some 10) (r.map Statement.ds)) ⟨[(3,.own 1000000000),(12,.ro (List.map (slD Parcel.ds) a0.channels)),(13,.int .i64 (a0.channels.length:Int)),(14,.int .i64 w)],[(1000000000,some ⟨List.map Statement.ds u,some 10,0,.no⟩)],[]⟩)∧
    (∀a0 w y q g r,AP n a0 w y q g=some r→Ac Tryz.prog Tryz.f117 [1,1,0,1,0,0,1,1,0,0,1,1,0] (.ow (some 10) (r.map Statement.ds)) ⟨[(3,.own 1000007000),(4,.int .i64 w),(12,.ro (List.map (slD Parcel.ds) a0.channels)),(13,.int .i64 (a0.channels.length:Int)),(14,.int .i64 w),(19,.ro (y.map Parcel.ds)),(20,.int .i64 (y.length:Int)),(21,.int .i64 g)],[(1000007000,some ⟨List.map Statement.ds q,some 10,0,.no⟩)],[]⟩)∧
    (∀a0 w q g y j k r,Al n a0 w q g y j k=some r→Ac Tryz.prog Tryz.f117 [1,1,0,1,0,0,1,1,0,0,1,1,0,0,1,1,0,0,1,1,0,1] (.ow (some 10) (r.map Statement.ds)) ⟨[(3,.own 1000008000),(4,.int .i64 w),(6,.int .i64 g),(7,.box 1000008500 0),(12,.ro (List.map (slD Parcel.ds) a0.channels)),(13,.int .i64 (a0.channels.length:Int)),(14,.int .i64 w),(19,.ro (y.map Parcel.ds)),(20,.int .i64 (y.length:Int)),(21,.int .i64 g),(27,.int .i64 j.kind),(28,.bool k)],[(1000008000,some ⟨List.map Statement.ds q,some 10,0,.no⟩)],[(1000008500,some (Parcel.avs j))]⟩):=by
 induction n with
 |zero=>exact⟨(fun _ _ _ _ h=>by rw [AS] at h; cases h),(fun _ _ _ _ _ _ h=>by rw [AP] at h; cases h),(fun _ _ _ _ _ _ _ _ h=>by rw [Al] at h; cases h)⟩
 | succ n ih=>
  obtain⟨ih0,ih1,ih2⟩:=ih
  refine⟨?_,?_,?_⟩
  ·intro a0 u w r h
   rw [AS] at h
   refine AR rfl rfl (Z ?_)
   refine AY (Z ?_)
   refine AH h (fun h=>Z ?_) (fun h=>Z ?_)
   ·refine AL ?_
    replace h:=AD h; obtain⟨y,d,h⟩:=h
    refine Ad d rfl (Z ?_)
    exact loF (ih1 a0 w y u 0 _ h) [(1000007000,1000000000)] []
   ·exact AJ trivial h
  ·intro a0 w y q g r h
   rw [AP] at h
   refine AR rfl rfl (Z ?_)
   refine AY (Z ?_)
   refine AH h (fun h=>Z ?_) (fun h=>Z ?_)
   ·refine AL ?_
    replace h:=AD h; obtain⟨j,c,h⟩:=h
    refine Ad c (Parcel.ds_len _) (Z ?_)
    refine AL ?_
    refine AH h (fun h=>Z ?_) (fun h=>Z ?_)
    ·exact ES (ih2 a0 w q g y j (decide (j.kind=1)) _ h) [(1000008000,1000007000)] [(1000008500,8003)]
    ·exact ES (ih2 a0 w q g y j (decide (j.kind=2)) _ h) [(1000008000,1000007000)] [(1000008500,8003)]
   ·refine AL ?_
    exact lpF (ih0 a0 q (IntKind.i64.wrap (w+1)) _ h) [(1000000000,1000007000)] []
  ·intro a0 w q g y j k r h
   rw [Al] at h
   refine AR rfl rfl (Z ?_)
   refine AH h (fun h=>Z ?_) (fun h=>Z ?_)
   ·replace h:=AD h; obtain⟨e,i,h⟩:=h
    have hq_:=B8 i
    obtain⟨hv12009a,hv12009b⟩:=hq_
    refine C3 .no (Z ?_)
    refine B4 (by refine⟨?_,?_⟩ <;> (try simp only [List.length_map,List.length_append,List.length_cons,List.length_nil] at*) <;> (try unfold maxLen) <;> omega) (Z ?_)
    refine Bo (e.map Statement.ds) (by rw [← hv12009b]; simp only [List.map_append,List.map_cons,List.map_nil,List.nil_append,List.append_nil,go_sem,Statement.ds_eq]) (Z ?_)
    refine AL ?_
    exact lpF (ih1 a0 w y e (IntKind.i64.wrap (g+1)) _ h) [(1000007000,192144)] []
   ·refine AH h (fun h=>Z ?_) (fun h=>Z ?_)
    ·replace h:=AD h; obtain⟨l,t,h⟩:=h
     refine AK (Nw _ _ _ t) (Z ?_)
     refine AL ?_
     replace h:=AD h; obtain⟨s,o,h⟩:=h
     refine AK (JY _ _ _ o) (Z ?_)
     replace h:=AD h; obtain⟨z,u1,h⟩:=h
     have hq_:=B8 u1
     obtain⟨hv15006a,hv15006b⟩:=hq_
     refine C3 .no (Z ?_)
     refine B4 (Qm (by intro x; exact(Statement.ds_len _)) _) (Z ?_)
     refine B4 (by refine⟨?_,?_⟩ <;> (try simp only [List.length_map,List.length_append,List.length_cons,List.length_nil] at*) <;> (try unfold maxLen) <;> omega) (Z ?_)
     refine Bo (z.map Statement.ds) (by rw [← hv15006b]; simp only [List.map_append,List.map_cons,List.map_nil,List.nil_append,List.append_nil,go_sem,Statement.ds_eq]) (Z ?_)
     refine AL ?_
     refine Ah [false,false,false,false,false,false,false,false,true,true] (Tr.sq [8,9] .fin) (by kernel_rfl) (Z ?_)
     replace h:=AD h; obtain⟨u2,u3,h⟩:=h
     refine AK (QI _ _ _ u3) (Z ?_)
     replace h:=AD h; obtain⟨u4,u5,h⟩:=h
     have hq_:=B8 u5
     obtain⟨hv16008a,hv16008b⟩:=hq_
     refine C3 .no (Z ?_)
     refine B4 (by refine⟨?_,?_⟩ <;> (try simp only [List.length_map,List.length_append,List.length_cons,List.length_nil] at*) <;> (try unfold maxLen) <;> omega) (Z ?_)
     refine Bo (u4.map Statement.ds) (by rw [← hv16008b]; simp only [List.map_append,List.map_cons,List.map_nil,List.nil_append,List.append_nil,go_sem,Statement.ds_eq]) (Z ?_)
     refine AL ?_
     exact lpF (ih1 a0 w y u4 (IntKind.i64.wrap (g+1)) _ h) [(1000007000,256128)] []
    ·refine AL ?_
     exact lpF (ih1 a0 w y q (IntKind.i64.wrap (g+1)) _ h) [(1000007000,1000008000)] []
def G7 (n:Nat):=(Gg n).1
theorem IQ (a0 r) (h:Bw a0=some r):AC Tryz.prog 117 [.rop (Cluster.avs a0) 0] (.ow (some 10) (r.map Statement.ds)):=by
 unfold Bw at h
 refine acF Tryz.func117 mixed (h:=Z ?_)
 refine DW (Ck rfl rfl (G7 fuel a0 [] 0 _ h):) (.one ⟨_,.slot 3 2000000000 (some 10) .no (by simp only [go_sem]) (by simp only [go_sem]) (.done _),[(1000000000,2000000000)],[],?_⟩)
 simp only [go_sem]
 all_goals try rfl
theorem DC (a0:Cluster) (u:Bool) (r:Bool) (h:BS a0 u=some r):Ac Tryz.prog Tryz.f49 [1,1,1,0,1] (.bool r) ⟨[(1,.box 1000001500 0),(48,.bool u)],[],[(1000001500,some (Cluster.avs a0))]⟩:=by
 unfold BS at h
 refine AR rfl rfl (Z ?_)
 refine AH h (fun h=>Z ?_) (fun h=>Z ?_)
 ·exact AJ trivial h
 ·refine AL ?_
  replace h:=AD h; obtain⟨w,y,h⟩:=h
  refine AK (Je _ _ 114 [] (Still.of rfl) (fun y0 q hq=>Mm y0  q hq) _ y) (Z ?_)
  refine AL ?_
  refine AH h (fun h=>Z ?_) (fun h=>Z ?_)
  ·exact AJ trivial h
  ·refine AL ?_
   replace h:=AD h; obtain⟨g,j,h⟩:=h
   refine AK (IQ _ _ j) (Z ?_)
   replace h:=AD h; obtain⟨k,b,h⟩:=h
   refine AK (As (Mn _ _ _ b) (.cons (.rop rfl) (.cons (.refl _) .nil))) (Z ?_)
   exact AJ trivial h
theorem Fz (a0:Cluster) (u:Int) (w:Bool) (r:Bool) (h:CT a0 u w=some r):Ac Tryz.prog Tryz.f49 [1,1,0,1] (.bool r) ⟨[(1,.box 1000000500 0),(3,.int .i64 u),(17,.bool w)],[],[(1000000500,some (Cluster.avs a0))]⟩:=by
 unfold CT at h
 refine AR rfl rfl (Z ?_)
 refine AH h (fun h=>Z ?_) (fun h=>Z ?_)
 ·exact AJ trivial h
 ·refine AL ?_
  refine AH h (fun h=>Z ?_) (fun h=>Z ?_)
  ·exact ES (DC a0 true _ h) [] [(1000001500,1000000500)]
  ·refine AH h (fun h=>Z ?_) (fun h=>Z ?_)
   ·exact ES (DC a0 true _ h) [] [(1000001500,1000000500)]
   ·refine AH h (fun h=>Z ?_) (fun h=>Z ?_)
    ·exact ES (DC a0 true _ h) [] [(1000001500,1000000500)]
    ·replace h:=AD h; obtain⟨y,q,h⟩:=h
     refine AK (Jy _ _ _ q) (Z ?_)
     refine AH h (fun h=>Z ?_) (fun h=>Z ?_)
     ·exact ES (DC a0 true _ h) [] [(1000001500,1000000500)]
     ·replace h:=AD h; obtain⟨g,j,h⟩:=h
      refine AK (Jy _ _ _ j) (Z ?_)
      exact ES (DC a0 (!g) _ h) [] [(1000001500,1000000500)]
theorem HT (a0 r) (h:Dr a0=some r):AC Tryz.prog 49 [.agg (Cluster.avs a0)] (.bool r):=by
 unfold Dr at h
 refine acF Tryz.func49 mixed (h:=Z ?_)
 replace h:=AD h; obtain⟨u,w,h⟩:=h
 refine AK (D3 _ _ w) (Z ?_)
 refine AL ?_
 refine AH h (fun h=>Z ?_) (fun h=>Z ?_)
 ·exact ES (Fz a0 u true _ h) [] [(1000000500,1000)]
 ·refine AH h (fun h=>Z ?_) (fun h=>Z ?_)
  ·exact ES (Fz a0 u true _ h) [] [(1000000500,1000)]
  ·replace h:=AD h; obtain⟨y,q,h⟩:=h
   refine AK (JV _ _ _ q) (Z ?_)
   exact ES (Fz a0 u (!y) _ h) [] [(1000000500,1000)]
end Go.Proofs.YtclmbjbbojdojaaGreat.Ab
