/-
 The functions do what their models say. Printed by wip/ab/gen.py.
-/
import Derived.Test.YtclmbjbbojdojaaGreatModI
import Derived.Test.YtclmbjbbojdojaaGreatTi2
import Derived.Test.YtclmbjbbojdojaaGreatManM
import Derived.Test.YtclmbjbbojdojaaGreatWlkY
namespace Go.Proofs.YtclmbjbbojdojaaGreat.Ab
set_option linter.defProp false
set_option linter.unusedVariables false
set_option linter.unusedSimpArgs false
set_option maxRecDepth 20000
set_option maxHeartbeats 4000000
open Go.RowKit
theorem GV (a0 r) (h:B0 a0=some r):AC Tryz.prog 51 [.rop (Cluster.avs a0) 0] (.int .i64 r):=by
 unfold B0 at h
 refine acF Tryz.func51 mixed (h:=Z ?_)
 exact AF trivial h
theorem Vo (a0 a1 r) (h:KI a0 a1=some r):AC Tryz.prog 122 [.int .i64 a0,.rop [.int .i64 a1] 0] (.bool r):=by
 unfold KI at h
 refine acF Tryz.func122 mixed (h:=Z ?_)
 exact AF trivial h
theorem NZ (a0 a1 r) (h:Gg a0 a1=some r):AC Tryz.prog 52 [.int .i64 a0,.ro (a1.map AB)] (.bool r):=by
 unfold Gg at h
 refine acF Tryz.func52 mixed (h:=Z ?_)
 replace h:=AD h; obtain⟨u,w,h⟩:=h
 refine AY (HV _ _ 122 [.agg [],.rop [.int .i64 a0] 0] (Still.of (by simp only [E6,Gc,Bool.and_true,Bool.true_and,Bool.and_self])) (fun y0 q hq=>Vo y0 _ q hq) _ w) (Z ?_)
 exact AF trivial h
theorem Iv (n:Nat):(∀ (a0:List Parcel) (u:Int) (f1:(Parcel→Option Bool)) (g1:FuncId) (c1:List AV) (s1:Still c1) (h1:∀ (y0:Parcel) (q:Bool),f1 y0=some q→AC Tryz.prog g1 (fnA c1 [.agg (Parcel.avs y0)]) (.bool q)) (r:Int),A5 n a0 u f1=some r→Aa Tryz.prog Tryz.f230 [1,0,1,0] (.int .i64 r) ⟨[(0,.ro (a0.map Parcel.ds)),(1,.fn g1 c1),(7,.int .i64 (a0.length:Int)),(8,.int .i64 u)],[],[]⟩):=by
 induction n with
 |zero=>exact((fun _ _ _ _ _ _ _ _ h=>by rw [A5] at h; cases h))
 | succ n ih=>
  have ih0:=ih
  ·intro a0 u f1 g1 c1 s1 h1 r h
   rw [A5] at h
   refine Ah rfl rfl ?_
   try simp only [go_sem,s1.k,s1.r,s1.c,s1.p,s1.o,s1.f]
   refine Ae ?_
   try simp only [go_sem,s1.k,s1.r,s1.c,s1.p,s1.o,s1.f]
   refine AJ h (fun h=>?_) (fun h=>?_)
   ·try simp only [go_sem,s1.k,s1.r,s1.c,s1.p,s1.o,s1.f]
    refine Bv ?_
    try simp only [go_sem,s1.k,s1.r,s1.c,s1.p,s1.o,s1.f]
    replace h:=AD h; obtain⟨w,y,h⟩:=h
    refine AO y (Parcel.ds_len _) ?_
    try simp only [go_sem,s1.k,s1.r,s1.c,s1.p,s1.o,s1.f]
    replace h:=AD h; obtain⟨g,j,h⟩:=h
    refine AY (h1 _ _ j) ?_
    try simp only [go_sem,s1.k,s1.r,s1.c,s1.p,s1.o,s1.f]
    refine Bv ?_
    try simp only [go_sem,s1.k,s1.r,s1.c,s1.p,s1.o,s1.f]
    refine AJ h (fun h=>?_) (fun h=>?_)
    ·try simp only [go_sem,s1.k,s1.r,s1.c,s1.p,s1.o,s1.f]
     cases h
     simp only [go_sem,s1.k,s1.r,s1.c,s1.p,s1.o,s1.f]
    ·try simp only [go_sem,s1.k,s1.r,s1.c,s1.p,s1.o,s1.f]
     refine Bv ?_
     try simp only [go_sem,s1.k,s1.r,s1.c,s1.p,s1.o,s1.f]
     refine QU (CH rfl rfl (ih0 a0 (IntKind.i64.wrap (u+1)) f1 g1 c1 s1 h1 _ h):) (.one ⟨_,.done _,[],[],?_⟩)
     try simp only [go_sem,s1.k,s1.r,s1.c,s1.p,s1.o,s1.f]
   ·try simp only [go_sem,s1.k,s1.r,s1.c,s1.p,s1.o,s1.f]
    refine Bv ?_
    try simp only [go_sem,s1.k,s1.r,s1.c,s1.p,s1.o,s1.f]
    cases h
    simp only [go_sem,s1.k,s1.r,s1.c,s1.p,s1.o,s1.f]
theorem Ji (a0:List Parcel) (f1:(Parcel→Option Bool)) (g1:FuncId) (c1:List AV) (s1:Still c1) (h1:∀ (y0:Parcel) (q:Bool),f1 y0=some q→AC Tryz.prog g1 (fnA c1 [.agg (Parcel.avs y0)]) (.bool q)) (r:Int) (h:FE a0 f1=some r):AC Tryz.prog 230 [.ro (a0.map Parcel.ds),.fn g1 c1] (.int .i64 r):=by
 unfold FE at h
 refine acF Tryz.func230 mixed (h:=?_)
 try simp only [go_sem,s1.k,s1.r,s1.c,s1.p,s1.o,s1.f]
 refine CX (CH rfl rfl (Iv fuel a0 0 f1 g1 c1 s1 h1 _ h):) (.one ⟨_,.done _,[],[],?_⟩)
 try simp only [go_sem,s1.k,s1.r,s1.c,s1.p,s1.o,s1.f]
theorem Fo (a0:List Parcel) (f1:(Parcel→Option Bool)) (g1:FuncId) (c1:List AV) (s1:Still c1) (h1:∀ (y0:Parcel) (q:Bool),f1 y0=some q→AC Tryz.prog g1 (fnA c1 [.agg (Parcel.avs y0)]) (.bool q)) (r:Bool) (h:BN a0 f1=some r):AC Tryz.prog 166 [.ro (a0.map Parcel.ds),.fn g1 c1] (.bool r):=by
 unfold BN at h
 refine acF Tryz.func166 mixed (h:=?_)
 try simp only [go_sem,s1.k,s1.r,s1.c,s1.p,s1.o,s1.f]
 replace h:=AD h; obtain⟨u,w,h⟩:=h
 refine AY (Ji _ _ g1 c1 s1 h1 _ w) ?_
 try simp only [go_sem,s1.k,s1.r,s1.c,s1.p,s1.o,s1.f]
 refine Bv ?_
 try simp only [go_sem,s1.k,s1.r,s1.c,s1.p,s1.o,s1.f]
 cases h
 simp only [go_sem,s1.k,s1.r,s1.c,s1.p,s1.o,s1.f]
theorem OP (a0:Parcel) (a1:Int) (u:Bool) (r:Bool) (h:Fa a0 a1 u=some r):Aa Tryz.prog Tryz.f168 [1,1,0,1] (.bool r) ⟨[(1,.int .i64 a1),(2,.box 1000000500 0),(17,.bool u)],[],[(1000000500,some (Parcel.avs a0))]⟩:=by
 unfold Fa at h
 exact AF (k1 Jc) h
theorem SB (a0 a1 r) (h:HJ a0 a1=some r):AC Tryz.prog 168 [.agg (Parcel.avs a0),.int .i64 a1] (.bool r):=by
 unfold HJ at h
 refine acF Tryz.func168 mixed (h:=Z ?_)
 exact AF (k2 Ka OP) h
theorem JN (a0 a1 r) (h:Dq a0 a1=some r):AC Tryz.prog 167 [.agg (Parcel.avs a0),.rop [.int .i64 a1] 0] (.bool r):=by
 unfold Dq at h
 refine acF Tryz.func167 mixed (h:=Z ?_)
 exact AF (k1 SB) h
theorem MN (n:Nat):(∀a0 a1 u r,Az n a0 a1 u=some r→Aa Tryz.prog Tryz.f112 [1,1,0,1,0] (.bool r) ⟨[(1,.int .i64 a1),(15,.ro (List.map (slD Parcel.ds) a0)),(16,.int .i64 (a0.length:Int)),(17,.int .i64 u)],[],[]⟩)∧
    (∀a0 a1 u w r,BK n a0 a1 u w=some r→Aa Tryz.prog Tryz.f112 [1,1,0,1,0,0,1,1,0,0,1,1,1] (.bool r) ⟨[(1,.int .i64 a1),(15,.ro (List.map (slD Parcel.ds) a0)),(16,.int .i64 (a0.length:Int)),(17,.int .i64 u),(45,.bool w)],[],[]⟩):=by
 induction n with
 |zero=>exact⟨(fun _ _ _ _ h=>by rw [Az] at h; cases h),(fun _ _ _ _ _ h=>by rw [BK] at h; cases h)⟩
 | succ n ih=>
  obtain⟨ih0,ih1⟩:=ih
  refine⟨?_,?_⟩
  ·intro a0 a1 u r h
   rw [Az] at h
   refine Ah rfl rfl (Z ?_)
   refine Ae (Z ?_)
   refine AJ h (fun h=>Z ?_) (fun h=>Z ?_)
   ·refine AW ?_
    replace h:=AD h; obtain⟨y,g,h⟩:=h
    refine AO g rfl (Z ?_)
    refine CT [false,false,false,false,false,false,false,false,true] (Tr.sq [8] .fin) (by kernel_rfl) (Z ?_)
    replace h:=AD h; obtain⟨j,k,h⟩:=h
    refine Ad (XM k) (Z ?_)
    replace h:=AD h; obtain⟨b,d,h⟩:=h
    refine Ad (XM d) (Z ?_)
    refine AW ?_
    refine AJ h (fun h=>Z ?_) (fun h=>Z ?_)
    ·refine AJ h (fun h=>Z ?_) (fun h=>Z ?_)
     ·exact AF (k1 ih1) h
     ·refine AJ h (fun h=>Z ?_) (fun h=>Z ?_)
      ·exact AF (k1 ih1) h
      ·replace h:=AD h; obtain⟨c,e,h⟩:=h
       refine AY (Fo _ _ 167 [.agg [],.rop [.int .i64 (Int.tmod u a1)] 0] (Still.of (by simp only [E6,Gc,Bool.and_true,Bool.true_and,Bool.and_self])) (fun y0 q hq=>JN y0 _ q hq) _ e) (Z ?_)
       exact AF (k1 ih1) h
    ·refine AJ h (fun h=>Z ?_) (fun h=>Z ?_)
     ·exact AF (k1 ih1) h
     ·replace h:=AD h; obtain⟨c,e,h⟩:=h
      refine AY (Fo _ _ 167 [.agg [],.rop [.int .i64 (Int.tmod u a1)] 0] (Still.of (by simp only [E6,Gc,Bool.and_true,Bool.true_and,Bool.and_self])) (fun y0 q hq=>JN y0 _ q hq) _ e) (Z ?_)
      exact AF (k1 ih1) h
   ·exact AF trivial h
  ·intro a0 a1 u w r h
   rw [BK] at h
   exact AF (k1 ih0) h
def Ml (n:Nat):=(MN n).1
theorem Pd (a0 a1 r) (h:GE a0 a1=some r):AC Tryz.prog 112 [.ro (List.map (slD Parcel.ds) a0),.int .i64 a1] (.bool r):=by
 unfold GE at h
 refine acF Tryz.func112 mixed (h:=Z ?_)
 exact AF (k1 Ml) h
theorem Kh (n:Nat):(∀ (a0:List (List Int)) (u:Int) (f1:((List Int)→Option Bool)) (g1:FuncId) (c1:List AV) (s1:Still c1) (h1:∀ (y0:List Int) (q:Bool),f1 y0=some q→AC Tryz.prog g1 (fnA c1 [.ro (y0.map AB)]) (.bool q)) (r:Int),Bf n a0 u f1=some r→Aa Tryz.prog Tryz.f169 [1,0,1,0] (.int .i64 r) ⟨[(0,.ro (List.map (slD AB) a0)),(1,.fn g1 c1),(7,.int .i64 (a0.length:Int)),(8,.int .i64 u)],[],[]⟩):=by
 induction n with
 |zero=>exact((fun _ _ _ _ _ _ _ _ h=>by rw [Bf] at h; cases h))
 | succ n ih=>
  have ih0:=ih
  ·intro a0 u f1 g1 c1 s1 h1 r h
   rw [Bf] at h
   refine Ah rfl rfl ?_
   try simp only [go_sem,s1.k,s1.r,s1.c,s1.p,s1.o,s1.f]
   refine Ae ?_
   try simp only [go_sem,s1.k,s1.r,s1.c,s1.p,s1.o,s1.f]
   refine AJ h (fun h=>?_) (fun h=>?_)
   ·try simp only [go_sem,s1.k,s1.r,s1.c,s1.p,s1.o,s1.f]
    refine Bv ?_
    try simp only [go_sem,s1.k,s1.r,s1.c,s1.p,s1.o,s1.f]
    replace h:=AD h; obtain⟨w,y,h⟩:=h
    refine AO y rfl ?_
    try simp only [go_sem,s1.k,s1.r,s1.c,s1.p,s1.o,s1.f]
    replace h:=AD h; obtain⟨g,j,h⟩:=h
    refine AY (h1 _ _ j) ?_
    try simp only [go_sem,s1.k,s1.r,s1.c,s1.p,s1.o,s1.f]
    refine Bv ?_
    try simp only [go_sem,s1.k,s1.r,s1.c,s1.p,s1.o,s1.f]
    refine AJ h (fun h=>?_) (fun h=>?_)
    ·try simp only [go_sem,s1.k,s1.r,s1.c,s1.p,s1.o,s1.f]
     cases h
     simp only [go_sem,s1.k,s1.r,s1.c,s1.p,s1.o,s1.f]
    ·try simp only [go_sem,s1.k,s1.r,s1.c,s1.p,s1.o,s1.f]
     refine Bv ?_
     try simp only [go_sem,s1.k,s1.r,s1.c,s1.p,s1.o,s1.f]
     refine QU (CH rfl rfl (ih0 a0 (IntKind.i64.wrap (u+1)) f1 g1 c1 s1 h1 _ h):) (.one ⟨_,.done _,[],[],?_⟩)
     try simp only [go_sem,s1.k,s1.r,s1.c,s1.p,s1.o,s1.f]
   ·try simp only [go_sem,s1.k,s1.r,s1.c,s1.p,s1.o,s1.f]
    refine Bv ?_
    try simp only [go_sem,s1.k,s1.r,s1.c,s1.p,s1.o,s1.f]
    cases h
    simp only [go_sem,s1.k,s1.r,s1.c,s1.p,s1.o,s1.f]
theorem MO (a0:List (List Int)) (f1:((List Int)→Option Bool)) (g1:FuncId) (c1:List AV) (s1:Still c1) (h1:∀ (y0:List Int) (q:Bool),f1 y0=some q→AC Tryz.prog g1 (fnA c1 [.ro (y0.map AB)]) (.bool q)) (r:Int) (h:HC a0 f1=some r):AC Tryz.prog 169 [.ro (List.map (slD AB) a0),.fn g1 c1] (.int .i64 r):=by
 unfold HC at h
 refine acF Tryz.func169 mixed (h:=?_)
 try simp only [go_sem,s1.k,s1.r,s1.c,s1.p,s1.o,s1.f]
 refine CX (CH rfl rfl (Kh fuel a0 0 f1 g1 c1 s1 h1 _ h):) (.one ⟨_,.done _,[],[],?_⟩)
 try simp only [go_sem,s1.k,s1.r,s1.c,s1.p,s1.o,s1.f]
theorem Ki (a0:List (List Int)) (f1:((List Int)→Option Bool)) (g1:FuncId) (c1:List AV) (s1:Still c1) (h1:∀ (y0:List Int) (q:Bool),f1 y0=some q→AC Tryz.prog g1 (fnA c1 [.ro (y0.map AB)]) (.bool q)) (r:Bool) (h:EB a0 f1=some r):AC Tryz.prog 113 [.ro (List.map (slD AB) a0),.fn g1 c1] (.bool r):=by
 unfold EB at h
 refine acF Tryz.func113 mixed (h:=?_)
 try simp only [go_sem,s1.k,s1.r,s1.c,s1.p,s1.o,s1.f]
 replace h:=AD h; obtain⟨u,w,h⟩:=h
 refine AY (MO _ _ g1 c1 s1 h1 _ w) ?_
 try simp only [go_sem,s1.k,s1.r,s1.c,s1.p,s1.o,s1.f]
 refine Bv ?_
 try simp only [go_sem,s1.k,s1.r,s1.c,s1.p,s1.o,s1.f]
 cases h
 simp only [go_sem,s1.k,s1.r,s1.c,s1.p,s1.o,s1.f]
theorem Nc (a0 r) (h:GZ a0=some r):AC Tryz.prog 115 [.ro (a0.map AB)] (.bool r):=by
 unfold GZ at h
 refine acF Tryz.func115 mixed (h:=Z ?_)
 exact AF (k1 NZ) h
theorem OQ (a0 r) (h:G2 a0=some r):AC Tryz.prog 114 [.ro (a0.map AB)] (.bool r):=by
 unfold G2 at h
 refine acF Tryz.func114 mixed (h:=Z ?_)
 exact AF (k1 Nc) h
theorem JO (n:Nat):(∀ (a0:List Shard) (u:Int) (f1:(Shard→Option Bool)) (g1:FuncId) (c1:List AV) (s1:Still c1) (h1:∀ (y0:Shard) (q:Bool),f1 y0=some q→AC Tryz.prog g1 (fnA c1 [.agg (Shard.avs y0)]) (.bool q)) (r:Int),BB n a0 u f1=some r→Aa Tryz.prog Tryz.f197 [1,0,1,0] (.int .i64 r) ⟨[(0,.ro (a0.map Shard.ds)),(1,.fn g1 c1),(7,.int .i64 (a0.length:Int)),(8,.int .i64 u)],[],[]⟩):=by
 induction n with
 |zero=>exact((fun _ _ _ _ _ _ _ _ h=>by rw [BB] at h; cases h))
 | succ n ih=>
  have ih0:=ih
  ·intro a0 u f1 g1 c1 s1 h1 r h
   rw [BB] at h
   refine Ah rfl rfl ?_
   try simp only [go_sem,s1.k,s1.r,s1.c,s1.p,s1.o,s1.f]
   refine Ae ?_
   try simp only [go_sem,s1.k,s1.r,s1.c,s1.p,s1.o,s1.f]
   refine AJ h (fun h=>?_) (fun h=>?_)
   ·try simp only [go_sem,s1.k,s1.r,s1.c,s1.p,s1.o,s1.f]
    refine Bv ?_
    try simp only [go_sem,s1.k,s1.r,s1.c,s1.p,s1.o,s1.f]
    replace h:=AD h; obtain⟨w,y,h⟩:=h
    refine AO y (Shard.ds_len _) ?_
    try simp only [go_sem,s1.k,s1.r,s1.c,s1.p,s1.o,s1.f]
    replace h:=AD h; obtain⟨g,j,h⟩:=h
    refine AY (h1 _ _ j) ?_
    try simp only [go_sem,s1.k,s1.r,s1.c,s1.p,s1.o,s1.f]
    refine Bv ?_
    try simp only [go_sem,s1.k,s1.r,s1.c,s1.p,s1.o,s1.f]
    refine AJ h (fun h=>?_) (fun h=>?_)
    ·try simp only [go_sem,s1.k,s1.r,s1.c,s1.p,s1.o,s1.f]
     cases h
     simp only [go_sem,s1.k,s1.r,s1.c,s1.p,s1.o,s1.f]
    ·try simp only [go_sem,s1.k,s1.r,s1.c,s1.p,s1.o,s1.f]
     refine Bv ?_
     try simp only [go_sem,s1.k,s1.r,s1.c,s1.p,s1.o,s1.f]
     refine QU (CH rfl rfl (ih0 a0 (IntKind.i64.wrap (u+1)) f1 g1 c1 s1 h1 _ h):) (.one ⟨_,.done _,[],[],?_⟩)
     try simp only [go_sem,s1.k,s1.r,s1.c,s1.p,s1.o,s1.f]
   ·try simp only [go_sem,s1.k,s1.r,s1.c,s1.p,s1.o,s1.f]
    refine Bv ?_
    try simp only [go_sem,s1.k,s1.r,s1.c,s1.p,s1.o,s1.f]
    cases h
    simp only [go_sem,s1.k,s1.r,s1.c,s1.p,s1.o,s1.f]
theorem Kb (a0:List Shard) (f1:(Shard→Option Bool)) (g1:FuncId) (c1:List AV) (s1:Still c1) (h1:∀ (y0:Shard) (q:Bool),f1 y0=some q→AC Tryz.prog g1 (fnA c1 [.agg (Shard.avs y0)]) (.bool q)) (r:Int) (h:Fb a0 f1=some r):AC Tryz.prog 197 [.ro (a0.map Shard.ds),.fn g1 c1] (.int .i64 r):=by
 unfold Fb at h
 refine acF Tryz.func197 mixed (h:=?_)
 try simp only [go_sem,s1.k,s1.r,s1.c,s1.p,s1.o,s1.f]
 refine CX (CH rfl rfl (JO fuel a0 0 f1 g1 c1 s1 h1 _ h):) (.one ⟨_,.done _,[],[],?_⟩)
 try simp only [go_sem,s1.k,s1.r,s1.c,s1.p,s1.o,s1.f]
theorem JP (a0:List Shard) (f1:(Shard→Option Bool)) (g1:FuncId) (c1:List AV) (s1:Still c1) (h1:∀ (y0:Shard) (q:Bool),f1 y0=some q→AC Tryz.prog g1 (fnA c1 [.agg (Shard.avs y0)]) (.bool q)) (r:Bool) (h:B8 a0 f1=some r):AC Tryz.prog 142 [.ro (a0.map Shard.ds),.fn g1 c1] (.bool r):=by
 unfold B8 at h
 refine acF Tryz.func142 mixed (h:=?_)
 try simp only [go_sem,s1.k,s1.r,s1.c,s1.p,s1.o,s1.f]
 replace h:=AD h; obtain⟨u,w,h⟩:=h
 refine AY (Kb _ _ g1 c1 s1 h1 _ w) ?_
 try simp only [go_sem,s1.k,s1.r,s1.c,s1.p,s1.o,s1.f]
 refine Bv ?_
 try simp only [go_sem,s1.k,s1.r,s1.c,s1.p,s1.o,s1.f]
 cases h
 simp only [go_sem,s1.k,s1.r,s1.c,s1.p,s1.o,s1.f]
theorem Mm (a0 r) (h:EV a0=some r):AC Tryz.prog 170 [.agg (Shard.avs a0)] (.bool r):=by
 unfold EV at h
 refine acF Tryz.func170 mixed (h:=Z ?_)
 exact AF (k1 TB) h
theorem Lq (a0 a1 r) (h:GO a0 a1=some r):AC Tryz.prog 137 [.int .i64 a0,.int .i64 a1] (.agg (Address.rv r)):=by
 unfold GO at h
 refine acF Tryz.func137 mixed (h:=Z ?_)
 exact AF trivial h
theorem Ma (a0 a1 r) (h:G3 a0 a1=some r):AC Tryz.prog 196 [.int .i64 a0,.int .i64 a1] (.agg (Address.rv r)):=by
 unfold G3 at h
 refine acF Tryz.func196 mixed (h:=Z ?_)
 exact AF trivial h
theorem Pe (a0:Grid) (a1:Address) (u:Bool) (r:Bool) (h:Dw a0 a1 u=some r):Aa Tryz.prog Tryz.f232 [1,0,1] (.bool r) ⟨[(0,.rop (Grid.avs a0) 0),(3,.box 1000000500 0),(23,.bool u)],[],[(1000000500,some (Address.avs a1))]⟩:=by
 unfold Dw at h
 refine Ah rfl rfl (Z ?_)
 refine AJ h (fun h=>Z ?_) (fun h=>Z ?_)
 ·exact AF trivial h
 ·refine AW ?_
  refine CT [false,false,false,false,false,false,false,false,false,true] (Tr.sq [9] .fin) (by kernel_rfl) (Z ?_)
  exact AF trivial h
theorem TC (a0 a1 r) (h:Fz a0 a1=some r):AC Tryz.prog 232 [.rop (Grid.avs a0) 0,.agg (Address.avs a1)] (.bool r):=by
 unfold Fz at h
 refine acF Tryz.func232 mixed (h:=Z ?_)
 exact AF (k1 Pe) h
theorem TD (n:Nat):(∀a0 u w r,Ex n a0 u w=some r→Dl Tryz.prog Tryz.f233 [1,1,0,1,0] (.mpr 1601) [] [(1601,[.mpc (.wide [.i64,.i64,.i64]) (r.map Im)])] ⟨[(3,.mpr 1000003500),(9,.ro (a0.map Statement.ds)),(10,.int .i64 (a0.length:Int)),(11,.int .i64 w)],[],[(1000003500,some [.mpc (.wide [.i64,.i64,.i64]) (u.map Im)])]⟩)∧
    (∀a0 w y q g r,Dh n a0 w y q g=some r→Dl Tryz.prog Tryz.f233 [1,1,0,1,0,0,1,1,0,0,1,1,0] (.mpr 1601) [] [(1601,[.mpc (.wide [.i64,.i64,.i64]) (r.map Im)])] ⟨[(3,.mpr 1000005500),(9,.ro (a0.map Statement.ds)),(10,.int .i64 (a0.length:Int)),(11,.int .i64 w),(19,.own 1000005000),(20,.int .i64 2),(21,.int .i64 g)],[(1000005000,some ⟨List.map Thing.ds [y.a,y.b],some 5,0,.no⟩)],[(1000005500,some [.mpc (.wide [.i64,.i64,.i64]) (q.map Im)])]⟩):=by
 induction n with
 |zero=>exact⟨(fun _ _ _ _ h=>by rw [Ex] at h; cases h),(fun _ _ _ _ _ _ h=>by rw [Dh] at h; cases h)⟩
 | succ n ih=>
  obtain⟨ih0,ih1⟩:=ih
  refine⟨?_,?_⟩
  ·intro a0 u w r h
   rw [Ex] at h
   refine BO rfl rfl (Z ?_)
   refine Ae (Z ?_)
   refine AJ h (fun h=>Z ?_) (fun h=>Z ?_)
   ·refine AW ?_
    replace h:=AD h; obtain⟨y,j,h⟩:=h
    refine AO j (Statement.ds_len _) (Z ?_)
    refine AW ?_
    refine AW ?_
    refine CX (Je rfl rfl (ih1 a0 w y u 0 _ h):) (.one ⟨_,.lit 19 2000000000 6004 2 5 .no [] _ _ (by (first|rfl|(simp only [go_sem]; rfl))) (by simp only [go_sem]; rfl) (by (first|rfl|(simp only [go_sem]; rfl))) (by (first|rfl|(simp only [go_sem]; rfl))) (by decide) (by decide) (by simp only [go_sem]) (.done _),[(1000005000,2000000000)],[(1000005500,1000003500)],?_⟩)
    simp only [go_sem]
    all_goals try rfl
   ·exact AF trivial h
  ·intro a0 w y q g r h
   rw [Dh] at h
   refine BO rfl rfl (Z ?_)
   refine Ae (Z ?_)
   refine AJ h (fun h=>Z ?_) (fun h=>Z ?_)
   ·refine AW ?_
    replace h:=AD h; obtain⟨k,d,h⟩:=h
    refine AO d (Thing.ds_len _) (Z ?_)
    refine Ai (AU (f:=Thing.ds) d) (Z ?_)
    refine AW ?_
    refine AJ h (fun h=>Z ?_) (fun h=>Z ?_)
    ·replace h:=AD h; obtain⟨c,e,h⟩:=h
     refine pp e rfl rfl (by (first|rfl|(simp only [go_sem]; rfl))) (by (first|rfl|(simp only [go_sem]; rfl))) (by (first|rfl|(simp only [go_sem]; rfl))) (by (first|rfl|(simp only [go_sem]; rfl))) (Z ?_)
     exact AF (k1 ih1) h
    ·exact AF (k1 ih1) h
   ·exact AF (k1 ih0) h
def VF (n:Nat):=(TD n).1
theorem ay (a0 r) (h:Th a0=some r):AG Tryz.prog 233 [.ro (a0.map Statement.ds)] [] [] (.mpr 1601) [] [(1601,[.mpc (.wide [.i64,.i64,.i64]) (r.map Im)])] :=by
 unfold Th at h
 refine agF Tryz.func233 mixed (h:=Z ?_)
 exact Sw (VF fuel a0 [] 0 _ h)
theorem Kc (n:Nat):(∀a0 u w r,AX n a0 u w=some r→Aa Tryz.prog Tryz.f171 [1,1,1,0,1,0] (.bool r) ⟨[(7,.mpr 1000015500),(52,.ro (a0.shards.map Shard.ds)),(53,.int .i64 (a0.shards.length:Int)),(54,.int .i64 w)],[],[(1000015500,some [.mpc (.wide [.i64,.i64,.i64]) (u.map Im)])]⟩)∧
    (∀a0 w u y q r,Ag n a0 w u y q=some r→Aa Tryz.prog Tryz.f171 [1,1,1,0,1,0,0,1,1,0,0,1,0,1,0] (.bool r) ⟨[(7,.mpr 1000024500),(8,.int .i64 w),(9,.box 1000024501 0),(52,.ro (a0.shards.map Shard.ds)),(53,.int .i64 (a0.shards.length:Int)),(54,.int .i64 w),(60,.ro (y.cells.map ShardCell.ds)),(61,.int .i64 (y.cells.length:Int)),(62,.int .i64 q)],[],[(1000024500,some [.mpc (.wide [.i64,.i64,.i64]) (u.map Im)]),(1000024501,some (Shard.avs y))]⟩)∧
    (∀a0 w q u y g r,Bg n a0 w q u y g=some r→Aa Tryz.prog Tryz.f171 [1,1,1,0,1,0,0,1,1,0,0,1,0,1,0,0,1,1,0,0,1,1] (.bool r) ⟨[(7,.mpr 1000025500),(8,.int .i64 w),(9,.box 1000025501 0),(52,.ro (a0.shards.map Shard.ds)),(53,.int .i64 (a0.shards.length:Int)),(54,.int .i64 w),(60,.ro (y.cells.map ShardCell.ds)),(61,.int .i64 (y.cells.length:Int)),(62,.int .i64 q),(77,.bool g)],[],[(1000025500,some [.mpc (.wide [.i64,.i64,.i64]) (u.map Im)]),(1000025501,some (Shard.avs y))]⟩)∧
    (∀a0 w u y j r,Au n a0 w u y j=some r→Aa Tryz.prog Tryz.f171 [1,1,1,0,1,0,0,1,1,0,0,1,1,1,0] (.bool r) ⟨[(7,.mpr 1000026500),(8,.int .i64 w),(52,.ro (a0.shards.map Shard.ds)),(53,.int .i64 (a0.shards.length:Int)),(54,.int .i64 w),(80,.ro (y.vars.map ShardVar.ds)),(81,.int .i64 (y.vars.length:Int)),(82,.int .i64 j)],[],[(1000026500,some [.mpc (.wide [.i64,.i64,.i64]) (u.map Im)])]⟩)∧
    (∀a0 w j u y k r,Bh n a0 w j u y k=some r→Aa Tryz.prog Tryz.f171 [1,1,1,0,1,0,0,1,1,0,0,1,1,1,0,0,1,1,0,0,1,1] (.bool r) ⟨[(7,.mpr 1000027500),(8,.int .i64 w),(52,.ro (a0.shards.map Shard.ds)),(53,.int .i64 (a0.shards.length:Int)),(54,.int .i64 w),(80,.ro (y.vars.map ShardVar.ds)),(81,.int .i64 (y.vars.length:Int)),(82,.int .i64 j),(96,.bool k)],[],[(1000027500,some [.mpc (.wide [.i64,.i64,.i64]) (u.map Im)])]⟩):=by
 induction n with
 |zero=>exact⟨(fun _ _ _ _ h=>by rw [AX] at h; cases h),(fun _ _ _ _ _ _ h=>by rw [Ag] at h; cases h),(fun _ _ _ _ _ _ _ h=>by rw [Bg] at h; cases h),(fun _ _ _ _ _ _ h=>by rw [Au] at h; cases h),(fun _ _ _ _ _ _ _ h=>by rw [Bh] at h; cases h)⟩
 | succ n ih=>
  obtain⟨ih0,ih1,ih2,ih3,ih4⟩:=ih
  refine⟨?_,?_,?_,?_,?_⟩
  ·intro a0 u w r h
   rw [AX] at h
   exact AF (k1 ih1) h
  ·intro a0 w u y q r h
   rw [Ag] at h
   refine Ah rfl rfl (Z ?_)
   refine Ae (Z ?_)
   refine AJ h (fun h=>Z ?_) (fun h=>Z ?_)
   ·refine AW ?_
    replace h:=AD h; obtain⟨d,c,h⟩:=h
    refine AO c (ShardCell.ds_len _) (Z ?_)
    refine AW ?_
    refine AJ h (fun h=>Z ?_) (fun h=>Z ?_)
    ·replace h:=AD h; obtain⟨e,i,h⟩:=h
     refine AY (Lq _ _ _ i) (Z ?_)
     exact mB (ih2 a0 w q u y (!decide (((EM u [e.machine,e.kind,e.index]).getD 0)=1)) _ h)
    ·exact AF (k1 ih2) h
   ·exact AF (k1 ih3) h
  ·intro a0 w q u y g r h
   rw [Bg] at h
   exact AF (k1 ih1) h
  ·intro a0 w u y j r h
   rw [Au] at h
   refine Ah rfl rfl (Z ?_)
   refine Ae (Z ?_)
   refine AJ h (fun h=>Z ?_) (fun h=>Z ?_)
   ·refine AW ?_
    replace h:=AD h; obtain⟨l,t,h⟩:=h
    refine AO t (ShardVar.ds_len _) (Z ?_)
    refine AW ?_
    refine AJ h (fun h=>Z ?_) (fun h=>Z ?_)
    ·replace h:=AD h; obtain⟨s,o,h⟩:=h
     refine AY (Ma _ _ _ o) (Z ?_)
     exact mB (ih4 a0 w j u y (!decide (((EM u [s.machine,s.kind,s.index]).getD 0)=2)) _ h)
    ·exact AF (k1 ih4) h
   ·exact AF (k1 ih0) h
  ·intro a0 w j u y k r h
   rw [Bh] at h
   exact AF (k1 ih3) h
def Kj (n:Nat):=(Kc n).1
theorem LI (n:Nat):(∀a0 a1 u r,Av n a0 a1 u=some r→Aa Tryz.prog Tryz.f171 [1,0,1,0] (.bool r) ⟨[(0,.rop (Grid.avs a0) 0),(1,.ro (a1.map Statement.ds)),(14,.ro (a1.map Statement.ds)),(15,.int .i64 (a1.length:Int)),(16,.int .i64 u)],[],[]⟩)∧
    (∀a0 a1 u w r,A7 n a0 a1 u w=some r→Aa Tryz.prog Tryz.f171 [1,0,1,0,0,1,1,0,0,1,1] (.bool r) ⟨[(0,.rop (Grid.avs a0) 0),(1,.ro (a1.map Statement.ds)),(14,.ro (a1.map Statement.ds)),(15,.int .i64 (a1.length:Int)),(16,.int .i64 u),(45,.bool w)],[],[]⟩):=by
 induction n with
 |zero=>exact⟨(fun _ _ _ _ h=>by rw [Av] at h; cases h),(fun _ _ _ _ _ h=>by rw [A7] at h; cases h)⟩
 | succ n ih=>
  obtain⟨ih0,ih1⟩:=ih
  refine⟨?_,?_⟩
  ·intro a0 a1 u r h
   rw [Av] at h
   refine Ah rfl rfl (Z ?_)
   refine Ae (Z ?_)
   refine AJ h (fun h=>Z ?_) (fun h=>Z ?_)
   ·exact AF (k2 TC ih1) h
   ·refine AW ?_
    replace h:=AD h; obtain⟨d,c,h⟩:=h
    refine caG ⟨[],[],[],[],[(1601,128016)],true⟩ (ay _ _ c) (Z ?_)
    exact AF (k1 Kj) h
  ·intro a0 a1 u w r h
   rw [A7] at h
   exact AF (k1 ih0) h
def Lr (n:Nat):=(LI n).1
theorem Nd (a0 a1 r) (h:Ey a0 a1=some r):AC Tryz.prog 171 [.rop (Grid.avs a0) 0,.ro (a1.map Statement.ds)] (.bool r):=by
 unfold Ey at h
 refine acF Tryz.func171 mixed (h:=Z ?_)
 exact AF (k1 Lr) h
theorem SC (a0 a1 r) (h:NK a0 a1=some r):AC Tryz.prog 175 [.agg (Address.avs a0),.int .i64 a1] (.agg (Thing.rv r)):=by
 unfold NK at h
 refine acF Tryz.func175 mixed (h:=Z ?_)
 exact AF trivial h
theorem Mn (n:Nat):(∀a0 a1 u w r,BL n a0 a1 u w=some r→Aa Tryz.prog Tryz.f174 [1,1,0,1,0] (.ow (some 10) (r.map Statement.ds)) ⟨[(2,.box 1000001500 0),(5,.own 1000001000),(8,.ro (a1.map Address.ds)),(9,.int .i64 (a1.length:Int)),(10,.int .i64 w)],[(1000001000,some ⟨List.map Statement.ds u,some 10,0,.no⟩)],[(1000001500,some (Address.avs a0))]⟩):=by
 induction n with
 |zero=>exact((fun _ _ _ _ _ h=>by rw [BL] at h; cases h))
 | succ n ih=>
  have ih0:=ih
  ·intro a0 a1 u w r h
   rw [BL] at h
   refine Ah rfl rfl (Z ?_)
   refine Ae (Z ?_)
   refine AJ h (fun h=>Z ?_) (fun h=>Z ?_)
   ·refine AW ?_
    replace h:=AD h; obtain⟨y,q,h⟩:=h
    refine AO q (Address.ds_len _) (Z ?_)
    refine AW ?_
    refine CT [false,false,false,false,false,false,false,false,false,true,true] (Tr.sq [9,10] .fin) (by kernel_rfl) (Z ?_)
    replace h:=AD h; obtain⟨g,j,h⟩:=h
    refine AY (SC _ _ _ j) (Z ?_)
    replace h:=AD h; obtain⟨k,b,h⟩:=h
    have hq_:=Al b
    obtain⟨hv6009a,hv6009b⟩:=hq_
    refine BW .no (Z ?_)
    refine Ad (by refine⟨?_,?_⟩ <;> (try simp only [List.length_map,List.length_append,List.length_cons,List.length_nil] at*) <;> (try unfold maxLen) <;> omega) (Z ?_)
    refine AP (k.map Statement.ds) (by rw [← hv6009b]; simp only [List.map_append,List.map_cons,List.map_nil,List.nil_append,List.append_nil,go_sem,Statement.ds_eq]) (Z ?_)
    exact AF (k1 ih0) h
   ·exact AF trivial h
theorem Kd (a0 a1 r) (h:En a0 a1=some r):AC Tryz.prog 174 [.agg (Address.avs a0),.ro (a1.map Address.ds)] (.ow (some 10) (r.map Statement.ds)):=by
 unfold En at h
 refine acF Tryz.func174 mixed (h:=Z ?_)
 refine CX (CH rfl rfl (Mn fuel a0 a1 [] 0 _ h):) (.one ⟨_,.slot 5 2000000000 (some 10) .no (by simp only [go_sem]) (by simp only [go_sem]) (.done _),[(1000001000,2000000000)],[(1000001500,1000)],?_⟩)
 simp only [go_sem]
 all_goals try rfl
theorem Kk (n:Nat):(∀a0 u w r,AZ n a0 u w=some r→Aa Tryz.prog Tryz.f172 [1,1,0,1,0] (.ow (some 10) (r.map Statement.ds)) ⟨[(3,.own 1000011000),(24,.ro (a0.shards.map Shard.ds)),(25,.int .i64 (a0.shards.length:Int)),(26,.int .i64 w)],[(1000011000,some ⟨List.map Statement.ds u,some 10,0,.no⟩)],[]⟩)∧
    (∀a0 w y q g r,Am n a0 w y q g=some r→Aa Tryz.prog Tryz.f172 [1,1,0,1,0,0,1,1,0,0,1,0,1,0] (.ow (some 10) (r.map Statement.ds)) ⟨[(3,.own 1000018000),(4,.int .i64 w),(5,.box 1000018500 0),(24,.ro (a0.shards.map Shard.ds)),(25,.int .i64 (a0.shards.length:Int)),(26,.int .i64 w),(32,.ro (y.cells.map ShardCell.ds)),(33,.int .i64 (y.cells.length:Int)),(34,.int .i64 g)],[(1000018000,some ⟨List.map Statement.ds q,some 10,0,.no⟩)],[(1000018500,some (Shard.avs y))]⟩)∧
    (∀a0 w y j k r,An n a0 w y j k=some r→Aa Tryz.prog Tryz.f172 [1,1,0,1,0,0,1,1,0,0,1,1,0,1,0] (.ow (some 10) (r.map Statement.ds)) ⟨[(3,.own 1000020000),(4,.int .i64 w),(5,.box 1000020500 0),(24,.ro (a0.shards.map Shard.ds)),(25,.int .i64 (a0.shards.length:Int)),(26,.int .i64 w),(49,.ro (y.redexes.map ShardRedex.ds)),(50,.int .i64 (y.redexes.length:Int)),(51,.int .i64 k)],[(1000020000,some ⟨List.map Statement.ds j,some 10,0,.no⟩)],[(1000020500,some (Shard.avs y))]⟩)∧
    (∀a0 w y b d r,Ao n a0 w y b d=some r→Aa Tryz.prog Tryz.f172 [1,1,0,1,0,0,1,1,0,0,1,1,1,1,0] (.ow (some 10) (r.map Statement.ds)) ⟨[(3,.own 1000021000),(4,.int .i64 w),(24,.ro (a0.shards.map Shard.ds)),(25,.int .i64 (a0.shards.length:Int)),(26,.int .i64 w),(67,.ro (y.vars.map ShardVar.ds)),(68,.int .i64 (y.vars.length:Int)),(69,.int .i64 d)],[(1000021000,some ⟨List.map Statement.ds b,some 10,0,.no⟩)],[]⟩):=by
 induction n with
 |zero=>exact⟨(fun _ _ _ _ h=>by rw [AZ] at h; cases h),(fun _ _ _ _ _ _ h=>by rw [Am] at h; cases h),(fun _ _ _ _ _ _ h=>by rw [An] at h; cases h),(fun _ _ _ _ _ _ h=>by rw [Ao] at h; cases h)⟩
 | succ n ih=>
  obtain⟨ih0,ih1,ih2,ih3⟩:=ih
  refine⟨?_,?_,?_,?_⟩
  ·intro a0 u w r h
   rw [AZ] at h
   exact AF (k1 ih1) h
  ·intro a0 w y q g r h
   rw [Am] at h
   refine Ah rfl rfl (Z ?_)
   refine Ae (Z ?_)
   refine AJ h (fun h=>Z ?_) (fun h=>Z ?_)
   ·refine AW ?_
    replace h:=AD h; obtain⟨e,i,h⟩:=h
    refine AO i (ShardCell.ds_len _) (Z ?_)
    refine AW ?_
    refine CT [false,false,false,false,false,false,false,true,true] (Tr.sq [7,8] .fin) (by kernel_rfl) (Z ?_)
    replace h:=AD h; obtain⟨l,t,h⟩:=h
    refine AY (Lq _ _ _ t) (Z ?_)
    replace h:=AD h; obtain⟨s,o,h⟩:=h
    refine AY (Kd _ _ _ o) (Z ?_)
    replace h:=AD h; obtain⟨z,u1,h⟩:=h
    have hq_:=Al u1
    obtain⟨hv9007a,hv9007b⟩:=hq_
    refine BW .no (Z ?_)
    refine Ad (So (by intro x; exact(Statement.ds_len _)) _) (Z ?_)
    refine Ad (by refine⟨?_,?_⟩ <;> (try simp only [List.length_map,List.length_append,List.length_cons,List.length_nil] at*) <;> (try unfold maxLen) <;> omega) (Z ?_)
    refine AP (z.map Statement.ds) (by rw [← hv9007b]; simp only [List.map_append,List.map_cons,List.map_nil,List.nil_append,List.append_nil,go_sem,Statement.ds_eq]) (Z ?_)
    exact AF (k1 ih1) h
   ·exact AF (k1 ih2) h
  ·intro a0 w y j k r h
   rw [An] at h
   refine Ah rfl rfl (Z ?_)
   refine Ae (Z ?_)
   refine AJ h (fun h=>Z ?_) (fun h=>Z ?_)
   ·refine AW ?_
    replace h:=AD h; obtain⟨u2,u3,h⟩:=h
    refine AO u3 (ShardRedex.ds_len _) (Z ?_)
    refine AW ?_
    replace h:=AD h; obtain⟨u4,u5,h⟩:=h
    have hq_:=Al u5
    obtain⟨hv14009a,hv14009b⟩:=hq_
    refine BW .no (Z ?_)
    refine Ad (by refine⟨?_,?_⟩ <;> (try simp only [List.length_map,List.length_append,List.length_cons,List.length_nil] at*) <;> (try unfold maxLen) <;> omega) (Z ?_)
    refine AP (u4.map Statement.ds) (by rw [← hv14009b]; simp only [List.map_append,List.map_cons,List.map_nil,List.nil_append,List.append_nil,go_sem,Statement.ds_eq]) (Z ?_)
    exact AF (k1 ih2) h
   ·exact AF (k1 ih3) h
  ·intro a0 w y b d r h
   rw [Ao] at h
   refine Ah rfl rfl (Z ?_)
   refine Ae (Z ?_)
   refine AJ h (fun h=>Z ?_) (fun h=>Z ?_)
   ·refine AW ?_
    replace h:=AD h; obtain⟨u6,u7,h⟩:=h
    refine AO u7 (ShardVar.ds_len _) (Z ?_)
    refine AW ?_
    refine AJ h (fun h=>Z ?_) (fun h=>Z ?_)
    ·refine CT [false,false,false,false,false,false,false,false,false,false,true,true] (Tr.sq [10,11] .fin) (by kernel_rfl) (Z ?_)
     replace h:=AD h; obtain⟨u8,u9,h⟩:=h
     refine AY (Ma _ _ _ u9) (Z ?_)
     replace h:=AD h; obtain⟨u10,u11,h⟩:=h
     have hq_:=Al u11
     obtain⟨hv20010a,hv20010b⟩:=hq_
     refine BW .no (Z ?_)
     refine Ad (by refine⟨?_,?_⟩ <;> (try simp only [List.length_map,List.length_append,List.length_cons,List.length_nil] at*) <;> (try unfold maxLen) <;> omega) (Z ?_)
     refine AP (u10.map Statement.ds) (by rw [← hv20010b]; simp only [List.map_append,List.map_cons,List.map_nil,List.nil_append,List.append_nil,go_sem,Statement.ds_eq]) (Z ?_)
     exact AF (k1 ih3) h
    ·exact AF (k1 ih3) h
   ·exact AF (k1 ih0) h
def LJ (n:Nat):=(Kk n).1
theorem Nf (a0 r) (h:Ez a0=some r):AC Tryz.prog 172 [.rop (Grid.avs a0) 0] (.ow (some 10) (r.map Statement.ds)):=by
 unfold Ez at h
 refine acF Tryz.func172 mixed (h:=Z ?_)
 refine CT [] .fin (by kernel_rfl) (Z ?_)
 replace h:=AD h; obtain⟨u,w,h⟩:=h
 refine AY (SC _ _ _ w) (Z ?_)
 refine AW ?_
 refine CX (CH rfl rfl (LJ fuel a0 [(⟨u,(⟨a0.root,0,false⟩:Thing)⟩:Statement)] 0 _ h):) (.one ⟨_,.lit 3 2000000000 2008 1 10 .no [] _ _ (by (first|rfl|(simp only [go_sem]; rfl))) (by simp only [go_sem]; rfl) (by (first|rfl|(simp only [go_sem]; rfl))) (by (first|rfl|(simp only [go_sem]; rfl))) (by decide) (by decide) (by simp only [go_sem]) (.done _),[(1000011000,2000000000)],[],?_⟩)
 simp only [go_sem]
 all_goals try rfl
theorem GB (a0:Grid) (a1:List Statement) (u:Bool) (r:Bool) (h:CJ a0 a1 u=some r):Aa Tryz.prog Tryz.f116 [1,0,1] (.bool r) ⟨[(0,.rop (Grid.avs a0) 0),(1,.ro (a1.map Statement.ds)),(25,.bool u)],[],[]⟩:=by
 unfold CJ at h
 refine Ah rfl rfl (Z ?_)
 refine AJ h (fun h=>Z ?_) (fun h=>Z ?_)
 ·exact AF trivial h
 ·refine AW ?_
  replace h:=AD h; obtain⟨w,y,h⟩:=h
  refine AY (Nf _ _ y) (Z ?_)
  replace h:=AD h; obtain⟨q,g,h⟩:=h
  have hq_:=Al g
  obtain⟨hv4004a,hv4004b⟩:=hq_
  refine BW .no (Z ?_)
  refine Ad (Cu (by intro x; exact⟨(Statement.ds_len _),by simp [Statement.ds_eq,D.flat]⟩) _) (Z ?_)
  refine Ad (by refine⟨?_,?_⟩ <;> (try simp only [List.length_map,List.length_append,List.length_cons,List.length_nil] at*) <;> (try unfold maxLen) <;> omega) (Z ?_)
  refine AP (q.map Statement.ds) (by rw [← hv4004b]; simp only [List.map_append,List.map_cons,List.map_nil,List.nil_append,List.append_nil,go_sem,Statement.ds_eq]) (Z ?_)
  exact AF (k1 Nd) h
theorem OR (a0 a1 r) (h:Fc a0 a1=some r):AC Tryz.prog 116 [.rop (Grid.avs a0) 0,.ro (a1.map Statement.ds)] (.bool r):=by
 unfold Fc at h
 refine acF Tryz.func116 mixed (h:=Z ?_)
 refine AJ h (fun h=>Z ?_) (fun h=>Z ?_)
 ·exact AF (k1 GB) h
 ·refine AJ h (fun h=>Z ?_) (fun h=>Z ?_)
  ·exact AF (k1 GB) h
  ·replace h:=AD h; obtain⟨u,w,h⟩:=h
   refine AY (JP _ _ 170 [] (Still.of rfl) (fun y0 q hq=>Mm y0  q hq) _ w) (Z ?_)
   exact AF (k1 GB) h
theorem Pf (a0 a1 r) (h:HY a0 a1=some r):AC Tryz.prog 173 [.int .i64 a0,.int .i64 a1] (.agg (Address.rv r)):=by
 unfold HY at h
 refine acF Tryz.func173 mixed (h:=Z ?_)
 exact AF trivial h
theorem Hh (n:Nat):(∀a0 u w r,AR n a0 u w=some r→Aa Tryz.prog Tryz.f117 [1,1,0,1,0] (.ow (some 10) (r.map Statement.ds)) ⟨[(3,.own 1000000000),(12,.ro (List.map (slD Parcel.ds) a0.channels)),(13,.int .i64 (a0.channels.length:Int)),(14,.int .i64 w)],[(1000000000,some ⟨List.map Statement.ds u,some 10,0,.no⟩)],[]⟩)∧
    (∀a0 w y q g r,AN n a0 w y q g=some r→Aa Tryz.prog Tryz.f117 [1,1,0,1,0,0,1,1,0,0,1,1,0] (.ow (some 10) (r.map Statement.ds)) ⟨[(3,.own 1000007000),(4,.int .i64 w),(12,.ro (List.map (slD Parcel.ds) a0.channels)),(13,.int .i64 (a0.channels.length:Int)),(14,.int .i64 w),(19,.ro (y.map Parcel.ds)),(20,.int .i64 (y.length:Int)),(21,.int .i64 g)],[(1000007000,some ⟨List.map Statement.ds q,some 10,0,.no⟩)],[]⟩)∧
    (∀a0 w q g y j k r,Ar n a0 w q g y j k=some r→Aa Tryz.prog Tryz.f117 [1,1,0,1,0,0,1,1,0,0,1,1,0,0,1,1,0,0,1,1,0,1] (.ow (some 10) (r.map Statement.ds)) ⟨[(3,.own 1000008000),(4,.int .i64 w),(6,.int .i64 g),(7,.box 1000008500 0),(12,.ro (List.map (slD Parcel.ds) a0.channels)),(13,.int .i64 (a0.channels.length:Int)),(14,.int .i64 w),(19,.ro (y.map Parcel.ds)),(20,.int .i64 (y.length:Int)),(21,.int .i64 g),(27,.int .i64 j.kind),(28,.bool k)],[(1000008000,some ⟨List.map Statement.ds q,some 10,0,.no⟩)],[(1000008500,some (Parcel.avs j))]⟩):=by
 induction n with
 |zero=>exact⟨(fun _ _ _ _ h=>by rw [AR] at h; cases h),(fun _ _ _ _ _ _ h=>by rw [AN] at h; cases h),(fun _ _ _ _ _ _ _ _ h=>by rw [Ar] at h; cases h)⟩
 | succ n ih=>
  obtain⟨ih0,ih1,ih2⟩:=ih
  refine⟨?_,?_,?_⟩
  ·intro a0 u w r h
   rw [AR] at h
   exact AF (k1 ih1) h
  ·intro a0 w y q g r h
   rw [AN] at h
   exact AF (k2 ih2 ih0) h
  ·intro a0 w q g y j k r h
   rw [Ar] at h
   refine Ah rfl rfl (Z ?_)
   refine AJ h (fun h=>Z ?_) (fun h=>Z ?_)
   ·replace h:=AD h; obtain⟨e,i,h⟩:=h
    have hq_:=Al i
    obtain⟨hv12009a,hv12009b⟩:=hq_
    refine BW .no (Z ?_)
    refine Ad (by refine⟨?_,?_⟩ <;> (try simp only [List.length_map,List.length_append,List.length_cons,List.length_nil] at*) <;> (try unfold maxLen) <;> omega) (Z ?_)
    refine AP (e.map Statement.ds) (by rw [← hv12009b]; simp only [List.map_append,List.map_cons,List.map_nil,List.nil_append,List.append_nil,go_sem,Statement.ds_eq]) (Z ?_)
    exact AF (k1 ih1) h
   ·refine AJ h (fun h=>Z ?_) (fun h=>Z ?_)
    ·replace h:=AD h; obtain⟨l,t,h⟩:=h
     refine AY (Pf _ _ _ t) (Z ?_)
     refine AW ?_
     replace h:=AD h; obtain⟨s,o,h⟩:=h
     refine AY (Kd _ _ _ o) (Z ?_)
     replace h:=AD h; obtain⟨z,u1,h⟩:=h
     have hq_:=Al u1
     obtain⟨hv15006a,hv15006b⟩:=hq_
     refine BW .no (Z ?_)
     refine Ad (So (by intro x; exact(Statement.ds_len _)) _) (Z ?_)
     refine Ad (by refine⟨?_,?_⟩ <;> (try simp only [List.length_map,List.length_append,List.length_cons,List.length_nil] at*) <;> (try unfold maxLen) <;> omega) (Z ?_)
     refine AP (z.map Statement.ds) (by rw [← hv15006b]; simp only [List.map_append,List.map_cons,List.map_nil,List.nil_append,List.append_nil,go_sem,Statement.ds_eq]) (Z ?_)
     refine AW ?_
     refine CT [false,false,false,false,false,false,false,false,true,true] (Tr.sq [8,9] .fin) (by kernel_rfl) (Z ?_)
     replace h:=AD h; obtain⟨u2,u3,h⟩:=h
     refine AY (SC _ _ _ u3) (Z ?_)
     replace h:=AD h; obtain⟨u4,u5,h⟩:=h
     have hq_:=Al u5
     obtain⟨hv16008a,hv16008b⟩:=hq_
     refine BW .no (Z ?_)
     refine Ad (by refine⟨?_,?_⟩ <;> (try simp only [List.length_map,List.length_append,List.length_cons,List.length_nil] at*) <;> (try unfold maxLen) <;> omega) (Z ?_)
     refine AP (u4.map Statement.ds) (by rw [← hv16008b]; simp only [List.map_append,List.map_cons,List.map_nil,List.nil_append,List.append_nil,go_sem,Statement.ds_eq]) (Z ?_)
     exact AF (k1 ih1) h
    ·exact AF (k1 ih1) h
def Hy (n:Nat):=(Hh n).1
theorem JQ (a0 r) (h:B9 a0=some r):AC Tryz.prog 117 [.rop (Cluster.avs a0) 0] (.ow (some 10) (r.map Statement.ds)):=by
 unfold B9 at h
 refine acF Tryz.func117 mixed (h:=Z ?_)
 refine CX (CH rfl rfl (Hy fuel a0 [] 0 _ h):) (.one ⟨_,.slot 3 2000000000 (some 10) .no (by simp only [go_sem]) (by simp only [go_sem]) (.done _),[(1000000000,2000000000)],[],?_⟩)
 simp only [go_sem]
 all_goals try rfl
theorem Ng (a0:Cluster) (u:Bool) (r:Bool) (h:BV a0 u=some r):Aa Tryz.prog Tryz.f49 [1,1,1,0,1] (.bool r) ⟨[(1,.box 1000001500 0),(48,.bool u)],[],[(1000001500,some (Cluster.avs a0))]⟩:=by
 unfold BV at h
 refine Ah rfl rfl (Z ?_)
 refine AJ h (fun h=>Z ?_) (fun h=>Z ?_)
 ·exact AF trivial h
 ·refine AW ?_
  replace h:=AD h; obtain⟨w,y,h⟩:=h
  refine AY (Ki _ _ 114 [] (Still.of rfl) (fun y0 q hq=>OQ y0  q hq) _ y) (Z ?_)
  exact AF (k2 JQ OR) h
theorem Nh (a0:Cluster) (u:Int) (w:Bool) (r:Bool) (h:Cw a0 u w=some r):Aa Tryz.prog Tryz.f49 [1,1,0,1] (.bool r) ⟨[(1,.box 1000000500 0),(3,.int .i64 u),(17,.bool w)],[],[(1000000500,some (Cluster.avs a0))]⟩:=by
 unfold Cw at h
 exact AF (k2 Ng NZ) h
theorem Qu (a0 r) (h:Gi a0=some r):AC Tryz.prog 49 [.agg (Cluster.avs a0)] (.bool r):=by
 unfold Gi at h
 refine acF Tryz.func49 mixed (h:=Z ?_)
 exact AF (k3 GV Nh Pd) h
end Go.Proofs.YtclmbjbbojdojaaGreat.Ab
