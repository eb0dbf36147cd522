/-
 The functions do what their models say. Printed by wip/ab/gen.py.
-/
import Derived.Test.YtclmbjbbojdojaaGreatModU
import Derived.Test.YtclmbjbbojdojaaGreatTi2
import Derived.Test.YtclmbjbbojdojaaGreatWlk
namespace Go.Proofs.YtclmbjbbojdojaaGreat.Ab
set_option linter.unusedVariables false
set_option linter.unusedSimpArgs false
set_option maxRecDepth 20000
set_option maxHeartbeats 4000000
open Go.RowKit
theorem KB (n:Nat):(∀ (a0:List Int) (u:Int) (f1:(Int→Option Bool)) (g1:FuncId) (c1:List AV) (s1:Still c1) (h1:∀ (y0:Int) (q:Bool),f1 y0=some q→AC Tryz.prog g1 (fnA c1 [.int .i64 y0]) (.bool q)) (r:Int),A7 n a0 u f1=some r→Ac Tryz.prog Tryz.f178 [1,0,1,0] (.int .i64 r) ⟨[(0,.ro (a0.map AB)),(1,.fn g1 c1),(7,.int .i64 (a0.length:Int)),(8,.int .i64 u)],[],[]⟩):=by
 induction n with
 |zero=>exact((fun _ _ _ _ _ _ _ _ h=>by rw [A7] at h; cases h))
 | succ n ih=>
  have ih0:=ih
  ·intro a0 u f1 g1 c1 s1 h1 r h
   rw [A7] at h
   refine AR rfl rfl ?_
   try simp only [go_sem,s1.k,s1.r,s1.c,s1.p,s1.o,s1.f]
   refine AY ?_
   try simp only [go_sem,s1.k,s1.r,s1.c,s1.p,s1.o,s1.f]
   refine AH h (fun h=>?_) (fun h=>?_)
   ·try simp only [go_sem,s1.k,s1.r,s1.c,s1.p,s1.o,s1.f]
    refine BF ?_
    try simp only [go_sem,s1.k,s1.r,s1.c,s1.p,s1.o,s1.f]
    replace h:=AD h; obtain⟨w,y,h⟩:=h
    refine Ad y rfl ?_
    try simp only [go_sem,s1.k,s1.r,s1.c,s1.p,s1.o,s1.f]
    replace h:=AD h; obtain⟨g,j,h⟩:=h
    refine AK (h1 _ _ j) ?_
    try simp only [go_sem,s1.k,s1.r,s1.c,s1.p,s1.o,s1.f]
    refine BF ?_
    try simp only [go_sem,s1.k,s1.r,s1.c,s1.p,s1.o,s1.f]
    refine AH h (fun h=>?_) (fun h=>?_)
    ·try simp only [go_sem,s1.k,s1.r,s1.c,s1.p,s1.o,s1.f]
     cases h
     simp only [go_sem,s1.k,s1.r,s1.c,s1.p,s1.o,s1.f]
    ·try simp only [go_sem,s1.k,s1.r,s1.c,s1.p,s1.o,s1.f]
     refine BF ?_
     try simp only [go_sem,s1.k,s1.r,s1.c,s1.p,s1.o,s1.f]
     refine My (Ck rfl rfl (ih0 a0 (IntKind.i64.wrap (u+1)) f1 g1 c1 s1 h1 _ h):) (.one ⟨_,.done _,[],[],?_⟩)
     try simp only [go_sem,s1.k,s1.r,s1.c,s1.p,s1.o,s1.f]
   ·try simp only [go_sem,s1.k,s1.r,s1.c,s1.p,s1.o,s1.f]
    refine BF ?_
    try simp only [go_sem,s1.k,s1.r,s1.c,s1.p,s1.o,s1.f]
    cases h
    simp only [go_sem,s1.k,s1.r,s1.c,s1.p,s1.o,s1.f]
theorem LK (a0:List Int) (f1:(Int→Option Bool)) (g1:FuncId) (c1:List AV) (s1:Still c1) (h1:∀ (y0:Int) (q:Bool),f1 y0=some q→AC Tryz.prog g1 (fnA c1 [.int .i64 y0]) (.bool q)) (r:Int) (h:FB a0 f1=some r):AC Tryz.prog 178 [.ro (a0.map AB),.fn g1 c1] (.int .i64 r):=by
 unfold FB at h
 refine acF Tryz.func178 mixed (h:=?_)
 try simp only [go_sem,s1.k,s1.r,s1.c,s1.p,s1.o,s1.f]
 refine DW (Ck rfl rfl (KB fuel a0 0 f1 g1 c1 s1 h1 _ h):) (.one ⟨_,.done _,[],[],?_⟩)
 try simp only [go_sem,s1.k,s1.r,s1.c,s1.p,s1.o,s1.f]
theorem GV (a0:List Int) (f1:(Int→Option Bool)) (g1:FuncId) (c1:List AV) (s1:Still c1) (h1:∀ (y0:Int) (q:Bool),f1 y0=some q→AC Tryz.prog g1 (fnA c1 [.int .i64 y0]) (.bool q)) (r:Bool) (h:BM a0 f1=some r):AC Tryz.prog 121 [.ro (a0.map AB),.fn g1 c1] (.bool r):=by
 unfold BM at h
 refine acF Tryz.func121 mixed (h:=?_)
 try simp only [go_sem,s1.k,s1.r,s1.c,s1.p,s1.o,s1.f]
 replace h:=AD h; obtain⟨u,w,h⟩:=h
 refine AK (LK _ _ g1 c1 s1 h1 _ w) ?_
 try simp only [go_sem,s1.k,s1.r,s1.c,s1.p,s1.o,s1.f]
 refine BF ?_
 try simp only [go_sem,s1.k,s1.r,s1.c,s1.p,s1.o,s1.f]
 cases h
 simp only [go_sem,s1.k,s1.r,s1.c,s1.p,s1.o,s1.f]
theorem L9 (a0 r) (h:JO a0=some r):AC Tryz.prog 292 [.int .i64 a0] (.bool r):=by
 unfold JO at h
 refine acF Tryz.func292 mixed (h:=Z ?_)
 exact AJ trivial h
theorem RA (a0:Int) (u:Bool) (r:Int) (h:FC a0 u=some r):Ac Tryz.prog Tryz.f272 [1,0,0,1,1,1] (.int .i64 r) ⟨[(0,.int .i64 a0),(18,.bool u)],[],[]⟩:=by
 unfold FC at h
 refine AR rfl rfl (Z ?_)
 refine AH h (fun h=>Z ?_) (fun h=>Z ?_)
 ·exact AJ trivial h
 ·refine AL ?_
  replace h:=AD h; obtain⟨w,y,h⟩:=h
  refine GK y (Z ?_)
  exact AJ trivial h
theorem RB (a0:Int) (a1:Int) (u:Bool) (r:Int) (h:FD a0 a1 u=some r):Ac Tryz.prog Tryz.f272 [1,0,0,1] (.int .i64 r) ⟨[(0,.int .i64 a0),(1,.int .i64 a1),(5,.bool u)],[],[]⟩:=by
 unfold FD at h
 exact AJ (k2 L9 RA) h
theorem VW (a0 a1 r) (h:Ix a0 a1=some r):AC Tryz.prog 272 [.int .i64 a0,.int .i64 a1] (.int .i64 r):=by
 unfold Ix at h
 refine acF Tryz.func272 mixed (h:=Z ?_)
 exact AJ (k1 RB) h
theorem Te (a0 a1 r) (h:JP a0 a1=some r):AC Tryz.prog 273 [.int .i64 a0,.int .i64 a1] (.int .i64 r):=by
 unfold JP at h
 refine acF Tryz.func273 mixed (h:=Z ?_)
 exact AJ trivial h
theorem Tf (a0 r) (h:Ku a0=some r):AC Tryz.prog 293 [.int .i64 a0] (.bool r):=by
 unfold Ku at h
 refine acF Tryz.func293 mixed (h:=Z ?_)
 exact AJ (k1 L9) h
theorem VX (a0 r) (h:Ma a0=some r):AC Tryz.prog 294 [.int .i64 a0] (.bool r):=by
 unfold Ma at h
 refine acF Tryz.func294 mixed (h:=Z ?_)
 exact AJ trivial h
theorem S0 (a0 a1 r) (h:Gv a0 a1=some r):AC Tryz.prog 274 [.int .i64 a0,.int .i64 a1] (.bool r):=by
 unfold Gv at h
 refine acF Tryz.func274 mixed (h:=Z ?_)
 exact AJ (k3 L9 Tf VX) h
theorem LA (a0 r) (h:GC a0=some r):AC Tryz.prog 276 [.int .i64 a0] (.bool r):=by
 unfold GC at h
 refine acF Tryz.func276 mixed (h:=Z ?_)
 exact AJ trivial h
theorem PM (a0 r) (h:Fp a0=some r):AC Tryz.prog 275 [.int .i64 a0] (.bool r):=by
 unfold Fp at h
 refine acF Tryz.func275 mixed (h:=Z ?_)
 exact AJ (k1 LA) h
theorem YL (a0 r) (h:Mb a0=some r):AC Tryz.prog 277 [.int .i64 a0] (.bool r):=by
 unfold Mb at h
 refine acF Tryz.func277 mixed (h:=Z ?_)
 exact AJ trivial h
theorem RC (a0 r) (h:GD a0=some r):AC Tryz.prog 278 [.int .i64 a0] (.bool r):=by
 unfold GD at h
 refine acF Tryz.func278 mixed (h:=Z ?_)
 exact AJ trivial h
theorem N3 (u:Bool) (w:Bool) (r:Bool) (h:Ax u w=some r):Ac Tryz.prog Tryz.f243 [1,1,1,1,1] (.bool r) ⟨[(3,.bool u),(4,.bool w)],[],[]⟩:=by
 unfold Ax at h
 exact AJ trivial h
theorem Gi (a0:Agent) (u:Bool) (r:Bool) (h:Cg a0 u=some r):Ac Tryz.prog Tryz.f243 [1,0,1] (.bool r) ⟨[(1,.box 1000000500 0),(32,.bool u)],[],[(1000000500,some (Agent.avs a0))]⟩:=by
 unfold Cg at h
 refine AR rfl rfl (Z ?_)
 refine AH h (fun h=>Z ?_) (fun h=>Z ?_)
 ·exact AJ trivial h
 ·refine AL ?_
  refine Ah [] .fin (by kernel_rfl) (Z ?_)
  refine AL ?_
  replace h:=AD h; obtain⟨w,y,h⟩:=h
  refine AK (GV _ _ 275 [] (Still.of rfl) (fun y0 q hq=>PM y0  q hq) _ y) (Z ?_)
  exact AJ (k4 YL N3 RC LA) h
theorem RD (a0 r) (h:HF a0=some r):AC Tryz.prog 243 [.agg (Agent.avs a0)] (.bool r):=by
 unfold HF at h
 refine acF Tryz.func243 mixed (h:=Z ?_)
 refine Ah [] .fin (by kernel_rfl) (Z ?_)
 refine AH h (fun h=>Z ?_) (fun h=>Z ?_)
 ·exact ES (Gi a0 true _ h) [] [(1000000500,1000)]
 ·replace h:=AD h; obtain⟨u,w,h⟩:=h
  refine AK (Te _ _ _ w) (Z ?_)
  replace h:=AD h; obtain⟨y,q,h⟩:=h
  refine AK (VW _ _ _ q) (Z ?_)
  refine AH h (fun h=>Z ?_) (fun h=>Z ?_)
  ·exact ES (Gi a0 true _ h) [] [(1000000500,1000)]
  ·replace h:=AD h; obtain⟨g,j,h⟩:=h
   refine AK (S0 _ _ _ j) (Z ?_)
   exact ES (Gi a0 (!g) _ h) [] [(1000000500,1000)]
theorem DU (a0 a1 a2 r) (h:CQ a0 a1 a2=some r):AC Tryz.prog 55 [.int .i64 a0,.int .i64 a1,.int .i64 a2] (.bool r):=by
 unfold CQ at h
 refine acF Tryz.func55 mixed (h:=Z ?_)
 exact AJ trivial h
theorem RE (u:Bool) (r:Int) (h:FE u=some r):Ac Tryz.prog Tryz.f268 [1,1,1,0,1,0,1,1,1,1,1] (.int .i64 r) ⟨[(23,.bool u)],[],[]⟩:=by
 unfold FE at h
 exact AJ trivial h
theorem RF (a0:Int) (u:Bool) (r:Int) (h:GE a0 u=some r):Ac Tryz.prog Tryz.f268 [1,1,1,0,1,0,1,1,1] (.int .i64 r) ⟨[(13,.int .i64 a0),(19,.bool u)],[],[]⟩:=by
 unfold GE at h
 exact AJ (k1 RE) h
theorem RG (a0:Int) (u:Bool) (r:Int) (h:FF a0 u=some r):Ac Tryz.prog Tryz.f268 [1,1,1,0,1,0,1] (.int .i64 r) ⟨[(13,.int .i64 a0),(14,.bool u)],[],[]⟩:=by
 unfold FF at h
 exact AJ (k1 RF) h
theorem VY (a0 a1 r) (h:Iy a0 a1=some r):AC Tryz.prog 268 [.int .i64 a0,.int .i64 a1] (.int .i64 r):=by
 unfold Iy at h
 refine acF Tryz.func268 mixed (h:=Z ?_)
 exact AJ (k2 DU RG) h
theorem S1 (a0 r) (h:IC a0=some r):AC Tryz.prog 269 [.rop (Agent.avs a0) 0] (.int .i64 r):=by
 unfold IC at h
 refine acF Tryz.func269 mixed (h:=Z ?_)
 exact AJ trivial h
theorem QJ (u:Bool) (r:Bool) (h:Bg u=some r):Ac Tryz.prog Tryz.f289 [1,0,1,0,1] (.bool r) ⟨[(4,.bool u)],[],[]⟩:=by
 unfold Bg at h
 exact AJ trivial h
theorem Tg (a0 r) (h:JQ a0=some r):AC Tryz.prog 289 [.int .i64 a0] (.bool r):=by
 unfold JQ at h
 refine acF Tryz.func289 mixed (h:=Z ?_)
 exact AJ (k1 QJ) h
theorem VZ (a0 r) (h:KQ a0=some r):AC Tryz.prog 290 [.int .i64 a0] (.bool r):=by
 unfold KQ at h
 refine acF Tryz.func290 mixed (h:=Z ?_)
 exact AJ (k1 DU) h
theorem Th (a0 a1 r) (h:Ho a0 a1=some r):AC Tryz.prog 270 [.int .i64 a0,.int .i64 a1] (.bool r):=by
 unfold Ho at h
 refine acF Tryz.func270 mixed (h:=Z ?_)
 exact AJ (k3 Tg DU VZ) h
theorem Qt (a0 r) (h:JR a0=some r):AC Tryz.prog 291 [.int .i64 a0] (.bool r):=by
 unfold JR at h
 refine acF Tryz.func291 mixed (h:=Z ?_)
 exact AJ (k1 DU) h
theorem N4 (n:Nat):(∀a0 u r,Ch n a0 u=some r→Ac Tryz.prog Tryz.f271 [1,0,1,0,1,1,1,1,1,1,1,1,1,1,1,0,1,0,1,0] (.bool r) ⟨[(0,.rop (Agent.avs a0) 0),(3,.int .i64 u)],[],[]⟩):=by
 induction n with
 |zero=>exact((fun _ _ _ h=>by rw [Ch] at h; cases h))
 | succ n ih=>
  have ih0:=ih
  ·intro a0 u r h
   rw [Ch] at h
   exact AJ (k2 Qt ih0) h
theorem N5 (a0:Agent) (u:Bool) (r:Bool) (h:CE a0 u=some r):Ac Tryz.prog Tryz.f271 [1,0,1,0,1,1,1,1,1,1,1,1,1,1,1,0,0,1] (.bool r) ⟨[(0,.rop (Agent.avs a0) 0),(130,.bool u)],[],[]⟩:=by
 unfold CE at h
 exact AJ (k1 N4) h
theorem N6 (a0:Agent) (u:Bool) (r:Bool) (h:FR a0 u=some r):Ac Tryz.prog Tryz.f271 [1,0,1,0,1,1,1,1,1,1,1,1,1,1,1] (.bool r) ⟨[(0,.rop (Agent.avs a0) 0),(92,.bool u)],[],[]⟩:=by
 unfold FR at h
 exact AJ (k2 N5 DU) h
theorem RH (a0 r) (h:HG a0=some r):AC Tryz.prog 271 [.rop (Agent.avs a0) 0] (.bool r):=by
 unfold HG at h
 refine acF Tryz.func271 mixed (h:=Z ?_)
 exact AJ (k3 DU Qt N6) h
theorem TW (a0 r) (h:JL a0=some r):AC Tryz.prog 241 [.rop (Agent.avs a0) 0] (.bool r):=by
 unfold JL at h
 refine acF Tryz.func241 mixed (h:=Z ?_)
 refine Ah [] .fin (by kernel_rfl) (Z ?_)
 replace h:=AD h; obtain⟨u,w,h⟩:=h
 refine AK (S1 _ _ w) (Z ?_)
 replace h:=AD h; obtain⟨y,q,h⟩:=h
 refine AK (VY _ _ _ q) (Z ?_)
 refine AL ?_
 refine Ah [] .fin (by kernel_rfl) (Z ?_)
 exact AJ (k2 Th RH) h
end Go.Proofs.YtclmbjbbojdojaaGreat.Ab
