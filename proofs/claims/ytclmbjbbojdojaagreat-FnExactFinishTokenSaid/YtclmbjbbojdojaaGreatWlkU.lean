/-
 The functions do what their models say. Printed by wip/ab/gen.py.
-/
import Derived.Test.YtclmbjbbojdojaaGreatModU
import Derived.Test.YtclmbjbbojdojaaGreatTi2
import Derived.Test.YtclmbjbbojdojaaGreatWlk
namespace Go.Proofs.YtclmbjbbojdojaaGreat.Ab
set_option linter.unusedVariables false
set_option linter.unusedSimpArgs false
set_option maxRecDepth 20000
set_option maxHeartbeats 4000000
open Go.RowKit
theorem LL (n:Nat):(∀ (a0:List Int) (u:Int) (f1:(Int→Option Bool)) (g1:FuncId) (c1:List AV) (s1:Still c1) (h1:∀ (y0:Int) (q:Bool),f1 y0=some q→AC Tryz.prog g1 (fnA c1 [.int .i64 y0]) (.bool q)) (r:Int),Ap n a0 u f1=some r→Aa Tryz.prog Tryz.f178 [1,0,1,0] (.int .i64 r) ⟨[(0,.ro (a0.map AB)),(1,.fn g1 c1),(7,.int .i64 (a0.length:Int)),(8,.int .i64 u)],[],[]⟩):=by
 induction n with
 |zero=>exact((fun _ _ _ _ _ _ _ _ h=>by rw [Ap] at h; cases h))
 | succ n ih=>
  have ih0:=ih
  ·intro a0 u f1 g1 c1 s1 h1 r h
   rw [Ap] at h
   refine Ah rfl rfl ?_
   try simp only [go_sem,s1.k,s1.r,s1.c,s1.p,s1.o,s1.f]
   refine Ae ?_
   try simp only [go_sem,s1.k,s1.r,s1.c,s1.p,s1.o,s1.f]
   refine AJ h (fun h=>?_) (fun h=>?_)
   ·try simp only [go_sem,s1.k,s1.r,s1.c,s1.p,s1.o,s1.f]
    refine Bv ?_
    try simp only [go_sem,s1.k,s1.r,s1.c,s1.p,s1.o,s1.f]
    replace h:=AD h; obtain⟨w,y,h⟩:=h
    refine AO y rfl ?_
    try simp only [go_sem,s1.k,s1.r,s1.c,s1.p,s1.o,s1.f]
    replace h:=AD h; obtain⟨g,j,h⟩:=h
    refine AY (h1 _ _ j) ?_
    try simp only [go_sem,s1.k,s1.r,s1.c,s1.p,s1.o,s1.f]
    refine Bv ?_
    try simp only [go_sem,s1.k,s1.r,s1.c,s1.p,s1.o,s1.f]
    refine AJ h (fun h=>?_) (fun h=>?_)
    ·try simp only [go_sem,s1.k,s1.r,s1.c,s1.p,s1.o,s1.f]
     cases h
     simp only [go_sem,s1.k,s1.r,s1.c,s1.p,s1.o,s1.f]
    ·try simp only [go_sem,s1.k,s1.r,s1.c,s1.p,s1.o,s1.f]
     refine Bv ?_
     try simp only [go_sem,s1.k,s1.r,s1.c,s1.p,s1.o,s1.f]
     refine QU (CH rfl rfl (ih0 a0 (IntKind.i64.wrap (u+1)) f1 g1 c1 s1 h1 _ h):) (.one ⟨_,.done _,[],[],?_⟩)
     try simp only [go_sem,s1.k,s1.r,s1.c,s1.p,s1.o,s1.f]
   ·try simp only [go_sem,s1.k,s1.r,s1.c,s1.p,s1.o,s1.f]
    refine Bv ?_
    try simp only [go_sem,s1.k,s1.r,s1.c,s1.p,s1.o,s1.f]
    cases h
    simp only [go_sem,s1.k,s1.r,s1.c,s1.p,s1.o,s1.f]
theorem Mo (a0:List Int) (f1:(Int→Option Bool)) (g1:FuncId) (c1:List AV) (s1:Still c1) (h1:∀ (y0:Int) (q:Bool),f1 y0=some q→AC Tryz.prog g1 (fnA c1 [.int .i64 y0]) (.bool q)) (r:Int) (h:F1 a0 f1=some r):AC Tryz.prog 178 [.ro (a0.map AB),.fn g1 c1] (.int .i64 r):=by
 unfold F1 at h
 refine acF Tryz.func178 mixed (h:=?_)
 try simp only [go_sem,s1.k,s1.r,s1.c,s1.p,s1.o,s1.f]
 refine CX (CH rfl rfl (LL fuel a0 0 f1 g1 c1 s1 h1 _ h):) (.one ⟨_,.done _,[],[],?_⟩)
 try simp only [go_sem,s1.k,s1.r,s1.c,s1.p,s1.o,s1.f]
theorem HV (a0:List Int) (f1:(Int→Option Bool)) (g1:FuncId) (c1:List AV) (s1:Still c1) (h1:∀ (y0:Int) (q:Bool),f1 y0=some q→AC Tryz.prog g1 (fnA c1 [.int .i64 y0]) (.bool q)) (r:Bool) (h:BC a0 f1=some r):AC Tryz.prog 121 [.ro (a0.map AB),.fn g1 c1] (.bool r):=by
 unfold BC at h
 refine acF Tryz.func121 mixed (h:=?_)
 try simp only [go_sem,s1.k,s1.r,s1.c,s1.p,s1.o,s1.f]
 replace h:=AD h; obtain⟨u,w,h⟩:=h
 refine AY (Mo _ _ g1 c1 s1 h1 _ w) ?_
 try simp only [go_sem,s1.k,s1.r,s1.c,s1.p,s1.o,s1.f]
 refine Bv ?_
 try simp only [go_sem,s1.k,s1.r,s1.c,s1.p,s1.o,s1.f]
 cases h
 simp only [go_sem,s1.k,s1.r,s1.c,s1.p,s1.o,s1.f]
theorem Nj (a0 r) (h:KL a0=some r):AC Tryz.prog 292 [.int .i64 a0] (.bool r):=by
 unfold KL at h
 refine acF Tryz.func292 mixed (h:=Z ?_)
 exact AF trivial h
theorem TG (a0:Int) (u:Bool) (r:Int) (h:F2 a0 u=some r):Aa Tryz.prog Tryz.f272 [1,0,0,1,1,1] (.int .i64 r) ⟨[(0,.int .i64 a0),(18,.bool u)],[],[]⟩:=by
 unfold F2 at h
 refine Ah rfl rfl (Z ?_)
 refine AJ h (fun h=>Z ?_) (fun h=>Z ?_)
 ·exact AF trivial h
 ·refine AW ?_
  replace h:=AD h; obtain⟨w,y,h⟩:=h
  refine Ai y (Z ?_)
  exact AF trivial h
theorem TH (a0:Int) (a1:Int) (u:Bool) (r:Int) (h:F3 a0 a1 u=some r):Aa Tryz.prog Tryz.f272 [1,0,0,1] (.int .i64 r) ⟨[(0,.int .i64 a0),(1,.int .i64 a1),(5,.bool u)],[],[]⟩:=by
 unfold F3 at h
 exact AF (k2 Nj TG) h
theorem Xt (a0 a1 r) (h:Jr a0 a1=some r):AC Tryz.prog 272 [.int .i64 a0,.int .i64 a1] (.int .i64 r):=by
 unfold Jr at h
 refine acF Tryz.func272 mixed (h:=Z ?_)
 exact AF (k1 TH) h
theorem Vq (a0 a1 r) (h:KM a0 a1=some r):AC Tryz.prog 273 [.int .i64 a0,.int .i64 a1] (.int .i64 r):=by
 unfold KM at h
 refine acF Tryz.func273 mixed (h:=Z ?_)
 exact AF trivial h
theorem Vr (a0 r) (h:MG a0=some r):AC Tryz.prog 293 [.int .i64 a0] (.bool r):=by
 unfold MG at h
 refine acF Tryz.func293 mixed (h:=Z ?_)
 exact AF (k1 Nj) h
theorem Xu (a0 r) (h:N7 a0=some r):AC Tryz.prog 294 [.int .i64 a0] (.bool r):=by
 unfold N7 at h
 refine acF Tryz.func294 mixed (h:=Z ?_)
 exact AF trivial h
theorem VH (a0 a1 r) (h:Ht a0 a1=some r):AC Tryz.prog 274 [.int .i64 a0,.int .i64 a1] (.bool r):=by
 unfold Ht at h
 refine acF Tryz.func274 mixed (h:=Z ?_)
 exact AF (k3 Nj Vr Xu) h
theorem Mc (a0 r) (h:G4 a0=some r):AC Tryz.prog 276 [.int .i64 a0] (.bool r):=by
 unfold G4 at h
 refine acF Tryz.func276 mixed (h:=Z ?_)
 exact AF trivial h
theorem Q7 (a0 r) (h:Gk a0=some r):AC Tryz.prog 275 [.int .i64 a0] (.bool r):=by
 unfold Gk at h
 refine acF Tryz.func275 mixed (h:=Z ?_)
 exact AF (k1 Mc) h
theorem az (a0 r) (h:N8 a0=some r):AC Tryz.prog 277 [.int .i64 a0] (.bool r):=by
 unfold N8 at h
 refine acF Tryz.func277 mixed (h:=Z ?_)
 exact AF trivial h
theorem TJ (a0 r) (h:G5 a0=some r):AC Tryz.prog 278 [.int .i64 a0] (.bool r):=by
 unfold G5 at h
 refine acF Tryz.func278 mixed (h:=Z ?_)
 exact AF trivial h
theorem Pj (u:Bool) (w:Bool) (r:Bool) (h:A0 u w=some r):Aa Tryz.prog Tryz.f243 [1,1,1,1,1] (.bool r) ⟨[(3,.bool u),(4,.bool w)],[],[]⟩:=by
 unfold A0 at h
 exact AF trivial h
theorem Pk (a0:Agent) (u:Bool) (r:Bool) (h:C9 a0 u=some r):Aa Tryz.prog Tryz.f243 [1,0,1] (.bool r) ⟨[(1,.box 1000000500 0),(32,.bool u)],[],[(1000000500,some (Agent.avs a0))]⟩:=by
 unfold C9 at h
 refine Ah rfl rfl (Z ?_)
 refine AJ h (fun h=>Z ?_) (fun h=>Z ?_)
 ·exact AF trivial h
 ·refine AW ?_
  refine CT [] .fin (by kernel_rfl) (Z ?_)
  refine AW ?_
  replace h:=AD h; obtain⟨w,y,h⟩:=h
  refine AY (HV _ _ 275 [] (Still.of rfl) (fun y0 q hq=>Q7 y0  q hq) _ y) (Z ?_)
  exact AF (k4 az Pj TJ Mc) h
theorem TK (a0 r) (h:ID a0=some r):AC Tryz.prog 243 [.agg (Agent.avs a0)] (.bool r):=by
 unfold ID at h
 refine acF Tryz.func243 mixed (h:=Z ?_)
 exact AF (k4 Pk Vq Xt VH) h
theorem D5 (a0 a1 a2 r) (h:CK a0 a1 a2=some r):AC Tryz.prog 55 [.int .i64 a0,.int .i64 a1,.int .i64 a2] (.bool r):=by
 unfold CK at h
 refine acF Tryz.func55 mixed (h:=Z ?_)
 exact AF trivial h
theorem TL (u:Bool) (r:Int) (h:F4 u=some r):Aa Tryz.prog Tryz.f268 [1,1,1,0,1,0,1,1,1,1,1] (.int .i64 r) ⟨[(23,.bool u)],[],[]⟩:=by
 unfold F4 at h
 exact AF trivial h
theorem TM (a0:Int) (u:Bool) (r:Int) (h:G6 a0 u=some r):Aa Tryz.prog Tryz.f268 [1,1,1,0,1,0,1,1,1] (.int .i64 r) ⟨[(13,.int .i64 a0),(19,.bool u)],[],[]⟩:=by
 unfold G6 at h
 exact AF (k1 TL) h
theorem TN (a0:Int) (u:Bool) (r:Int) (h:F5 a0 u=some r):Aa Tryz.prog Tryz.f268 [1,1,1,0,1,0,1] (.int .i64 r) ⟨[(13,.int .i64 a0),(14,.bool u)],[],[]⟩:=by
 unfold F5 at h
 exact AF (k1 TM) h
theorem Xv (a0 a1 r) (h:Js a0 a1=some r):AC Tryz.prog 268 [.int .i64 a0,.int .i64 a1] (.int .i64 r):=by
 unfold Js at h
 refine acF Tryz.func268 mixed (h:=Z ?_)
 exact AF (k2 D5 TN) h
theorem VI (a0 r) (h:JH a0=some r):AC Tryz.prog 269 [.rop (Agent.avs a0) 0] (.int .i64 r):=by
 unfold JH at h
 refine acF Tryz.func269 mixed (h:=Z ?_)
 exact AF trivial h
theorem SH (u:Bool) (r:Bool) (h:Bm u=some r):Aa Tryz.prog Tryz.f289 [1,0,1,0,1] (.bool r) ⟨[(4,.bool u)],[],[]⟩:=by
 unfold Bm at h
 exact AF trivial h
theorem Vs (a0 r) (h:KN a0=some r):AC Tryz.prog 289 [.int .i64 a0] (.bool r):=by
 unfold KN at h
 refine acF Tryz.func289 mixed (h:=Z ?_)
 exact AF (k1 SH) h
theorem Xw (a0 r) (h:Lh a0=some r):AC Tryz.prog 290 [.int .i64 a0] (.bool r):=by
 unfold Lh at h
 refine acF Tryz.func290 mixed (h:=Z ?_)
 exact AF (k1 D5) h
theorem Vt (a0 a1 r) (h:Io a0 a1=some r):AC Tryz.prog 270 [.int .i64 a0,.int .i64 a1] (.bool r):=by
 unfold Io at h
 refine acF Tryz.func270 mixed (h:=Z ?_)
 exact AF (k3 Vs D5 Xw) h
theorem Su (a0 r) (h:KO a0=some r):AC Tryz.prog 291 [.int .i64 a0] (.bool r):=by
 unfold KO at h
 refine acF Tryz.func291 mixed (h:=Z ?_)
 exact AF (k1 D5) h
theorem Pl (n:Nat):(∀a0 u r,DA n a0 u=some r→Aa Tryz.prog Tryz.f271 [1,0,1,0,1,1,1,1,1,1,1,1,1,1,1,0,1,0,1,0] (.bool r) ⟨[(0,.rop (Agent.avs a0) 0),(3,.int .i64 u)],[],[]⟩):=by
 induction n with
 |zero=>exact((fun _ _ _ h=>by rw [DA] at h; cases h))
 | succ n ih=>
  have ih0:=ih
  ·intro a0 u r h
   rw [DA] at h
   exact AF (k2 Su ih0) h
theorem Pm (a0:Agent) (u:Bool) (r:Bool) (h:CZ a0 u=some r):Aa Tryz.prog Tryz.f271 [1,0,1,0,1,1,1,1,1,1,1,1,1,1,1,0,0,1] (.bool r) ⟨[(0,.rop (Agent.avs a0) 0),(130,.bool u)],[],[]⟩:=by
 unfold CZ at h
 exact AF (k1 Pl) h
theorem Pn (a0:Agent) (u:Bool) (r:Bool) (h:GF a0 u=some r):Aa Tryz.prog Tryz.f271 [1,0,1,0,1,1,1,1,1,1,1,1,1,1,1] (.bool r) ⟨[(0,.rop (Agent.avs a0) 0),(92,.bool u)],[],[]⟩:=by
 unfold GF at h
 exact AF (k2 Pm D5) h
theorem TO (a0 r) (h:IE a0=some r):AC Tryz.prog 271 [.rop (Agent.avs a0) 0] (.bool r):=by
 unfold IE at h
 refine acF Tryz.func271 mixed (h:=Z ?_)
 exact AF (k3 D5 Su Pn) h
theorem Vl (a0 r) (h:KH a0=some r):AC Tryz.prog 241 [.rop (Agent.avs a0) 0] (.bool r):=by
 unfold KH at h
 refine acF Tryz.func241 mixed (h:=Z ?_)
 exact AF (k4 VI Xv Vt TO) h
end Go.Proofs.YtclmbjbbojdojaaGreat.Ab
