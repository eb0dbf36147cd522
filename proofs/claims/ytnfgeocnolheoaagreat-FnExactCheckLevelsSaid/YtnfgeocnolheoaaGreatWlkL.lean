/-
 The functions do what their models say. Printed by wip/ab/gen.py.
-/
import Derived.Test.YtnfgeocnolheoaaGreatModL
import Derived.Test.YtnfgeocnolheoaaGreatTi2
import Derived.Test.YtnfgeocnolheoaaGreatWlkT
namespace Go.Proofs.YtnfgeocnolheoaaGreat.Ab
set_option linter.defProp false
set_option linter.unusedVariables false
set_option linter.unusedSimpArgs false
set_option maxRecDepth 20000
set_option maxHeartbeats 4000000
open Go.RowKit
theorem OV (n:Nat):(∀a0 a1 a2 a3 r,s_l05LevelsFit n a0 a1 a2 a3=some r→AC Tryz.prog 50 [.rop (TProgram.avs a0) 0,.rop (Term.avs a1) 0,.agg (L05Env.avs a2),.int .i64 a3] (.bool r))∧
    (∀a0 a1 a2 a3 u w r,Cu n a0 a1 a2 a3 u w=some r→Af Tryz.prog Tryz.f50 [1,1,0,1,0,1,1,1,1,1,1,1,0,1,1,1,1] (.bool r) ⟨[(0,.rop [.ro (a0.datas.map Data.ds),.ro (a0.defs.map Def.ds)] 0),(1,.rop [.int .i64 a1.kind,.int .i64 a1.num,.str a1.name,.int .i64 a1.typ.kind,.str a1.typ.name,.ro (a1.typ.kids.map TType.ds),.ro (a1.names.map strD),.ro (a1.kids.map Term.ds)] 0),(3,.int .i64 a3),(6,.box 1000000500 0),(12,.box 1000000501 0),(14,.int .i64 w)],[],[(1000000500,some [.ro (a2.names.map strD),.ro (a2.types.map TType.ds),.ro (a2.levels.map G0)]),(1000000501,some [.int .i64 u.1.kind,.str u.1.name,.ro (u.1.kids.map TType.ds)])]⟩)∧
    (∀a0 a1 a2 a3 y r,Ba n a0 a1 a2 a3 y=some r→Af Tryz.prog Tryz.f50 [1,1,1,0,1,0] (.bool r) ⟨[(0,.rop [.ro (a0.datas.map Data.ds),.ro (a0.defs.map Def.ds)] 0),(1,.rop [.int .i64 a1.kind,.int .i64 a1.num,.str a1.name,.int .i64 a1.typ.kind,.str a1.typ.name,.ro (a1.typ.kids.map TType.ds),.ro (a1.names.map strD),.ro (a1.kids.map Term.ds)] 0),(3,.int .i64 a3),(6,.box 1000002500 0),(15,.int .i64 y)],[],[(1000002500,some [.ro (a2.names.map strD),.ro (a2.types.map TType.ds),.ro (a2.levels.map G0)])]⟩):=by
 induction n with
 |zero=>exact⟨(fun _ _ _ _ _ h=>by rw [s_l05LevelsFit] at h; cases h),(fun _ _ _ _ _ _ _ h=>by rw [Cu] at h; cases h),(fun _ _ _ _ _ _ h=>by rw [Ba] at h; cases h)⟩
 | succ n ih=>
  obtain⟨ih0,ih1,ih2⟩:=ih
  refine⟨?_,?_,?_⟩
  ·intro a0 a1 a2 a3 r h
   rw [s_l05LevelsFit] at h
   refine acF Tryz.func50 mixed (h:=Z ?_)
   refine AD h (fun h=>Z ?_) (fun h=>Z ?_)
   ·cases h
    simp only [go_sem]
   ·refine AF ?_
    refine AD h (fun h=>Z ?_) (fun h=>Z ?_)
    ·refine AW [] .fin (by kernel_rfl) (Z ?_)
     replace h:=AB h; obtain⟨q,g,h⟩:=h
     refine AH (Jj _ _ _ g) (Z ?_)
     refine AF ?_
     refine AD h (fun h=>Z ?_) (fun h=>Z ?_)
     ·refine AF ?_
      cases h
      simp only [go_sem]
     ·replace h:=AB h; obtain⟨j,k,h⟩:=h
      refine AK k rfl (Z ?_)
      refine AF ?_
      cases h
      simp only [go_sem]
    ·refine AD h (fun h=>Z ?_) (fun h=>Z ?_)
     ·refine AW [] .fin (by kernel_rfl) (Z ?_)
      replace h:=AB h; obtain⟨b,d,h⟩:=h
      refine AK d (Term.ds_len _) (Z ?_)
      replace h:=AB h; obtain⟨c,e,h⟩:=h
      refine Ak (Ih _ _ _ _ _ e) (by (first|rfl|(simp only [go_sem]; rfl))) (by first|rfl|(simp only [go_sem])) (Z ?_)
      replace h:=AB h; obtain⟨i,l,h⟩:=h
      refine AH (ih0 _ _ _ _ _ l) (Z ?_)
      refine AF ?_
      cases h
      simp only [go_sem]
     ·refine AD h (fun h=>Z ?_) (fun h=>Z ?_)
      ·refine AW [] .fin (by kernel_rfl) (Z ?_)
       replace h:=AB h; obtain⟨t,s,h⟩:=h
       refine AK s (Term.ds_len _) (Z ?_)
       replace h:=AB h; obtain⟨o,z,h⟩:=h
       refine AH (ih0 _ _ _ _ _ z) (Z ?_)
       refine AF ?_
       cases h
       simp only [go_sem]
      ·refine AD h (fun h=>Z ?_) (fun h=>Z ?_)
       ·refine AW [false,false,false,false,false,false,false,false,false,false,false,false,false,true,true] (Tr.sq [13,14] .fin) (by kernel_rfl) (Z ?_)
        replace h:=AB h; obtain⟨u1,u2,h⟩:=h
        refine AK u2 (Term.ds_len _) (Z ?_)
        replace h:=AB h; obtain⟨u3,u4,h⟩:=h
        refine Ak (Ll fuel _ _ _ _ _ u4) (by (first|rfl|(simp only [go_sem]; rfl))) (by first|rfl|(simp only [go_sem])) (Z ?_)
        refine AF ?_
        replace h:=AB h; obtain⟨u,u5,h⟩:=h
        refine Ak (Np _ _ u5) (by (first|rfl|(simp only [go_sem]; rfl))) (by first|rfl|(simp only [go_sem])) (Z ?_)
        refine AF ?_
        refine AD h (fun h=>Z ?_) (fun h=>Z ?_)
        ·exact AU (ih1 a0 a1 a2 a3 u (IntKind.i64.wrap (a3+1)) _ h) [] [(1000000500,1000),(1000000501,14005)]
        ·exact AU (ih1 a0 a1 a2 a3 u a3 _ h) [] [(1000000500,1000),(1000000501,14005)]
       ·refine AD h (fun h=>Z ?_) (fun h=>Z ?_)
        ·refine AW [] .fin (by kernel_rfl) (Z ?_)
         replace h:=AB h; obtain⟨u6,u7,h⟩:=h
         refine AK u7 (Term.ds_len _) (Z ?_)
         replace h:=AB h; obtain⟨u8,u9,h⟩:=h
         refine Ak (Pb _ _ _ _ _ u9) (by (first|rfl|(simp only [go_sem]; rfl))) (by first|rfl|(simp only [go_sem])) (Z ?_)
         replace h:=AB h; obtain⟨u10,u11,h⟩:=h
         refine AH (ih0 _ _ _ _ _ u11) (Z ?_)
         refine AF ?_
         cases h
         simp only [go_sem]
        ·refine AF ?_
         exact loF (ih2 a0 a1 a2 a3 0 _ h) [] [(1000002500,1000)]
  ·intro a0 a1 a2 a3 u w r h
   rw [Cu] at h
   refine AL rfl rfl (Z ?_)
   refine AW [] .fin (by kernel_rfl) (Z ?_)
   replace h:=AB h; obtain⟨u12,u13,h⟩:=h
   refine AK u13 (Term.ds_len _) (Z ?_)
   replace h:=AB h; obtain⟨u14,u15,h⟩:=h
   refine AH (ih0 _ _ _ _ _ u15) (Z ?_)
   refine AD h (fun h=>Z ?_) (fun h=>Z ?_)
   ·replace h:=AB h; obtain⟨u16,u17,h⟩:=h
    refine AK u17 (Term.ds_len _) (Z ?_)
    replace h:=AB h; obtain⟨u18,u19,h⟩:=h
    refine Ak (Ih _ _ _ _ _ u19) (by (first|rfl|(simp only [go_sem]; rfl))) (by first|rfl|(simp only [go_sem])) (Z ?_)
    replace h:=AB h; obtain⟨u20,u21,h⟩:=h
    refine AH (ih0 _ _ _ _ _ u21) (Z ?_)
    refine AF ?_
    cases h
    simp only [go_sem]
   ·refine AF ?_
    cases h
    simp only [go_sem]
  ·intro a0 a1 a2 a3 y r h
   rw [Ba] at h
   refine AL rfl rfl (Z ?_)
   refine AT (Z ?_)
   refine AD h (fun h=>Z ?_) (fun h=>Z ?_)
   ·refine AF ?_
    refine AW [] .fin (by kernel_rfl) (Z ?_)
    replace h:=AB h; obtain⟨u22,u23,h⟩:=h
    refine AK u23 (Term.ds_len _) (Z ?_)
    replace h:=AB h; obtain⟨u24,u25,h⟩:=h
    refine AH (ih0 _ _ _ _ _ u25) (Z ?_)
    refine AF ?_
    refine AD h (fun h=>Z ?_) (fun h=>Z ?_)
    ·cases h
     simp only [go_sem]
    ·refine AF ?_
     exact lpF (ih2 a0 a1 a2 a3 (IntKind.i64.wrap (y+1)) _ h) [] [(1000002500,1000002500)]
   ·refine AF ?_
    cases h
    simp only [go_sem]
def Pc (n:Nat):=(OV n).1
theorem Pd (n:Nat):(∀a0 u r,Cv n a0 u=some r→Af Tryz.prog Tryz.f27 [1,1,0,1,0] (.int .i64 r) ⟨[(0,.rop [.ro (a0.datas.map Data.ds),.ro (a0.defs.map Def.ds)] 0),(4,.int .i64 u)],[],[]⟩):=by
 induction n with
 |zero=>exact((fun _ _ _ h=>by rw [Cv] at h; cases h))
 | succ n ih=>
  have ih0:=ih
  ·intro a0 u r h
   rw [Cv] at h
   refine AL rfl rfl (Z ?_)
   refine AT (Z ?_)
   refine AD h (fun h=>Z ?_) (fun h=>Z ?_)
   ·refine AF ?_
    replace h:=AB h; obtain⟨w,y,h⟩:=h
    refine AK y (Def.ds_len _) (Z ?_)
    replace h:=AB h; obtain⟨q,g,h⟩:=h
    refine AH (U0 (Pc fuel _ _ _ _ _ g) (.cons (.refl _) (.cons (.rop rfl) (.cons (.refl _) (.cons (.refl _) .nil))))) (Z ?_)
    refine AF ?_
    refine AD h (fun h=>Z ?_) (fun h=>Z ?_)
    ·cases h
     simp only [go_sem]
    ·refine AF ?_
     exact lpF (ih0 a0 (IntKind.i64.wrap (u+1)) _ h) [] []
   ·refine AF ?_
    cases h
    simp only [go_sem]
theorem TJ (a0 r) (h:J5 a0=some r):AC Tryz.prog 27 [.rop (TProgram.avs a0) 0] (.int .i64 r):=by
 unfold J5 at h
 refine acF Tryz.func27 mixed (h:=Z ?_)
 replace h:=AB h; obtain⟨u,w,h⟩:=h
 refine AH (Tk _ _ w) (Z ?_)
 refine AF ?_
 refine AD h (fun h=>Z ?_) (fun h=>Z ?_)
 ·cases h
  simp only [go_sem]
 ·refine AF ?_
  exact loF (Pd fuel a0 0 _ h) [] []
theorem QX (a0 r) (h:Gf a0=some r):AC Tryz.prog 11 [.agg (TProgram.avs a0)] (.int .i64 r):=by
 unfold Gf at h
 refine acF Tryz.func11 mixed (h:=Z ?_)
 replace h:=AB h; obtain⟨u,w,h⟩:=h
 refine AH (TJ _ _ w) (Z ?_)
 refine AF ?_
 cases h
 simp only [go_sem]
theorem Ii (n:Nat):(∀ (a0:List Node) (u:Int) (f1:(Node→Option Bool)) (g1:FuncId) (c1:List AV) (s1:Still c1) (h1:∀ (y0:Node) (q:Bool),f1 y0=some q→AC Tryz.prog g1 (fnA c1 [.rop (Node.avs y0) 0]) (.bool q)) (r:Int),Ax n a0 u f1=some r→Af Tryz.prog Tryz.f99 [1,0,1,0] (.int .i64 r) ⟨[(0,.ro (a0.map (pD Node.ds))),(1,.fn g1 c1),(7,.int .i64 (a0.length:Int)),(8,.int .i64 u)],[],[]⟩):=by
 induction n with
 |zero=>exact((fun _ _ _ _ _ _ _ _ h=>by rw [Ax] at h; cases h))
 | succ n ih=>
  have ih0:=ih
  ·intro a0 u f1 g1 c1 s1 h1 r h
   rw [Ax] at h
   refine AL rfl rfl ?_
   try simp only [go_sem,s1.k,s1.r,s1.c,s1.p,s1.o,s1.f]
   refine AT ?_
   try simp only [go_sem,s1.k,s1.r,s1.c,s1.p,s1.o,s1.f]
   refine AD h (fun h=>?_) (fun h=>?_)
   ·try simp only [go_sem,s1.k,s1.r,s1.c,s1.p,s1.o,s1.f]
    refine BF ?_
    try simp only [go_sem,s1.k,s1.r,s1.c,s1.p,s1.o,s1.f]
    replace h:=AB h; obtain⟨w,y,h⟩:=h
    refine AK y rfl ?_
    try simp only [go_sem,s1.k,s1.r,s1.c,s1.p,s1.o,s1.f]
    replace h:=AB h; obtain⟨g,j,h⟩:=h
    refine AH (h1 _ _ j) ?_
    try simp only [go_sem,s1.k,s1.r,s1.c,s1.p,s1.o,s1.f]
    refine BF ?_
    try simp only [go_sem,s1.k,s1.r,s1.c,s1.p,s1.o,s1.f]
    refine AD h (fun h=>?_) (fun h=>?_)
    ·try simp only [go_sem,s1.k,s1.r,s1.c,s1.p,s1.o,s1.f]
     cases h
     simp only [go_sem,s1.k,s1.r,s1.c,s1.p,s1.o,s1.f]
    ·try simp only [go_sem,s1.k,s1.r,s1.c,s1.p,s1.o,s1.f]
     refine BF ?_
     try simp only [go_sem,s1.k,s1.r,s1.c,s1.p,s1.o,s1.f]
     refine Ne (C3 rfl rfl (ih0 a0 (IntKind.i64.wrap (u+1)) f1 g1 c1 s1 h1 _ h):) (.one ⟨_,.done _,[],[],?_⟩)
     try simp only [go_sem,s1.k,s1.r,s1.c,s1.p,s1.o,s1.f]
   ·try simp only [go_sem,s1.k,s1.r,s1.c,s1.p,s1.o,s1.f]
    refine BF ?_
    try simp only [go_sem,s1.k,s1.r,s1.c,s1.p,s1.o,s1.f]
    cases h
    simp only [go_sem,s1.k,s1.r,s1.c,s1.p,s1.o,s1.f]
theorem Jo (a0:List Node) (f1:(Node→Option Bool)) (g1:FuncId) (c1:List AV) (s1:Still c1) (h1:∀ (y0:Node) (q:Bool),f1 y0=some q→AC Tryz.prog g1 (fnA c1 [.rop (Node.avs y0) 0]) (.bool q)) (r:Int) (h:Ce a0 f1=some r):AC Tryz.prog 99 [.ro (a0.map (pD Node.ds)),.fn g1 c1] (.int .i64 r):=by
 unfold Ce at h
 refine acF Tryz.func99 mixed (h:=?_)
 try simp only [go_sem,s1.k,s1.r,s1.c,s1.p,s1.o,s1.f]
 refine D9 (C3 rfl rfl (Ii fuel a0 0 f1 g1 c1 s1 h1 _ h):) (.one ⟨_,.done _,[],[],?_⟩)
 try simp only [go_sem,s1.k,s1.r,s1.c,s1.p,s1.o,s1.f]
theorem FC (a0:List Node) (f1:(Node→Option Bool)) (g1:FuncId) (c1:List AV) (s1:Still c1) (h1:∀ (y0:Node) (q:Bool),f1 y0=some q→AC Tryz.prog g1 (fnA c1 [.rop (Node.avs y0) 0]) (.bool q)) (r:Bool) (h:BX a0 f1=some r):AC Tryz.prog 51 [.ro (a0.map (pD Node.ds)),.fn g1 c1] (.bool r):=by
 unfold BX at h
 refine acF Tryz.func51 mixed (h:=?_)
 try simp only [go_sem,s1.k,s1.r,s1.c,s1.p,s1.o,s1.f]
 replace h:=AB h; obtain⟨u,w,h⟩:=h
 refine AH (Jo _ _ g1 c1 s1 h1 _ w) ?_
 try simp only [go_sem,s1.k,s1.r,s1.c,s1.p,s1.o,s1.f]
 refine BF ?_
 try simp only [go_sem,s1.k,s1.r,s1.c,s1.p,s1.o,s1.f]
 cases h
 simp only [go_sem,s1.k,s1.r,s1.c,s1.p,s1.o,s1.f]
theorem L7 (n:Nat):(∀a0 r,Db n a0=some r→AC Tryz.prog 100 [.rop (Node.avs a0) 0] (.bool r))∧
    (∀a0 r,Ad n a0=some r→AC Tryz.prog 53 [.rop (Node.avs a0) 0] (.bool r))∧
    (∀a0 u w r,Bi n a0 u w=some r→Af Tryz.prog Tryz.f53 [1,0,1] (.bool r) ⟨[(0,.rop [.int .i64 a0.term.kind,.int .i64 a0.term.num,.str a0.term.name,.int .i64 a0.term.typ.kind,.str a0.term.typ.name,.ro (a0.term.typ.kids.map TType.ds),.ro (a0.term.names.map strD),.ro (a0.term.kids.map Term.ds),.int .i64 a0.typ.kind,.str a0.typ.name,.ro (a0.typ.kids.map TType.ds),.int .i64 a0.level,.ro (a0.kids.map (pD Node.ds)),.ro (a0.binds.map (pD Binder.ds)),(nop Binder.avs u)] 0),(28,.bool w)],[],[]⟩):=by
 induction n with
 |zero=>exact⟨(fun _ _ h=>by rw [Db] at h; cases h),(fun _ _ h=>by rw [Ad] at h; cases h),(fun _ _ _ _ h=>by rw [Bi] at h; cases h)⟩
 | succ n ih=>
  obtain⟨ih0,ih1,ih2⟩:=ih
  refine⟨?_,?_,?_⟩
  ·intro a0 r h
   rw [Db] at h
   refine acF Tryz.func100 mixed (h:=Z ?_)
   replace h:=AB h; obtain⟨y,g,h⟩:=h
   refine AH (ih1 _ _ g) (Z ?_)
   refine AF ?_
   cases h
   simp only [go_sem]
  ·intro a0 r h
   rw [Ad] at h
   refine acF Tryz.func53 mixed (h:=Z ?_)
   refine AW [] .fin (by kernel_rfl) (Z ?_)
   refine AD h (fun h=>Z ?_) (fun h=>Z ?_)
   ·exact AU (ih2 a0 a0.binder true _ h) [] []
   ·rcases hqv2009_8:a0.binder with _|j
    ·rw [hqv2009_8] at h
     replace h:=gx h
     try simp only [hqv2009_8,m8]
     try simp only [go_sem]
     exact AU (ih2 a0 none false _ h) [] []
    ·rw [hqv2009_8] at h
     replace h:=gy h
     try simp only [hqv2009_8,m9]
     try simp only [go_sem]
     exact AU (ih2 a0 (some j) (!decide (j.level=a0.level)) _ h) [] []
  ·intro a0 u w r h
   rw [Bi] at h
   refine AL rfl rfl (Z ?_)
   refine AD h (fun h=>Z ?_) (fun h=>Z ?_)
   ·cases h
    simp only [go_sem]
   ·refine AF ?_
    replace h:=AB h; obtain⟨k,b,h⟩:=h
    refine AH (FC _ _ 100 [] (Still.of rfl) (fun y0 q hq=>ih0 y0  q hq) _ b) (Z ?_)
    refine AF ?_
    cases h
    simp only [go_sem]
def OW (n:Nat):=(L7 n).2.1
theorem Mw (a0 r) (h:ES a0=some r):AC Tryz.prog 52 [.rop (Node.avs a0) 0] (.bool r):=by
 unfold ES at h
 refine acF Tryz.func52 mixed (h:=Z ?_)
 replace h:=AB h; obtain⟨u,w,h⟩:=h
 refine AH (OW fuel _ _ w) (Z ?_)
 refine AF ?_
 cases h
 simp only [go_sem]
theorem Hp (u:(List Node) × Int) (w:Bool) (r:(List Node) × Int) (h:DB u w=some r):EM Tryz.prog Tryz.f28 [1,1,0,1] (.tup [.ro (r.1.map (pD Node.ds)),.int .i64 r.2]) [] [] ⟨[(4,.ro (u.1.map (pD Node.ds))),(5,.int .i64 u.2),(16,.bool w)],[],[]⟩:=by
 unfold DB at h
 refine BI rfl rfl (Z ?_)
 refine AD h (fun h=>Z ?_) (fun h=>Z ?_)
 ·cases h
  refine Aj (.frzN [(0,[0])] [] _ _ (by (first|rfl|(simp only [go_sem]; rfl))) (by (first|rfl|(simp only [go_sem]; rfl))) (.done _)) [] [] ?_
  simp only [go_sem]
  all_goals try rfl
 ·refine AF ?_
  cases h
  refine Aj (.done _) [] [] ?_
  simp only [go_sem]
theorem OX (a0 r) (h:Gu a0=some r):AG Tryz.prog 28 [.agg [.ro (a0.datas.map Data.ds),.ro (a0.defs.map Def.ds)]] [] [] (.tup [.ro (r.1.map (pD Node.ds)),.int .i64 r.2]) [] [] :=by
 unfold Gu at h
 refine agF Tryz.func28 mixed (h:=Z ?_)
 replace h:=AB h; obtain⟨u,w,h⟩:=h
 refine Ak (QY _ _ w) (by (first|rfl|(simp only [go_sem]; rfl))) (by first|rfl|(simp only [go_sem])) (Z ?_)
 refine AF ?_
 refine AD h (fun h=>Z ?_) (fun h=>Z ?_)
 ·replace h:=AB h; obtain⟨y,g,h⟩:=h
  refine AH (FC _ _ 52 [] (Still.of rfl) (fun y0 q hq=>Mw y0  q hq) _ g) (Z ?_)
  exact Aq (Hp u y _ h) [] []
 ·exact Aq (Hp u false _ h) [] []
theorem QZ (a0 r) (h:Gi a0=some r):AC Tryz.prog 12 [.agg (TProgram.avs a0)] (.int .i64 r):=by
 unfold Gi at h
 refine acF Tryz.func12 mixed (h:=Z ?_)
 replace h:=AB h; obtain⟨u,w,h⟩:=h
 refine Ak (OX _ _ w) (by (first|rfl|(simp only [go_sem]; rfl))) (by first|rfl|(simp only [go_sem])) (Z ?_)
 refine AF ?_
 cases h
 simp only [go_sem]
theorem Kj (a0 r) (h:ET a0=some r):AC Tryz.prog 4 [.agg (TProgram.avs a0)] (.bool r):=by
 unfold ET at h
 refine acF Tryz.func4 mixed (h:=Z ?_)
 replace h:=AB h; obtain⟨u,w,h⟩:=h
 refine AH (Mv _ _ _ w) (Z ?_)
 refine AF ?_
 refine AD h (fun h=>Z ?_) (fun h=>Z ?_)
 ·cases h
  simp only [go_sem]
 ·refine AF ?_
  replace h:=AB h; obtain⟨y,q,h⟩:=h
  refine AH (D8 _ _ q) (Z ?_)
  replace h:=AB h; obtain⟨g,j,h⟩:=h
  refine AH (QX _ _ j) (Z ?_)
  refine AF ?_
  replace h:=AB h; obtain⟨k,b,h⟩:=h
  refine AH (D8 _ _ b) (Z ?_)
  refine AF ?_
  replace h:=AB h; obtain⟨d,c,h⟩:=h
  refine AH (QZ _ _ c) (Z ?_)
  refine AF ?_
  refine AD h (fun h=>Z ?_) (fun h=>Z ?_)
  ·cases h
   simp only [go_sem]
  ·refine AF ?_
   refine AW [] .fin (by kernel_rfl) (Z ?_)
   replace h:=AB h; obtain⟨e,i,h⟩:=h
   refine AH (D8 _ _ i) (Z ?_)
   replace h:=AB h; obtain⟨l,t,h⟩:=h
   refine AH (Mu _ _ _ t) (Z ?_)
   refine AF ?_
   refine AD h (fun h=>Z ?_) (fun h=>Z ?_)
   ·cases h
    simp only [go_sem]
   ·refine AF ?_
    cases h
    simp only [go_sem]
end Go.Proofs.YtnfgeocnolheoaaGreat.Ab
