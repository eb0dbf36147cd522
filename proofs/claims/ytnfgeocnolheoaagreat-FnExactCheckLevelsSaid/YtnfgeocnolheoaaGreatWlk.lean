/-
 The functions do what their models say. Printed by wip/ab/gen.py.
-/
import Derived.Test.YtnfgeocnolheoaaGreatMod
import Derived.Test.YtnfgeocnolheoaaGreatTi2
import Derived.Test.YtnfgeocnolheoaaGreatGrS
namespace Go.Proofs.YtnfgeocnolheoaaGreat.Ab
set_option linter.defProp false
set_option linter.unusedVariables false
set_option linter.unusedSimpArgs false
set_option maxRecDepth 20000
set_option maxHeartbeats 4000000
open Go.RowKit
theorem IB (a0 a1 a2 r) (h:IF a0 a1 a2=some r):AC Tryz.prog 30 [.int .i64 a0,.int .i64 a1,.int .i64 a2] (.bool r):=by
 unfold IF at h
 refine acF Tryz.func30 mixed (h:=Z ?_)
 refine AD h (fun h=>Z ?_) (fun h=>Z ?_)
 ·refine AF ?_
  cases h
  simp only [go_sem]
 ·refine AF ?_
  cases h
  simp only [go_sem]
theorem QM (n:Nat):(∀a0 a1 u r,Dm n a0 a1 u=some r→Af Tryz.prog Tryz.f56 [1,0,1,0] (.int .i64 r) ⟨[(0,.ro (a0.map Def.ds)),(1,.str a1),(5,.int .i64 u)],[],[]⟩):=by
 induction n with
 |zero=>exact((fun _ _ _ _ h=>by rw [Dm] at h; cases h))
 | succ n ih=>
  have ih0:=ih
  ·intro a0 a1 u r h
   rw [Dm] at h
   refine AL rfl rfl (Z ?_)
   refine AT (Z ?_)
   refine AD h (fun h=>Z ?_) (fun h=>Z ?_)
   ·refine AF ?_
    replace h:=AB h; obtain⟨w,y,h⟩:=h
    refine AK y (Def.ds_len _) (Z ?_)
    refine AD h (fun h=>Z ?_) (fun h=>Z ?_)
    ·cases h
     simp only [go_sem]
    ·refine AF ?_
     exact lpF (ih0 a0 a1 (IntKind.i64.wrap (u+1)) _ h) [] []
   ·refine AF ?_
    cases h
    simp only [go_sem]
theorem KO (a0 a1 r) (h:G1 a0 a1=some r):AC Tryz.prog 56 [.ro (a0.map Def.ds),.str a1] (.int .i64 r):=by
 unfold G1 at h
 refine acF Tryz.func56 mixed (h:=Z ?_)
 exact loF (QM fuel a0 a1 0 _ h) [] []
theorem QN (n:Nat):(∀a0 a1 u r,Dn n a0 a1 u=some r→Af Tryz.prog Tryz.f107 [1,0,1,0] (.int .i64 r) ⟨[(0,.ro (a0.map Data.ds)),(1,.str a1),(5,.int .i64 u)],[],[]⟩):=by
 induction n with
 |zero=>exact((fun _ _ _ _ h=>by rw [Dn] at h; cases h))
 | succ n ih=>
  have ih0:=ih
  ·intro a0 a1 u r h
   rw [Dn] at h
   refine AL rfl rfl (Z ?_)
   refine AT (Z ?_)
   refine AD h (fun h=>Z ?_) (fun h=>Z ?_)
   ·refine AF ?_
    replace h:=AB h; obtain⟨w,y,h⟩:=h
    refine AK y (Data.ds_len _) (Z ?_)
    refine AD h (fun h=>Z ?_) (fun h=>Z ?_)
    ·cases h
     simp only [go_sem]
    ·refine AF ?_
     exact lpF (ih0 a0 a1 (IntKind.i64.wrap (u+1)) _ h) [] []
   ·refine AF ?_
    cases h
    simp only [go_sem]
theorem Nl (a0 a1 r) (h:Hw a0 a1=some r):AC Tryz.prog 107 [.ro (a0.map Data.ds),.str a1] (.int .i64 r):=by
 unfold Hw at h
 refine acF Tryz.func107 mixed (h:=Z ?_)
 exact loF (QN fuel a0 a1 0 _ h) [] []
theorem Ml (a0 r) (h:HB a0=some r):AC Tryz.prog 159 [.int .u8 a0] (.bool r):=by
 unfold HB at h
 refine acF Tryz.func159 mixed (h:=Z ?_)
 refine AD h (fun h=>Z ?_) (fun h=>Z ?_)
 ·refine AD h (fun h=>Z ?_) (fun h=>Z ?_)
  ·refine AF ?_
   cases h
   simp only [go_sem]
  ·refine AD h (fun h=>Z ?_) (fun h=>Z ?_)
   ·refine AF ?_
    cases h
    simp only [go_sem]
   ·refine AF ?_
    cases h
    simp only [go_sem]
 ·refine AD h (fun h=>Z ?_) (fun h=>Z ?_)
  ·refine AF ?_
   cases h
   simp only [go_sem]
  ·refine AF ?_
   cases h
   simp only [go_sem]
theorem K4  (r:(List ByteArray)) (h:Ga=some r):AG Tryz.prog 177 [] [] [] (.own 1501) [(1501,⟨List.map strD r,some 1,0,false⟩)] [] :=by
 unfold Ga at h
 refine agF Tryz.func177 mixed (h:=Z ?_)
 refine AF ?_
 cases h
 refine Aj (.lit 0 2000000000 2000 8 1 false [] _ _ (by (first|rfl|(simp only [go_sem]; rfl))) (by simp only [go_sem]; rfl) (by (first|rfl|(simp only [go_sem]; rfl))) (by (first|rfl|(simp only [go_sem]; rfl))) (by decide) (by decide) (by simp only [go_sem]) (.done _)) [(1501,2000000000)] [] ?_
 simp only [go_sem]
 all_goals try rfl
theorem PP (n:Nat):(∀a0 u r,DK n a0 u=some r→Af Tryz.prog Tryz.f160 [1,0,1,0] (.bool r) ⟨[(0,.str a0),(3,.int .i64 u)],[],[]⟩):=by
 induction n with
 |zero=>exact((fun _ _ _ h=>by rw [DK] at h; cases h))
 | succ n ih=>
  have ih0:=ih
  ·intro a0 u r h
   rw [DK] at h
   refine AL rfl rfl (Z ?_)
   refine AT (Z ?_)
   replace h:=AB h; obtain⟨w,y,h⟩:=h
   refine Y4 (K4  _ y) (by (first|rfl|(simp only [go_sem]; rfl))) (Z ?_)
   refine AF ?_
   refine AD h (fun h=>Z ?_) (fun h=>Z ?_)
   ·refine AF ?_
    replace h:=AB h; obtain⟨q,g,h⟩:=h
    refine Y4 (K4  _ g) (by (first|rfl|(simp only [go_sem]; rfl))) (Z ?_)
    replace h:=AB h; obtain⟨j,k,h⟩:=h
    refine AK k rfl (Z ?_)
    refine Ai (AX k) (Z ?_)
    refine AF ?_
    refine AD h (fun h=>Z ?_) (fun h=>Z ?_)
    ·cases h
     simp only [go_sem]
    ·refine AF ?_
     exact lpF (ih0 a0 (IntKind.i64.wrap (u+1)) _ h) [] []
   ·refine AF ?_
    cases h
    simp only [go_sem]
theorem S0 (a0 r) (h:IS a0=some r):AC Tryz.prog 160 [.str a0] (.bool r):=by
 unfold IS at h
 refine acF Tryz.func160 mixed (h:=Z ?_)
 exact loF (PP fuel a0 0 _ h) [] []
theorem Ta (a0 r) (h:JX a0=some r):AC Tryz.prog 161 [.int .u8 a0] (.bool r):=by
 unfold JX at h
 refine acF Tryz.func161 mixed (h:=Z ?_)
 refine AD h (fun h=>Z ?_) (fun h=>Z ?_)
 ·refine AF ?_
  cases h
  simp only [go_sem]
 ·refine AF ?_
  cases h
  simp only [go_sem]
theorem Q9 (n:Nat):(∀a0 u r,EO n a0 u=some r→Af Tryz.prog Tryz.f140 [1,1,0,1,0] (.bool r) ⟨[(0,.str a0),(3,.int .i64 u)],[],[]⟩)∧
    (∀a0 u w r,HC n a0 u w=some r→Af Tryz.prog Tryz.f140 [1,1,0,1,0,0,1,0,0,1] (.bool r) ⟨[(0,.str a0),(3,.int .i64 u),(39,.bool w)],[],[]⟩):=by
 induction n with
 |zero=>exact⟨(fun _ _ _ h=>by rw [EO] at h; cases h),(fun _ _ _ _ h=>by rw [HC] at h; cases h)⟩
 | succ n ih=>
  obtain⟨ih0,ih1⟩:=ih
  refine⟨?_,?_⟩
  ·intro a0 u r h
   rw [EO] at h
   refine AL rfl rfl (Z ?_)
   refine AT (Z ?_)
   refine AD h (fun h=>Z ?_) (fun h=>Z ?_)
   ·refine AF ?_
    replace h:=AB h; obtain⟨y,q,h⟩:=h
    refine Ai q (Z ?_)
    replace h:=AB h; obtain⟨g,j,h⟩:=h
    refine AH (Ml _ _ j) (Z ?_)
    refine AD h (fun h=>Z ?_) (fun h=>Z ?_)
    ·replace h:=AB h; obtain⟨k,b,h⟩:=h
     refine Ai b (Z ?_)
     replace h:=AB h; obtain⟨d,c,h⟩:=h
     refine AH (Ta _ _ c) (Z ?_)
     exact AU (ih1 a0 u (!d) _ h) [] []
    ·exact AU (ih1 a0 u false _ h) [] []
   ·refine AF ?_
    cases h
    simp only [go_sem]
  ·intro a0 u w r h
   rw [HC] at h
   refine AL rfl rfl (Z ?_)
   refine AD h (fun h=>Z ?_) (fun h=>Z ?_)
   ·cases h
    simp only [go_sem]
   ·refine AF ?_
    exact lpF (ih0 a0 (IntKind.i64.wrap (u+1)) _ h) [] []
def S1 (n:Nat):=(Q9 n).1
theorem Hi (a0:ByteArray) (u:Bool) (r:Bool) (h:Ft a0 u=some r):Af Tryz.prog Tryz.f140 [1,0,1] (.bool r) ⟨[(0,.str a0),(21,.bool u)],[],[]⟩:=by
 unfold Ft at h
 refine AL rfl rfl (Z ?_)
 refine AD h (fun h=>Z ?_) (fun h=>Z ?_)
 ·cases h
  simp only [go_sem]
 ·refine AF ?_
  exact loF (S1 fuel a0 0 _ h) [] []
theorem Qy (a0 r) (h:Kk a0=some r):AC Tryz.prog 140 [.str a0] (.bool r):=by
 unfold Kk at h
 refine acF Tryz.func140 mixed (h:=Z ?_)
 refine AD h (fun h=>Z ?_) (fun h=>Z ?_)
 ·exact AU (Hi a0 true _ h) [] []
 ·refine AD h (fun h=>Z ?_) (fun h=>Z ?_)
  ·exact AU (Hi a0 true _ h) [] []
  ·replace h:=AB h; obtain⟨u,w,h⟩:=h
   refine Ai w (Z ?_)
   replace h:=AB h; obtain⟨y,q,h⟩:=h
   refine AH (Ml _ _ q) (Z ?_)
   refine AD h (fun h=>Z ?_) (fun h=>Z ?_)
   ·exact AU (Hi a0 true _ h) [] []
   ·replace h:=AB h; obtain⟨g,j,h⟩:=h
    refine AH (S0 _ _ j) (Z ?_)
    exact AU (Hi a0 g _ h) [] []
theorem Hj (a0 r) (h:GJ a0=some r):AC Tryz.prog 138 [.str a0] (.bool r):=by
 unfold GJ at h
 refine acF Tryz.func138 mixed (h:=Z ?_)
 replace h:=AB h; obtain⟨u,w,h⟩:=h
 refine AH (Qy _ _ w) (Z ?_)
 refine AD h (fun h=>Z ?_) (fun h=>Z ?_)
 ·replace h:=AB h; obtain⟨y,q,h⟩:=h
  refine Ai q (Z ?_)
  refine AF ?_
  cases h
  simp only [go_sem]
 ·refine AF ?_
  cases h
  simp only [go_sem]
theorem S2 (n:Nat):(∀a0 a1 r,EW n a0 a1=some r→AC Tryz.prog 57 [.ro (a0.map Data.ds),.agg (TType.avs a1)] (.bool r))∧
    (∀a0 a1 u r,DD n a0 a1 u=some r→Af Tryz.prog Tryz.f57 [1,1,0,1,0] (.bool r) ⟨[(0,.ro (a0.map Data.ds)),(3,.box 1000001500 0),(5,.int .i64 u)],[],[(1000001500,some [.int .i64 a1.kind,.str a1.name,.ro (a1.kids.map TType.ds)])]⟩):=by
 induction n with
 |zero=>exact⟨(fun _ _ _ h=>by rw [EW] at h; cases h),(fun _ _ _ _ h=>by rw [DD] at h; cases h)⟩
 | succ n ih=>
  obtain⟨ih0,ih1⟩:=ih
  refine⟨?_,?_⟩
  ·intro a0 a1 r h
   rw [EW] at h
   refine acF Tryz.func57 mixed (h:=Z ?_)
   refine AD h (fun h=>Z ?_) (fun h=>Z ?_)
   ·replace h:=AB h; obtain⟨w,y,h⟩:=h
    refine AH (Nl _ _ _ y) (Z ?_)
    refine AF ?_
    cases h
    simp only [go_sem]
   ·refine AF ?_
    exact loF (ih1 a0 a1 0 _ h) [] [(1000001500,1000)]
  ·intro a0 a1 u r h
   rw [DD] at h
   refine AL rfl rfl (Z ?_)
   refine AT (Z ?_)
   refine AD h (fun h=>Z ?_) (fun h=>Z ?_)
   ·refine AF ?_
    replace h:=AB h; obtain⟨q,g,h⟩:=h
    refine AK g (TType.ds_len _) (Z ?_)
    replace h:=AB h; obtain⟨j,k,h⟩:=h
    refine AH (ih0 _ _ _ k) (Z ?_)
    refine AF ?_
    refine AD h (fun h=>Z ?_) (fun h=>Z ?_)
    ·cases h
     simp only [go_sem]
    ·refine AF ?_
     exact lpF (ih1 a0 a1 (IntKind.i64.wrap (u+1)) _ h) [] [(1000001500,1000001500)]
   ·refine AF ?_
    cases h
    simp only [go_sem]
def KP (n:Nat):=(S2 n).1
theorem S3 (n:Nat):(∀a0 a1 r,FE n a0 a1=some r→AC Tryz.prog 141 [.agg (TType.avs a0),.int .i64 a1] (.int .i64 r))∧
    (∀a0 a1 u r,Do n a0 a1 u=some r→Af Tryz.prog Tryz.f141 [1,1,1,1] (.int .i64 r) ⟨[(1,.int .i64 a1),(2,.box 1000001500 0),(5,.int .i64 u)],[],[(1000001500,some [.int .i64 a0.kind,.str a0.name,.ro (a0.kids.map TType.ds)])]⟩)∧
    (∀a0 a1 w r,EX n a0 a1 w=some r→Af Tryz.prog Tryz.f141 [1,1,1,1,0,1] (.int .i64 r) ⟨[(1,.int .i64 a1),(2,.box 1000002500 0),(44,.bool w)],[],[(1000002500,some [.int .i64 a0.kind,.str a0.name,.ro (a0.kids.map TType.ds)])]⟩)∧
    (∀a0 a1 y q r,Ci n a0 a1 y q=some r→Af Tryz.prog Tryz.f141 [1,1,1,1,1,1,0,1,0] (.int .i64 r) ⟨[(1,.int .i64 a1),(2,.box 1000004500 0),(6,.int .i64 y),(7,.int .i64 q)],[],[(1000004500,some [.int .i64 a0.kind,.str a0.name,.ro (a0.kids.map TType.ds)])]⟩)∧
    (∀a0 a1 g r,Fb n a0 a1 g=some r→Af Tryz.prog Tryz.f141 [1,1,1,0,1,0,1,1,1,0,1] (.int .i64 r) ⟨[(1,.int .i64 a1),(2,.box 1000000500 0),(5,.int .i64 0),(25,.bool g)],[],[(1000000500,some [.int .i64 a0.kind,.str a0.name,.ro (a0.kids.map TType.ds)])]⟩):=by
 induction n with
 |zero=>exact⟨(fun _ _ _ h=>by rw [FE] at h; cases h),(fun _ _ _ _ h=>by rw [Do] at h; cases h),(fun _ _ _ _ h=>by rw [EX] at h; cases h),(fun _ _ _ _ _ h=>by rw [Ci] at h; cases h),(fun _ _ _ _ h=>by rw [Fb] at h; cases h)⟩
 | succ n ih=>
  obtain⟨ih0,ih1,ih2,ih3,ih4⟩:=ih
  refine⟨?_,?_,?_,?_,?_⟩
  ·intro a0 a1 r h
   rw [FE] at h
   refine acF Tryz.func141 mixed (h:=Z ?_)
   refine AD h (fun h=>Z ?_) (fun h=>Z ?_)
   ·cases h
    simp only [go_sem]
   ·refine AF ?_
    refine AD h (fun h=>Z ?_) (fun h=>Z ?_)
    ·exact AU (ih1 a0 a1 0 _ h) [] [(1000001500,1000)]
    ·refine AD h (fun h=>Z ?_) (fun h=>Z ?_)
     ·replace h:=AB h; obtain⟨j,k,h⟩:=h
      refine AH (Hj _ _ k) (Z ?_)
      refine AD h (fun h=>Z ?_) (fun h=>Z ?_)
      ·exact AU (ih4 a0 a1 true _ h) [] [(1000000500,1000)]
      ·exact AU (ih4 a0 a1 (sameStr a0.name (ByteArray.mk #[73,110,116])) _ h) [] [(1000000500,1000)]
     ·refine AD h (fun h=>Z ?_) (fun h=>Z ?_)
      ·exact AU (ih1 a0 a1 2 _ h) [] [(1000001500,1000)]
      ·refine AD h (fun h=>Z ?_) (fun h=>Z ?_)
       ·exact AU (ih1 a0 a1 1 _ h) [] [(1000001500,1000)]
       ·cases h
        simp only [go_sem]
  ·intro a0 a1 u r h
   rw [Do] at h
   refine AL rfl rfl (Z ?_)
   refine AD h (fun h=>Z ?_) (fun h=>Z ?_)
   ·exact AU (ih2 a0 a1 true _ h) [] [(1000002500,1000001500)]
   ·refine AD h (fun h=>Z ?_) (fun h=>Z ?_)
    ·exact AU (ih2 a0 a1 (!sameStr a0.name (ByteArray.mk #[])) _ h) [] [(1000002500,1000001500)]
    ·exact AU (ih2 a0 a1 false _ h) [] [(1000002500,1000001500)]
  ·intro a0 a1 w r h
   rw [EX] at h
   refine AL rfl rfl (Z ?_)
   refine AD h (fun h=>Z ?_) (fun h=>Z ?_)
   ·cases h
    simp only [go_sem]
   ·refine AF ?_
    exact loF (ih3 a0 a1 1 0 _ h) [] [(1000004500,1000002500)]
  ·intro a0 a1 y q r h
   rw [Ci] at h
   refine AL rfl rfl (Z ?_)
   refine AT (Z ?_)
   refine AD h (fun h=>Z ?_) (fun h=>Z ?_)
   ·refine AF ?_
    replace h:=AB h; obtain⟨b,d,h⟩:=h
    refine AK d (TType.ds_len _) (Z ?_)
    replace h:=AB h; obtain⟨c,e,h⟩:=h
    refine AH (ih0 _ _ _ e) (Z ?_)
    refine AF ?_
    refine AD h (fun h=>Z ?_) (fun h=>Z ?_)
    ·cases h
     simp only [go_sem]
    ·refine AF ?_
     refine AF ?_
     exact lpF (ih3 a0 a1 (IntKind.i64.wrap (y+c)) (IntKind.i64.wrap (q+1)) _ h) [] [(1000004500,1000004500)]
   ·refine AF ?_
    cases h
    simp only [go_sem]
  ·intro a0 a1 g r h
   rw [Fb] at h
   refine AL rfl rfl (Z ?_)
   refine AD h (fun h=>Z ?_) (fun h=>Z ?_)
   ·cases h
    simp only [go_sem]
   ·exact AU (ih1 a0 a1 0 _ h) [] [(1000001500,1000000500)]
def Tb (n:Nat):=(S3 n).1
theorem Ji (a0 r) (h:Fu a0=some r):AC Tryz.prog 103 [.agg (TType.avs a0)] (.bool r):=by
 unfold Fu at h
 refine acF Tryz.func103 mixed (h:=Z ?_)
 replace h:=AB h; obtain⟨u,w,h⟩:=h
 refine AH (Tb fuel _ _ _ w) (Z ?_)
 replace h:=AB h; obtain⟨y,q,h⟩:=h
 refine AH (IB _ _ _ _ q) (Z ?_)
 refine AF ?_
 cases h
 simp only [go_sem]
theorem QO (n:Nat):(∀a0 a1 u r,DE n a0 a1 u=some r→Af Tryz.prog Tryz.f139 [1,1,0,1,0] (.bool r) ⟨[(0,.ro (a0.map Data.ds)),(3,.box 1000003500 0),(5,.int .i64 u)],[],[(1000003500,some [.str a1.name,.ro (a1.fields.map TType.ds)])]⟩)∧
    (∀a0 a1 u w r,GK n a0 a1 u w=some r→Af Tryz.prog Tryz.f139 [1,1,0,1,0,0,1,0,0,1] (.bool r) ⟨[(0,.ro (a0.map Data.ds)),(3,.box 1000004500 0),(5,.int .i64 u),(39,.bool w)],[],[(1000004500,some [.str a1.name,.ro (a1.fields.map TType.ds)])]⟩):=by
 induction n with
 |zero=>exact⟨(fun _ _ _ _ h=>by rw [DE] at h; cases h),(fun _ _ _ _ _ h=>by rw [GK] at h; cases h)⟩
 | succ n ih=>
  obtain⟨ih0,ih1⟩:=ih
  refine⟨?_,?_⟩
  ·intro a0 a1 u r h
   rw [DE] at h
   refine AL rfl rfl (Z ?_)
   refine AT (Z ?_)
   refine AD h (fun h=>Z ?_) (fun h=>Z ?_)
   ·refine AF ?_
    replace h:=AB h; obtain⟨y,q,h⟩:=h
    refine AK q (TType.ds_len _) (Z ?_)
    replace h:=AB h; obtain⟨g,j,h⟩:=h
    refine AH (Ji _ _ j) (Z ?_)
    refine AD h (fun h=>Z ?_) (fun h=>Z ?_)
    ·exact AU (ih1 a0 a1 u true _ h) [] [(1000004500,1000003500)]
    ·replace h:=AB h; obtain⟨k,b,h⟩:=h
     refine AK b (TType.ds_len _) (Z ?_)
     replace h:=AB h; obtain⟨d,c,h⟩:=h
     refine AH (KP fuel _ _ _ c) (Z ?_)
     exact AU (ih1 a0 a1 u (!d) _ h) [] [(1000004500,1000003500)]
   ·refine AF ?_
    cases h
    simp only [go_sem]
  ·intro a0 a1 u w r h
   rw [GK] at h
   refine AL rfl rfl (Z ?_)
   refine AD h (fun h=>Z ?_) (fun h=>Z ?_)
   ·cases h
    simp only [go_sem]
   ·refine AF ?_
    exact lpF (ih0 a0 a1 (IntKind.i64.wrap (u+1)) _ h) [] [(1000003500,1000004500)]
def RA (n:Nat):=(QO n).1
theorem Ls (a0:List Data) (a1:Constructor) (u:Bool) (r:Bool) (h:HR a0 a1 u=some r):Af Tryz.prog Tryz.f139 [1,0,1] (.bool r) ⟨[(0,.ro (a0.map Data.ds)),(3,.box 1000000500 0),(15,.bool u)],[],[(1000000500,some [.str a1.name,.ro (a1.fields.map TType.ds)])]⟩:=by
 unfold HR at h
 refine AL rfl rfl (Z ?_)
 refine AD h (fun h=>Z ?_) (fun h=>Z ?_)
 ·cases h
  simp only [go_sem]
 ·refine AF ?_
  exact loF (RA fuel a0 a1 0 _ h) [] [(1000003500,1000000500)]
theorem VS (a0 a1 r) (h:Kl a0 a1=some r):AC Tryz.prog 139 [.ro (a0.map Data.ds),.agg (Constructor.avs a1)] (.bool r):=by
 unfold Kl at h
 refine acF Tryz.func139 mixed (h:=Z ?_)
 replace h:=AB h; obtain⟨u,w,h⟩:=h
 refine AH (Hj _ _ w) (Z ?_)
 refine AD h (fun h=>Z ?_) (fun h=>Z ?_)
 ·exact AU (Ls a0 a1 true _ h) [] [(1000000500,1000)]
 ·exact AU (Ls a0 a1 (decide (3<(a1.fields.length:Int))) _ h) [] [(1000000500,1000)]
theorem QP (n:Nat):(∀a0 u w r,CS n a0 u w=some r→Af Tryz.prog Tryz.f101 [1,1,1,0,1,0] (.bool r) ⟨[(0,.ro (a0.map Data.ds)),(3,.own 1000012000),(4,.int .i64 w)],[(1000012000,some ⟨List.map strD u,some 1,0,false⟩)],[]⟩)∧
    (∀a0 u w y q r,Di n a0 u w y q=some r→Af Tryz.prog Tryz.f101 [1,1,1,0,1,0,0,1,0,0,1,0,1] (.bool r) ⟨[(0,.ro (a0.map Data.ds)),(3,.own 1000013000),(4,.int .i64 w),(5,.box 1000013500 0),(50,.bool q)],[(1000013000,some ⟨List.map strD u,some 1,0,false⟩)],[(1000013500,some [.str y.name,.ro (y.cons.map Constructor.ds)])]⟩)∧
    (∀a0 w y g j r,B8 n a0 w y g j=some r→Af Tryz.prog Tryz.f101 [1,1,1,0,1,0,0,1,0,0,1,1,1,0] (.bool r) ⟨[(0,.ro (a0.map Data.ds)),(3,.own 1000019000),(4,.int .i64 w),(5,.box 1000019500 0),(6,.int .i64 j)],[(1000019000,some ⟨List.map strD g,some 1,0,false⟩)],[(1000019500,some [.str y.name,.ro (y.cons.map Constructor.ds)])]⟩)∧
    (∀a0 w g j y k r,Cm n a0 w g j y k=some r→Af Tryz.prog Tryz.f101 [1,1,1,0,1,0,0,1,0,0,1,1,1,0,0,1,0,0,1,0,1,0] (.bool r) ⟨[(0,.ro (a0.map Data.ds)),(3,.own 1000023000),(4,.int .i64 w),(5,.box 1000023500 0),(6,.int .i64 j),(7,.int .i64 k)],[(1000023000,some ⟨List.map strD g,some 1,0,false⟩)],[(1000023500,some [.str y.name,.ro (y.cons.map Constructor.ds)])]⟩):=by
 induction n with
 |zero=>exact⟨(fun _ _ _ _ h=>by rw [CS] at h; cases h),(fun _ _ _ _ _ _ h=>by rw [Di] at h; cases h),(fun _ _ _ _ _ _ h=>by rw [B8] at h; cases h),(fun _ _ _ _ _ _ _ h=>by rw [Cm] at h; cases h)⟩
 | succ n ih=>
  obtain⟨ih0,ih1,ih2,ih3⟩:=ih
  refine⟨?_,?_,?_,?_⟩
  ·intro a0 u w r h
   rw [CS] at h
   refine AL rfl rfl (Z ?_)
   refine AT (Z ?_)
   refine AD h (fun h=>Z ?_) (fun h=>Z ?_)
   ·refine AF ?_
    replace h:=AB h; obtain⟨y,b,h⟩:=h
    refine AK b (Data.ds_len _) (Z ?_)
    refine AF ?_
    replace h:=AB h; obtain⟨d,c,h⟩:=h
    refine AH (Hj _ _ c) (Z ?_)
    refine AD h (fun h=>Z ?_) (fun h=>Z ?_)
    ·exact AU (ih1 a0 u w y true _ h) [(1000013000,1000012000)] [(1000013500,8004)]
    ·refine AD h (fun h=>Z ?_) (fun h=>Z ?_)
     ·exact AU (ih1 a0 u w y true _ h) [(1000013000,1000012000)] [(1000013500,8004)]
     ·replace h:=AB h; obtain⟨e,i,h⟩:=h
      refine AH (Nl _ _ _ i) (Z ?_)
      refine AD h (fun h=>Z ?_) (fun h=>Z ?_)
      ·exact AU (ih1 a0 u w y true _ h) [(1000013000,1000012000)] [(1000013500,8004)]
      ·refine AD h (fun h=>Z ?_) (fun h=>Z ?_)
       ·exact AU (ih1 a0 u w y true _ h) [(1000013000,1000012000)] [(1000013500,8004)]
       ·exact AU (ih1 a0 u w y (decide (4<(y.cons.length:Int))) _ h) [(1000013000,1000012000)] [(1000013500,8004)]
   ·refine AF ?_
    cases h
    simp only [go_sem]
  ·intro a0 u w y q r h
   rw [Di] at h
   refine AL rfl rfl (Z ?_)
   refine AD h (fun h=>Z ?_) (fun h=>Z ?_)
   ·cases h
    simp only [go_sem]
   ·refine AF ?_
    exact loF (ih2 a0 w y u 0 _ h) [(1000019000,1000013000)] [(1000019500,1000013500)]
  ·intro a0 w y g j r h
   rw [B8] at h
   refine AL rfl rfl (Z ?_)
   refine AT (Z ?_)
   refine AD h (fun h=>Z ?_) (fun h=>Z ?_)
   ·refine AF ?_
    replace h:=AB h; obtain⟨l,t,h⟩:=h
    refine AK t (Constructor.ds_len _) (Z ?_)
    replace h:=AB h; obtain⟨s,o,h⟩:=h
    refine AH (VS _ _ _ o) (Z ?_)
    refine AF ?_
    refine AD h (fun h=>Z ?_) (fun h=>Z ?_)
    ·cases h
     simp only [go_sem]
    ·refine AF ?_
     exact loF (ih3 a0 w g j y 0 _ h) [(1000023000,1000019000)] [(1000023500,1000019500)]
   ·refine AF ?_
    exact lpF (ih0 a0 g (IntKind.i64.wrap (w+1)) _ h) [(1000012000,1000019000)] []
  ·intro a0 w g j y k r h
   rw [Cm] at h
   refine AL rfl rfl (Z ?_)
   refine AT (Z ?_)
   refine AD h (fun h=>Z ?_) (fun h=>Z ?_)
   ·refine AF ?_
    refine AW [] .fin (by kernel_rfl) (Z ?_)
    replace h:=AB h; obtain⟨z,u1,h⟩:=h
    refine AK u1 rfl (Z ?_)
    refine Ai (AX u1) (Z ?_)
    replace h:=AB h; obtain⟨u2,u3,h⟩:=h
    refine AK u3 (Constructor.ds_len _) (Z ?_)
    refine AF ?_
    refine AD h (fun h=>Z ?_) (fun h=>Z ?_)
    ·cases h
     simp only [go_sem]
    ·refine AF ?_
     exact lpF (ih3 a0 w g j y (IntKind.i64.wrap (k+1)) _ h) [(1000023000,1000023000)] [(1000023500,1000023500)]
   ·refine AF ?_
    replace h:=AB h; obtain⟨u4,u5,h⟩:=h
    refine AK u5 (Constructor.ds_len _) (Z ?_)
    replace h:=AB h; obtain⟨u6,u7,h⟩:=h
    have hq_:=Ca u7
    obtain⟨hv21008a,hv21008b⟩:=hq_
    refine G9 false (Z ?_)
    refine Bl (by refine⟨?_,?_⟩ <;> (try simp only [List.length_map,List.length_append,List.length_cons,List.length_nil] at*) <;> (try unfold maxLen) <;> omega) (Z ?_)
    refine Av (u6.map strD) (by rw [← hv21008b]; simp only [List.map_append,List.map_cons,List.map_nil,List.nil_append,List.append_nil,go_sem,slD]) (Z ?_)
    refine AF ?_
    exact lpF (ih2 a0 w y u6 (IntKind.i64.wrap (j+1)) _ h) [(1000019000,336128)] [(1000019500,1000023500)]
def RB (n:Nat):=(QP n).1
theorem YY (a0 r) (h:O7 a0=some r):AC Tryz.prog 101 [.ro (a0.map Data.ds)] (.bool r):=by
 unfold O7 at h
 refine acF Tryz.func101 mixed (h:=Z ?_)
 refine AD h (fun h=>Z ?_) (fun h=>Z ?_)
 ·cases h
  simp only [go_sem]
 ·refine AF ?_
  refine AF ?_
  refine D9 (C3 rfl rfl (RB fuel a0 [] 0 _ h):) (.one ⟨_,.lit 3 2000000000 4000 0 1 false [] _ _ (by (first|rfl|(simp only [go_sem]; rfl))) (by simp only [go_sem]; rfl) (by (first|rfl|(simp only [go_sem]; rfl))) (by (first|rfl|(simp only [go_sem]; rfl))) (by decide) (by decide) (by simp only [go_sem]) (.done _),[(1000012000,2000000000)],[],?_⟩)
  simp only [go_sem]
  all_goals try rfl
theorem Ld (a0 r) (h:Hx a0=some r):AC Tryz.prog 102 [.str a0] (.bool r):=by
 unfold Hx at h
 refine acF Tryz.func102 mixed (h:=Z ?_)
 replace h:=AB h; obtain⟨u,w,h⟩:=h
 refine AH (Qy _ _ w) (Z ?_)
 refine AD h (fun h=>Z ?_) (fun h=>Z ?_)
 ·replace h:=AB h; obtain⟨y,q,h⟩:=h
  refine Ai q (Z ?_)
  refine AF ?_
  cases h
  simp only [go_sem]
 ·refine AF ?_
  cases h
  simp only [go_sem]
theorem Im (a0:Int) (u:Bool) (r:Int × Int) (h:GL a0 u=some r):Af Tryz.prog Tryz.f162 [1,0,1,0,1,1,1,1,1] (.tup [.int .i64 r.1,.int .i64 r.2]) ⟨[(4,.int .i64 a0),(12,.bool u)],[],[]⟩:=by
 unfold GL at h
 refine AL rfl rfl (Z ?_)
 refine AD h (fun h=>Z ?_) (fun h=>Z ?_)
 ·cases h
  simp only [go_sem]
 ·refine AD h (fun h=>Z ?_) (fun h=>Z ?_)
  ·cases h
   simp only [go_sem]
  ·refine AD h (fun h=>Z ?_) (fun h=>Z ?_)
   ·cases h
    simp only [go_sem]
   ·refine AD h (fun h=>Z ?_) (fun h=>Z ?_)
    ·cases h
     simp only [go_sem]
    ·refine AF ?_
     cases h
     simp only [go_sem]
theorem In (a0:Int) (u:Bool) (r:Int × Int) (h:GM a0 u=some r):Af Tryz.prog Tryz.f162 [1,0,1,0,1,1,1] (.tup [.int .i64 r.1,.int .i64 r.2]) ⟨[(4,.int .i64 a0),(8,.bool u)],[],[]⟩:=by
 unfold GM at h
 refine AL rfl rfl (Z ?_)
 refine AD h (fun h=>Z ?_) (fun h=>Z ?_)
 ·cases h
  simp only [go_sem]
 ·refine AD h (fun h=>Z ?_) (fun h=>Z ?_)
  ·exact AU (Im a0 (decide (a0=3)) _ h) [] []
  ·refine AD h (fun h=>Z ?_) (fun h=>Z ?_)
   ·exact AU (Im a0 (decide (a0=5)) _ h) [] []
   ·exact AU (Im a0 (decide (a0=7)) _ h) [] []
theorem Lt (a0:Int) (u:Bool) (r:Int × Int) (h:HT a0 u=some r):Af Tryz.prog Tryz.f162 [1,0,1,0,1] (.tup [.int .i64 r.1,.int .i64 r.2]) ⟨[(4,.int .i64 a0),(5,.bool u)],[],[]⟩:=by
 unfold HT at h
 refine AL rfl rfl (Z ?_)
 refine AD h (fun h=>Z ?_) (fun h=>Z ?_)
 ·cases h
  simp only [go_sem]
 ·refine AD h (fun h=>Z ?_) (fun h=>Z ?_)
  ·exact AU (In a0 (decide (a0=4)) _ h) [] []
  ·refine AD h (fun h=>Z ?_) (fun h=>Z ?_)
   ·exact AU (In a0 (decide (a0=6)) _ h) [] []
   ·exact AU (In a0 (decide (a0=10)) _ h) [] []
theorem VT (a0 r) (h:Km a0=some r):AC Tryz.prog 162 [.int .i64 a0] (.tup [.int .i64 r.1,.int .i64 r.2]):=by
 unfold Km at h
 refine acF Tryz.func162 mixed (h:=Z ?_)
 refine AD h (fun h=>Z ?_) (fun h=>Z ?_)
 ·exact AU (Lt a0 (decide (a0=1)) _ h) [] []
 ·exact AU (Lt a0 (decide (a0=2)) _ h) [] []
theorem Mm (a0 r) (h:HD a0=some r):AC Tryz.prog 178 [.agg (TType.avs a0)] (.bool r):=by
 unfold HD at h
 refine acF Tryz.func178 mixed (h:=Z ?_)
 refine AD h (fun h=>Z ?_) (fun h=>Z ?_)
 ·refine AD h (fun h=>Z ?_) (fun h=>Z ?_)
  ·refine AF ?_
   cases h
   simp only [go_sem]
  ·refine AF ?_
   cases h
   simp only [go_sem]
 ·refine AF ?_
  cases h
  simp only [go_sem]
theorem Tc (n:Nat):(∀a0 a1 u r,Fv n a0 a1 u=some r→Af Tryz.prog Tryz.f60 [1,0,1,0] (.int .i64 r) ⟨[(0,.ro (a0.map strD)),(1,.str a1),(5,.int .i64 u)],[],[]⟩):=by
 induction n with
 |zero=>exact((fun _ _ _ _ h=>by rw [Fv] at h; cases h))
 | succ n ih=>
  have ih0:=ih
  ·intro a0 a1 u r h
   rw [Fv] at h
   refine AL rfl rfl (Z ?_)
   refine AT (Z ?_)
   refine AD h (fun h=>Z ?_) (fun h=>Z ?_)
   ·refine AF ?_
    replace h:=AB h; obtain⟨w,y,h⟩:=h
    refine AK y rfl (Z ?_)
    refine AD h (fun h=>Z ?_) (fun h=>Z ?_)
    ·cases h
     simp only [go_sem]
    ·refine AF ?_
     exact lpF (ih0 a0 a1 (IntKind.i64.wrap (u - 1)) _ h) [] []
   ·refine AF ?_
    cases h
    simp only [go_sem]
theorem Jj (a0 a1 r) (h:IG a0 a1=some r):AC Tryz.prog 60 [.ro (a0.map strD),.str a1] (.int .i64 r):=by
 unfold IG at h
 refine acF Tryz.func60 mixed (h:=Z ?_)
 exact loF (Tc fuel a0 a1 (IntKind.i64.wrap ((a0.length:Int) - 1)) _ h) [] []
theorem Mn (n:Nat):(∀a0 u r,BV n a0 u=some r→Af Tryz.prog Tryz.f179 [1,0,1,0] (.bool r) ⟨[(0,.ro (a0.map strD)),(3,.int .i64 u)],[],[]⟩)∧
    (∀a0 u w r,Dv n a0 u w=some r→Af Tryz.prog Tryz.f179 [1,0,1,0,0,1,0,0,1] (.bool r) ⟨[(0,.ro (a0.map strD)),(3,.int .i64 u),(26,.bool w)],[],[]⟩):=by
 induction n with
 |zero=>exact⟨(fun _ _ _ h=>by rw [BV] at h; cases h),(fun _ _ _ _ h=>by rw [Dv] at h; cases h)⟩
 | succ n ih=>
  obtain⟨ih0,ih1⟩:=ih
  refine⟨?_,?_⟩
  ·intro a0 u r h
   rw [BV] at h
   refine AL rfl rfl (Z ?_)
   refine AT (Z ?_)
   refine AD h (fun h=>Z ?_) (fun h=>Z ?_)
   ·refine AF ?_
    refine AW [] .fin (by kernel_rfl) (Z ?_)
    replace h:=AB h; obtain⟨y,q,h⟩:=h
    refine AK q rfl (Z ?_)
    replace h:=AB h; obtain⟨g,j,h⟩:=h
    refine AH (Ld _ _ j) (Z ?_)
    refine AD h (fun h=>Z ?_) (fun h=>Z ?_)
    ·exact AU (ih1 a0 u true _ h) [] []
    ·replace h:=AB h; obtain⟨k,b,h⟩:=h
     refine Bl (IP (by intro x; exact rfl) _) (Z ?_)
     refine Ai (O3 b) (Z ?_)
     replace h:=AB h; obtain⟨d,c,h⟩:=h
     refine AK c rfl (Z ?_)
     replace h:=AB h; obtain⟨e,i,h⟩:=h
     refine AH (Jj _ _ _ i) (Z ?_)
     exact AU (ih1 a0 u (decide (0≤e)) _ h) [] []
   ·refine AF ?_
    cases h
    simp only [go_sem]
  ·intro a0 u w r h
   rw [Dv] at h
   refine AL rfl rfl (Z ?_)
   refine AD h (fun h=>Z ?_) (fun h=>Z ?_)
   ·cases h
    simp only [go_sem]
   ·refine AF ?_
    exact lpF (ih0 a0 (IntKind.i64.wrap (u+1)) _ h) [] []
def NO (n:Nat):=(Mn n).1
theorem QQ (a0 r) (h:Gb a0=some r):AC Tryz.prog 179 [.ro (a0.map strD)] (.bool r):=by
 unfold Gb at h
 refine acF Tryz.func179 mixed (h:=Z ?_)
 exact loF (NO fuel a0 0 _ h) [] []
theorem KA (a0 r) (h:Fw a0=some r):Af Tryz.prog Tryz.f163 [1,1,1,1,1,1] (.bool r) ⟨[(0,.rop [.int .i64 a0.kind,.int .i64 a0.num,.str a0.name,.int .i64 a0.typ.kind,.str a0.typ.name,.ro (a0.typ.kids.map TType.ds),.ro (a0.names.map strD),.ro (a0.kids.map Term.ds)] 0)],[],[]⟩:=by
 unfold Fw at h
 refine AL rfl rfl (Z ?_)
 refine AD h (fun h=>Z ?_) (fun h=>Z ?_)
 ·replace h:=AB h; obtain⟨u,w,h⟩:=h
  refine AH (IB _ _ _ _ w) (Z ?_)
  refine AF ?_
  cases h
  simp only [go_sem]
 ·refine AD h (fun h=>Z ?_) (fun h=>Z ?_)
  ·replace h:=AB h; obtain⟨y,q,h⟩:=h
   refine AH (IB _ _ _ _ q) (Z ?_)
   refine AF ?_
   cases h
   simp only [go_sem]
  ·refine AF ?_
   cases h
   simp only [go_sem]
theorem KC (a0:Term) (u:Bool) (r:Bool) (h:Fx a0 u=some r):Af Tryz.prog Tryz.f163 [1,1,1,1,1,0,1,0,1] (.bool r) ⟨[(0,.rop [.int .i64 a0.kind,.int .i64 a0.num,.str a0.name,.int .i64 a0.typ.kind,.str a0.typ.name,.ro (a0.typ.kids.map TType.ds),.ro (a0.names.map strD),.ro (a0.kids.map Term.ds)] 0),(117,.bool u)],[],[]⟩:=by
 unfold Fx at h
 refine AL rfl rfl (Z ?_)
 refine AD h (fun h=>Z ?_) (fun h=>Z ?_)
 ·cases h
  simp only [go_sem]
 ·exact AU (KA a0 _ h) [] []
theorem EU (a0:Term) (u:Bool) (r:Bool) (h:DL a0 u=some r):Af Tryz.prog Tryz.f163 [1,1,1,1,0,1] (.bool r) ⟨[(0,.rop [.int .i64 a0.kind,.int .i64 a0.num,.str a0.name,.int .i64 a0.typ.kind,.str a0.typ.name,.ro (a0.typ.kids.map TType.ds),.ro (a0.names.map strD),.ro (a0.kids.map Term.ds)] 0),(98,.bool u)],[],[]⟩:=by
 unfold DL at h
 refine AL rfl rfl (Z ?_)
 refine AD h (fun h=>Z ?_) (fun h=>Z ?_)
 ·cases h
  simp only [go_sem]
 ·refine AF ?_
  refine AD h (fun h=>Z ?_) (fun h=>Z ?_)
  ·refine AD h (fun h=>Z ?_) (fun h=>Z ?_)
   ·exact AU (KC a0 true _ h) [] []
   ·replace h:=AB h; obtain⟨w,y,h⟩:=h
    refine AH (QQ _ _ y) (Z ?_)
    exact AU (KC a0 (!w) _ h) [] []
  ·refine AD h (fun h=>Z ?_) (fun h=>Z ?_)
   ·cases h
    simp only [go_sem]
   ·exact AU (KA a0 _ h) [] []
theorem An (a0:Term) (u:Bool) (r:Bool) (h:Ar a0 u=some r):Af Tryz.prog Tryz.f163 [1,1,1,0,1] (.bool r) ⟨[(0,.rop [.int .i64 a0.kind,.int .i64 a0.num,.str a0.name,.int .i64 a0.typ.kind,.str a0.typ.name,.ro (a0.typ.kids.map TType.ds),.ro (a0.names.map strD),.ro (a0.kids.map Term.ds)] 0),(70,.bool u)],[],[]⟩:=by
 unfold Ar at h
 refine AL rfl rfl (Z ?_)
 refine AD h (fun h=>Z ?_) (fun h=>Z ?_)
 ·cases h
  simp only [go_sem]
 ·refine AF ?_
  refine AD h (fun h=>Z ?_) (fun h=>Z ?_)
  ·replace h:=AB h; obtain⟨w,y,h⟩:=h
   refine AH (Ji _ _ y) (Z ?_)
   refine AD h (fun h=>Z ?_) (fun h=>Z ?_)
   ·exact AU (EU a0 true _ h) [] []
   ·refine AD h (fun h=>Z ?_) (fun h=>Z ?_)
    ·replace h:=AB h; obtain⟨q,g,h⟩:=h
     refine AH (Mm _ _ g) (Z ?_)
     exact AU (EU a0 (!q) _ h) [] []
    ·exact AU (EU a0 false _ h) [] []
  ·refine AD h (fun h=>Z ?_) (fun h=>Z ?_)
   ·replace h:=AB h; obtain⟨q,g,h⟩:=h
    refine AH (Mm _ _ g) (Z ?_)
    exact AU (EU a0 (!q) _ h) [] []
   ·exact AU (EU a0 false _ h) [] []
theorem KD (a0:Term) (u:Bool) (w:Bool) (r:Bool) (h:Fy a0 u w=some r):Af Tryz.prog Tryz.f163 [1,1,1] (.bool r) ⟨[(0,.rop [.int .i64 a0.kind,.int .i64 a0.num,.str a0.name,.int .i64 a0.typ.kind,.str a0.typ.name,.ro (a0.typ.kids.map TType.ds),.ro (a0.names.map strD),.ro (a0.kids.map Term.ds)] 0),(3,.bool u),(4,.bool w)],[],[]⟩:=by
 unfold Fy at h
 refine AL rfl rfl (Z ?_)
 refine AD h (fun h=>Z ?_) (fun h=>Z ?_)
 ·replace h:=AB h; obtain⟨y,q,h⟩:=h
  refine AH (Ld _ _ q) (Z ?_)
  refine AD h (fun h=>Z ?_) (fun h=>Z ?_)
  ·exact AU (An a0 true _ h) [] []
  ·refine AD h (fun h=>Z ?_) (fun h=>Z ?_)
   ·replace h:=AB h; obtain⟨g,j,h⟩:=h
    refine AH (Hj _ _ j) (Z ?_)
    refine AD h (fun h=>Z ?_) (fun h=>Z ?_)
    ·exact AU (An a0 true _ h) [] []
    ·refine AD h (fun h=>Z ?_) (fun h=>Z ?_)
     ·refine AD h (fun h=>Z ?_) (fun h=>Z ?_)
      ·exact AU (An a0 (!sameStr a0.name (ByteArray.mk #[])) _ h) [] []
      ·exact AU (An a0 false _ h) [] []
     ·exact AU (An a0 false _ h) [] []
   ·refine AD h (fun h=>Z ?_) (fun h=>Z ?_)
    ·refine AD h (fun h=>Z ?_) (fun h=>Z ?_)
     ·exact AU (An a0 (!sameStr a0.name (ByteArray.mk #[])) _ h) [] []
     ·exact AU (An a0 false _ h) [] []
    ·exact AU (An a0 false _ h) [] []
 ·refine AD h (fun h=>Z ?_) (fun h=>Z ?_)
  ·replace h:=AB h; obtain⟨g,j,h⟩:=h
   refine AH (Hj _ _ j) (Z ?_)
   refine AD h (fun h=>Z ?_) (fun h=>Z ?_)
   ·exact AU (An a0 true _ h) [] []
   ·refine AD h (fun h=>Z ?_) (fun h=>Z ?_)
    ·refine AD h (fun h=>Z ?_) (fun h=>Z ?_)
     ·exact AU (An a0 (!sameStr a0.name (ByteArray.mk #[])) _ h) [] []
     ·exact AU (An a0 false _ h) [] []
    ·exact AU (An a0 false _ h) [] []
  ·refine AD h (fun h=>Z ?_) (fun h=>Z ?_)
   ·refine AD h (fun h=>Z ?_) (fun h=>Z ?_)
    ·exact AU (An a0 (!sameStr a0.name (ByteArray.mk #[])) _ h) [] []
    ·exact AU (An a0 false _ h) [] []
   ·exact AU (An a0 false _ h) [] []
theorem Hk (a0:Term) (u:Bool) (r:Bool) (h:Ep a0 u=some r):Af Tryz.prog Tryz.f163 [1,1] (.bool r) ⟨[(0,.rop [.int .i64 a0.kind,.int .i64 a0.num,.str a0.name,.int .i64 a0.typ.kind,.str a0.typ.name,.ro (a0.typ.kids.map TType.ds),.ro (a0.names.map strD),.ro (a0.kids.map Term.ds)] 0),(3,.bool u)],[],[]⟩:=by
 unfold Ep at h
 refine AL rfl rfl (Z ?_)
 refine AD h (fun h=>Z ?_) (fun h=>Z ?_)
 ·exact AU (KD a0 u true _ h) [] []
 ·exact AU (KD a0 u (decide (a0.kind=10)) _ h) [] []
theorem S4 (a0 r) (h:IT a0=some r):AC Tryz.prog 163 [.rop (Term.avs a0) 0] (.bool r):=by
 unfold IT at h
 refine acF Tryz.func163 mixed (h:=Z ?_)
 refine AD h (fun h=>Z ?_) (fun h=>Z ?_)
 ·exact AU (Hk a0 true _ h) [] []
 ·refine AD h (fun h=>Z ?_) (fun h=>Z ?_)
  ·exact AU (Hk a0 true _ h) [] []
  ·exact AU (Hk a0 (decide (a0.kind=7)) _ h) [] []
theorem S5 (n:Nat):(∀a0 a1 a2 a3 r,FF n a0 a1 a2 a3=some r→AC Tryz.prog 142 [.rop (Term.avs a0) 0,.int .i64 a1,.bool a2,.int .i64 a3] (.int .i64 r))∧
    (∀a0 a1 a3 u r,DF n a0 a1 a3 u=some r→Af Tryz.prog Tryz.f142 [1,1,0,1] (.int .i64 r) ⟨[(0,.rop [.int .i64 a0.kind,.int .i64 a0.num,.str a0.name,.int .i64 a0.typ.kind,.str a0.typ.name,.ro (a0.typ.kids.map TType.ds),.ro (a0.names.map strD),.ro (a0.kids.map Term.ds)] 0),(1,.int .i64 a1),(3,.int .i64 a3),(52,.bool u)],[],[]⟩)∧
    (∀a0 a1 a3 w y r,B7 n a0 a1 a3 w y=some r→Af Tryz.prog Tryz.f142 [1,1,1,1,0,1,0] (.int .i64 r) ⟨[(0,.rop [.int .i64 a0.kind,.int .i64 a0.num,.str a0.name,.int .i64 a0.typ.kind,.str a0.typ.name,.ro (a0.typ.kids.map TType.ds),.ro (a0.names.map strD),.ro (a0.kids.map Term.ds)] 0),(1,.int .i64 a1),(3,.int .i64 a3),(11,.int .i64 w),(12,.int .i64 y)],[],[]⟩)∧
    (∀a0 a1 a3 w y q r,Fc n a0 a1 a3 w y q=some r→Af Tryz.prog Tryz.f142 [1,1,1,1,0,1,0,0,1,0,0,1] (.int .i64 r) ⟨[(0,.rop [.int .i64 a0.kind,.int .i64 a0.num,.str a0.name,.int .i64 a0.typ.kind,.str a0.typ.name,.ro (a0.typ.kids.map TType.ds),.ro (a0.names.map strD),.ro (a0.kids.map Term.ds)] 0),(1,.int .i64 a1),(3,.int .i64 a3),(11,.int .i64 w),(12,.int .i64 y),(13,.int .i64 q)],[],[]⟩):=by
 induction n with
 |zero=>exact⟨(fun _ _ _ _ _ h=>by rw [FF] at h; cases h),(fun _ _ _ _ _ h=>by rw [DF] at h; cases h),(fun _ _ _ _ _ _ h=>by rw [B7] at h; cases h),(fun _ _ _ _ _ _ _ h=>by rw [Fc] at h; cases h)⟩
 | succ n ih=>
  obtain⟨ih0,ih1,ih2,ih3⟩:=ih
  refine⟨?_,?_,?_,?_⟩
  ·intro a0 a1 a2 a3 r h
   rw [FF] at h
   refine acF Tryz.func142 mixed (h:=Z ?_)
   replace h:=AB h; obtain⟨g,j,h⟩:=h
   refine AH (VT _ _ j) (Z ?_)
   refine AF ?_
   refine AD h (fun h=>Z ?_) (fun h=>Z ?_)
   ·exact AU (ih1 a0 a1 a3 true _ h) [] []
   ·refine AD h (fun h=>Z ?_) (fun h=>Z ?_)
    ·exact AU (ih1 a0 a1 a3 true _ h) [] []
    ·refine AD h (fun h=>Z ?_) (fun h=>Z ?_)
     ·exact AU (ih1 a0 a1 a3 true _ h) [] []
     ·replace h:=AB h; obtain⟨k,b,h⟩:=h
      refine AH (IB _ _ _ _ b) (Z ?_)
      refine AD h (fun h=>Z ?_) (fun h=>Z ?_)
      ·exact AU (ih1 a0 a1 a3 true _ h) [] []
      ·replace h:=AB h; obtain⟨d,c,h⟩:=h
       refine AH (S4 _ _ c) (Z ?_)
       exact AU (ih1 a0 a1 a3 (!d) _ h) [] []
  ·intro a0 a1 a3 u r h
   rw [DF] at h
   refine AL rfl rfl (Z ?_)
   refine AD h (fun h=>Z ?_) (fun h=>Z ?_)
   ·cases h
    simp only [go_sem]
   ·refine AF ?_
    exact loF (ih2 a0 a1 a3 1 0 _ h) [] []
  ·intro a0 a1 a3 w y r h
   rw [B7] at h
   refine AL rfl rfl (Z ?_)
   refine AT (Z ?_)
   refine AD h (fun h=>Z ?_) (fun h=>Z ?_)
   ·refine AF ?_
    refine AW [] .fin (by kernel_rfl) (Z ?_)
    replace h:=AB h; obtain⟨e,i,h⟩:=h
    refine AK i (Term.ds_len _) (Z ?_)
    refine AD h (fun h=>Z ?_) (fun h=>Z ?_)
    ·replace h:=AB h; obtain⟨q,l,h⟩:=h
     refine AH (ih0 _ _ _ _ _ l) (Z ?_)
     exact AU (ih3 a0 a1 a3 w y q _ h) [] []
    ·replace h:=AB h; obtain⟨q,l,h⟩:=h
     refine AH (ih0 _ _ _ _ _ l) (Z ?_)
     exact AU (ih3 a0 a1 a3 w y q _ h) [] []
   ·refine AF ?_
    cases h
    simp only [go_sem]
  ·intro a0 a1 a3 w y q r h
   rw [Fc] at h
   refine AL rfl rfl (Z ?_)
   refine AD h (fun h=>Z ?_) (fun h=>Z ?_)
   ·cases h
    simp only [go_sem]
   ·refine AF ?_
    refine AF ?_
    exact lpF (ih2 a0 a1 a3 (IntKind.i64.wrap (w+q)) (IntKind.i64.wrap (y+1)) _ h) [] []
def Td (n:Nat):=(S5 n).1
theorem YZ (a0 r) (h:O8 a0=some r):AC Tryz.prog 104 [.rop (Term.avs a0) 0] (.bool r):=by
 unfold O8 at h
 refine acF Tryz.func104 mixed (h:=Z ?_)
 replace h:=AB h; obtain⟨u,w,h⟩:=h
 refine AH (Td fuel _ _ _ _ _ w) (Z ?_)
 refine AF ?_
 cases h
 simp only [go_sem]
theorem NP (n:Nat):(∀a0 u r,Bm n a0 u=some r→Af Tryz.prog Tryz.f54 [1,1,0,1,0] (.bool r) ⟨[(0,.rop [.ro (a0.datas.map Data.ds),.ro (a0.defs.map Def.ds)] 0),(3,.int .i64 u)],[],[]⟩)∧
    (∀a0 u w r,C0 n a0 u w=some r→Af Tryz.prog Tryz.f54 [1,1,0,1,0,0,1,0,0,1,1] (.bool r) ⟨[(0,.rop [.ro (a0.datas.map Data.ds),.ro (a0.defs.map Def.ds)] 0),(3,.int .i64 u),(68,.bool w)],[],[]⟩):=by
 induction n with
 |zero=>exact⟨(fun _ _ _ h=>by rw [Bm] at h; cases h),(fun _ _ _ _ h=>by rw [C0] at h; cases h)⟩
 | succ n ih=>
  obtain⟨ih0,ih1⟩:=ih
  refine⟨?_,?_⟩
  ·intro a0 u r h
   rw [Bm] at h
   refine AL rfl rfl (Z ?_)
   refine AT (Z ?_)
   refine AD h (fun h=>Z ?_) (fun h=>Z ?_)
   ·refine AF ?_
    replace h:=AB h; obtain⟨y,q,h⟩:=h
    refine AK q (Def.ds_len _) (Z ?_)
    refine AW [] .fin (by kernel_rfl) (Z ?_)
    replace h:=AB h; obtain⟨g,j,h⟩:=h
    refine AH (Ld _ _ j) (Z ?_)
    refine AD h (fun h=>Z ?_) (fun h=>Z ?_)
    ·exact AU (ih1 a0 u true _ h) [] []
    ·replace h:=AB h; obtain⟨k,b,h⟩:=h
     refine AH (KO _ _ _ b) (Z ?_)
     refine AD h (fun h=>Z ?_) (fun h=>Z ?_)
     ·exact AU (ih1 a0 u true _ h) [] []
     ·replace h:=AB h; obtain⟨d,c,h⟩:=h
      refine AH (Ji _ _ c) (Z ?_)
      refine AD h (fun h=>Z ?_) (fun h=>Z ?_)
      ·exact AU (ih1 a0 u true _ h) [] []
      ·replace h:=AB h; obtain⟨e,i,h⟩:=h
       refine AH (U0 (YZ _ _ i) (.cons (.rop rfl) .nil)) (Z ?_)
       exact AU (ih1 a0 u (!e) _ h) [] []
   ·refine AF ?_
    cases h
    simp only [go_sem]
  ·intro a0 u w r h
   rw [C0] at h
   refine AL rfl rfl (Z ?_)
   refine AD h (fun h=>Z ?_) (fun h=>Z ?_)
   ·cases h
    simp only [go_sem]
   ·refine AF ?_
    exact lpF (ih0 a0 (IntKind.i64.wrap (u+1)) _ h) [] []
def OR (n:Nat):=(NP n).1
theorem Jk (a0:TProgram) (u:Bool) (r:Bool) (h:FU a0 u=some r):Af Tryz.prog Tryz.f54 [1,0,1] (.bool r) ⟨[(0,.rop [.ro (a0.datas.map Data.ds),.ro (a0.defs.map Def.ds)] 0),(19,.bool u)],[],[]⟩:=by
 unfold FU at h
 refine AL rfl rfl (Z ?_)
 refine AD h (fun h=>Z ?_) (fun h=>Z ?_)
 ·cases h
  simp only [go_sem]
 ·refine AF ?_
  exact loF (OR fuel a0 0 _ h) [] []
theorem RC (a0 r) (h:HU a0=some r):AC Tryz.prog 54 [.rop (TProgram.avs a0) 0] (.bool r):=by
 unfold HU at h
 refine acF Tryz.func54 mixed (h:=Z ?_)
 replace h:=AB h; obtain⟨u,w,h⟩:=h
 refine AH (YY _ _ w) (Z ?_)
 refine AD h (fun h=>Z ?_) (fun h=>Z ?_)
 ·exact AU (Jk a0 true _ h) [] []
 ·replace h:=AB h; obtain⟨y,q,h⟩:=h
  refine AH (IB _ _ _ _ q) (Z ?_)
  exact AU (Jk a0 (!y) _ h) [] []
theorem VU (a0 a1 r) (h:NB a0 a1=some r):AC Tryz.prog 105 [.ro (a0.map strD),.ro (a1.map strD)] (.ow (some 1) (r.map strD)):=by
 unfold NB at h
 refine acF Tryz.func105 mixed (h:=Z ?_)
 replace h:=AB h; obtain⟨u,w,h⟩:=h
 have hq_:=Ca w
 obtain⟨hv2002a,hv2002b⟩:=hq_
 refine G9 false (Z ?_)
 refine Bl (HP (by intro x; exact⟨rfl,by simp [go_sem,D.flat]⟩) _) (Z ?_)
 refine Bl (by refine⟨?_,?_⟩ <;> (try simp only [List.length_map,List.length_append,List.length_cons,List.length_nil] at*) <;> (try unfold maxLen) <;> omega) (Z ?_)
 refine Av (u.map strD) (by rw [← hv2002b]; simp only [List.map_append,List.map_cons,List.map_nil,List.nil_append,List.append_nil,go_sem,slD]) (Z ?_)
 replace h:=AB h; obtain⟨y,q,h⟩:=h
 have hq_:=Ca q
 obtain⟨hv2004a,hv2004b⟩:=hq_
 refine G9 false (Z ?_)
 refine Bl (HP (by intro x; exact⟨rfl,by simp [go_sem,D.flat]⟩) _) (Z ?_)
 refine Bl (by refine⟨?_,?_⟩ <;> (try simp only [List.length_map,List.length_append,List.length_cons,List.length_nil] at*) <;> (try unfold maxLen) <;> omega) (Z ?_)
 refine Av (y.map strD) (by rw [← hv2004b]; simp only [List.map_append,List.map_cons,List.map_nil,List.nil_append,List.append_nil,go_sem,slD]) (Z ?_)
 refine AF ?_
 cases h
 simp only [go_sem]
theorem IC (a0:Term) (u:Bool) (r:(List ByteArray)) (h:Fd a0 u=some r):EM Tryz.prog Tryz.f106 [1,0,0,1] (.ro (r.map strD)) [] [] ⟨[(0,.rop [.int .i64 a0.kind,.int .i64 a0.num,.str a0.name,.int .i64 a0.typ.kind,.str a0.typ.name,.ro (a0.typ.kids.map TType.ds),.ro (a0.names.map strD),.ro (a0.kids.map Term.ds)] 0),(5,.bool u)],[],[]⟩:=by
 unfold Fd at h
 refine BI rfl rfl (Z ?_)
 refine AD h (fun h=>Z ?_) (fun h=>Z ?_)
 ·refine AF ?_
  cases h
  refine Aj (.frzB 3004 [(0,[])] [] _ _ _ (by (first|rfl|(simp only [go_sem]; rfl))) (by decide) (by rfl) (by (first|rfl|(simp only [go_sem]; rfl))) (by (first|rfl|(simp only [go_sem]; rfl))) (.done _)) [] [] ?_
  simp only [go_sem]
  all_goals try rfl
 ·refine AD h (fun h=>Z ?_) (fun h=>Z ?_)
  ·cases h
   refine Aj (.done _) [] [] ?_
   simp only [go_sem]
  ·refine AF ?_
   cases h
   refine Aj (.frzN [(0,[])] [] _ _ (by (first|rfl|(simp only [go_sem]; rfl))) (by (first|rfl|(simp only [go_sem]; rfl))) (.done _)) [] [] ?_
   simp only [go_sem]
   all_goals try rfl
theorem Te (a0 a1 r) (h:JY a0 a1=some r):AG Tryz.prog 106 [.rop [.int .i64 a0.kind,.int .i64 a0.num,.str a0.name,.int .i64 a0.typ.kind,.str a0.typ.name,.ro (a0.typ.kids.map TType.ds),.ro (a0.names.map strD),.ro (a0.kids.map Term.ds)] 0,.int .i64 a1] [] [] (.ro (r.map strD)) [] [] :=by
 unfold JY at h
 refine agF Tryz.func106 mixed (h:=Z ?_)
 refine AD h (fun h=>Z ?_) (fun h=>Z ?_)
 ·exact Aq (IC a0 true _ h) [] []
 ·refine AD h (fun h=>Z ?_) (fun h=>Z ?_)
  ·exact Aq (IC a0 (decide (a1=1)) _ h) [] []
  ·exact Aq (IC a0 false _ h) [] []
theorem Tf (n:Nat):(∀a0 a1 a2 r,HE n a0 a1 a2=some r→AG Tryz.prog 55 [.rop [.int .i64 a0.kind,.int .i64 a0.num,.str a0.name,.int .i64 a0.typ.kind,.str a0.typ.name,.ro (a0.typ.kids.map TType.ds),.ro (a0.names.map strD),.ro (a0.kids.map Term.ds)] 0,.ro (a1.map strD),.own 1001] [(1001,⟨List.map strD a2,some 1,0,false⟩)] [] (.own 1501) [(1501,⟨List.map strD r,some 1,0,false⟩)] [])∧
    (∀a0 a1 a2 u r,FG n a0 a1 a2 u=some r→EM Tryz.prog Tryz.f55 [1,0,1] (.own 1501) [(1501,⟨List.map strD r,some 1,0,false⟩)] [] ⟨[(0,.rop [.int .i64 a0.kind,.int .i64 a0.num,.str a0.name,.int .i64 a0.typ.kind,.str a0.typ.name,.ro (a0.typ.kids.map TType.ds),.ro (a0.names.map strD),.ro (a0.kids.map Term.ds)] 0),(1,.ro (a1.map strD)),(2,.own 1000000000),(30,.bool u)],[(1000000000,some ⟨List.map strD a2,some 1,0,false⟩)],[]⟩)∧
    (∀a0 a1 w r,GN n a0 a1 w=some r→EM Tryz.prog Tryz.f55 [1,1] (.own 1501) [(1501,⟨List.map strD r,some 1,0,false⟩)] [] ⟨[(0,.rop [.int .i64 a0.kind,.int .i64 a0.num,.str a0.name,.int .i64 a0.typ.kind,.str a0.typ.name,.ro (a0.typ.kids.map TType.ds),.ro (a0.names.map strD),.ro (a0.kids.map Term.ds)] 0),(1,.ro (a1.map strD)),(2,.own 1000001000)],[(1000001000,some ⟨List.map strD w,some 1,0,false⟩)],[]⟩)∧
    (∀a0 a1 y q r,CT n a0 a1 y q=some r→EM Tryz.prog Tryz.f55 [1,1,0,1,0] (.own 1501) [(1501,⟨List.map strD r,some 1,0,false⟩)] [] ⟨[(0,.rop [.int .i64 a0.kind,.int .i64 a0.num,.str a0.name,.int .i64 a0.typ.kind,.str a0.typ.name,.ro (a0.typ.kids.map TType.ds),.ro (a0.names.map strD),.ro (a0.kids.map Term.ds)] 0),(1,.ro (a1.map strD)),(2,.own 1000003000),(7,.int .i64 q)],[(1000003000,some ⟨List.map strD y,some 1,0,false⟩)],[]⟩):=by
 induction n with
 |zero=>exact⟨(fun _ _ _ _ h=>by rw [HE] at h; cases h),(fun _ _ _ _ _ h=>by rw [FG] at h; cases h),(fun _ _ _ _ h=>by rw [GN] at h; cases h),(fun _ _ _ _ _ h=>by rw [CT] at h; cases h)⟩
 | succ n ih=>
  obtain⟨ih0,ih1,ih2,ih3⟩:=ih
  refine⟨?_,?_,?_,?_⟩
  ·intro a0 a1 a2 r h
   rw [HE] at h
   refine agF Tryz.func55 mixed (h:=Z ?_)
   refine AD h (fun h=>Z ?_) (fun h=>Z ?_)
   ·replace h:=AB h; obtain⟨g,j,h⟩:=h
    refine AH (Jj _ _ _ j) (Z ?_)
    refine AD h (fun h=>Z ?_) (fun h=>Z ?_)
    ·replace h:=AB h; obtain⟨k,b,h⟩:=h
     refine AH (Jj _ _ _ b) (Z ?_)
     exact Aq (ih1 a0 a1 a2 (decide (k<0)) _ h) [(1000000000,1001)] []
    ·exact Aq (ih1 a0 a1 a2 false _ h) [(1000000000,1001)] []
   ·exact Aq (ih1 a0 a1 a2 false _ h) [(1000000000,1001)] []
  ·intro a0 a1 a2 u r h
   rw [FG] at h
   refine BI rfl rfl (Z ?_)
   refine AD h (fun h=>Z ?_) (fun h=>Z ?_)
   ·replace h:=AB h; obtain⟨d,c,h⟩:=h
    have hq_:=Ca c
    obtain⟨hv3006a,hv3006b⟩:=hq_
    refine G9 false (Z ?_)
    refine Bl (by refine⟨?_,?_⟩ <;> (try simp only [List.length_map,List.length_append,List.length_cons,List.length_nil] at*) <;> (try unfold maxLen) <;> omega) (Z ?_)
    refine Av (d.map strD) (by rw [← hv3006b]; simp only [List.map_append,List.map_cons,List.map_nil,List.nil_append,List.append_nil,go_sem,slD]) (Z ?_)
    exact Aq (ih2 a0 a1 d _ h) [(1000001000,48096)] []
   ·exact Aq (ih2 a0 a1 a2 _ h) [(1000001000,1000000000)] []
  ·intro a0 a1 w r h
   rw [GN] at h
   refine BI rfl rfl (Z ?_)
   exact loG (ih3 a0 a1 w 0 _ h) [(1000003000,1000001000)] []
  ·intro a0 a1 y q r h
   rw [CT] at h
   refine BI rfl rfl (Z ?_)
   refine AT (Z ?_)
   refine AD h (fun h=>Z ?_) (fun h=>Z ?_)
   ·refine AF ?_
    refine AW [false,false,false,false,false,false,false,false,false,false,false,false,true,true] (Tr.sq [12,13] .fin) (by kernel_rfl) (Z ?_)
    replace h:=AB h; obtain⟨e,i,h⟩:=h
    refine AK i (Term.ds_len _) (Z ?_)
    replace h:=AB h; obtain⟨l,t,h⟩:=h
    refine Ak (Te _ _ _ t) (by (first|rfl|(simp only [go_sem]; rfl))) (by first|rfl|(simp only [go_sem])) (Z ?_)
    replace h:=AB h; obtain⟨s,o,h⟩:=h
    refine AH (VU _ _ _ o) (Z ?_)
    replace h:=AB h; obtain⟨z,u1,h⟩:=h
    refine caG ⟨[],[(1001,1000003000)],[],[(1501,112192)],[],false⟩ (ih0 _ _ _ _ u1) (Z ?_)
    refine AF ?_
    exact lpG (ih3 a0 a1 z (IntKind.i64.wrap (q+1)) _ h) [(1000003000,112192)] []
   ·refine AF ?_
    cases h
    refine Aj (.done _) [(1501,1000003000)] [] ?_
    simp only [go_sem]
def VV (n:Nat):=(Tf n).1
theorem K5 (n:Nat):(∀a0 a1 u r,BA n a0 a1 u=some r→Af Tryz.prog Tryz.f67 [1,0,1,0] (.tup [.int .i64 r.1,.int .i64 r.2]) ⟨[(0,.ro (a0.map Data.ds)),(1,.str a1),(6,.int .i64 u)],[],[]⟩)∧
    (∀a0 a1 u w r,BH n a0 a1 u w=some r→Af Tryz.prog Tryz.f67 [1,0,1,0,0,1,0,0,1,0] (.tup [.int .i64 r.1,.int .i64 r.2]) ⟨[(0,.ro (a0.map Data.ds)),(1,.str a1),(6,.int .i64 u),(7,.int .i64 w)],[],[]⟩):=by
 induction n with
 |zero=>exact⟨(fun _ _ _ _ h=>by rw [BA] at h; cases h),(fun _ _ _ _ _ h=>by rw [BH] at h; cases h)⟩
 | succ n ih=>
  obtain⟨ih0,ih1⟩:=ih
  refine⟨?_,?_⟩
  ·intro a0 a1 u r h
   rw [BA] at h
   refine AL rfl rfl (Z ?_)
   refine AT (Z ?_)
   refine AD h (fun h=>Z ?_) (fun h=>Z ?_)
   ·refine AF ?_
    exact loF (ih1 a0 a1 u 0 _ h) [] []
   ·refine AF ?_
    cases h
    simp only [go_sem]
  ·intro a0 a1 u w r h
   rw [BH] at h
   refine AL rfl rfl (Z ?_)
   refine AT (Z ?_)
   replace h:=AB h; obtain⟨y,q,h⟩:=h
   refine AK q (Data.ds_len _) (Z ?_)
   refine AD h (fun h=>Z ?_) (fun h=>Z ?_)
   ·refine AF ?_
    replace h:=AB h; obtain⟨g,j,h⟩:=h
    refine AK j (Data.ds_len _) (Z ?_)
    replace h:=AB h; obtain⟨k,b,h⟩:=h
    refine AK b (Constructor.ds_len _) (Z ?_)
    refine AD h (fun h=>Z ?_) (fun h=>Z ?_)
    ·cases h
     simp only [go_sem]
    ·refine AF ?_
     exact lpF (ih1 a0 a1 u (IntKind.i64.wrap (w+1)) _ h) [] []
   ·refine AF ?_
    exact lpF (ih0 a0 a1 (IntKind.i64.wrap (u+1)) _ h) [] []
def Lf (n:Nat):=(K5 n).1
theorem Cz (a0 a1 r) (h:Bn a0 a1=some r):AC Tryz.prog 67 [.ro (a0.map Data.ds),.str a1] (.tup [.int .i64 r.1,.int .i64 r.2]):=by
 unfold Bn at h
 refine acF Tryz.func67 mixed (h:=Z ?_)
 exact loF (Lf fuel a0 a1 0 _ h) [] []
theorem PQ (n:Nat):(∀a0 a1 r,Dp n a0 a1=some r→AC Tryz.prog 58 [.ro (a0.map Data.ds),.rop (Term.avs a1) 0] (.bool r))∧
    (∀a0 a1 u r,Dw n a0 a1 u=some r→Af Tryz.prog Tryz.f58 [1,0,1] (.bool r) ⟨[(0,.ro (a0.map Data.ds)),(1,.rop [.int .i64 a1.kind,.int .i64 a1.num,.str a1.name,.int .i64 a1.typ.kind,.str a1.typ.name,.ro (a1.typ.kids.map TType.ds),.ro (a1.names.map strD),.ro (a1.kids.map Term.ds)] 0),(21,.bool u)],[],[]⟩)∧
    (∀a0 a1 w r,Dx n a0 a1 w=some r→Af Tryz.prog Tryz.f58 [1,1,0,1] (.bool r) ⟨[(0,.ro (a0.map Data.ds)),(1,.rop [.int .i64 a1.kind,.int .i64 a1.num,.str a1.name,.int .i64 a1.typ.kind,.str a1.typ.name,.ro (a1.typ.kids.map TType.ds),.ro (a1.names.map strD),.ro (a1.kids.map Term.ds)] 0),(33,.bool w)],[],[]⟩)∧
    (∀a0 a1 r,Dy n a0 a1=some r→Af Tryz.prog Tryz.f58 [1,1,1] (.bool r) ⟨[(0,.ro (a0.map Data.ds)),(1,.rop [.int .i64 a1.kind,.int .i64 a1.num,.str a1.name,.int .i64 a1.typ.kind,.str a1.typ.name,.ro (a1.typ.kids.map TType.ds),.ro (a1.names.map strD),.ro (a1.kids.map Term.ds)] 0)],[],[]⟩)∧
    (∀a0 a1 y r,Bo n a0 a1 y=some r→Af Tryz.prog Tryz.f58 [1,1,1,0,1,0] (.bool r) ⟨[(0,.ro (a0.map Data.ds)),(1,.rop [.int .i64 a1.kind,.int .i64 a1.num,.str a1.name,.int .i64 a1.typ.kind,.str a1.typ.name,.ro (a1.typ.kids.map TType.ds),.ro (a1.names.map strD),.ro (a1.kids.map Term.ds)] 0),(7,.int .i64 y)],[],[]⟩):=by
 induction n with
 |zero=>exact⟨(fun _ _ _ h=>by rw [Dp] at h; cases h),(fun _ _ _ _ h=>by rw [Dw] at h; cases h),(fun _ _ _ _ h=>by rw [Dx] at h; cases h),(fun _ _ _ h=>by rw [Dy] at h; cases h),(fun _ _ _ _ h=>by rw [Bo] at h; cases h)⟩
 | succ n ih=>
  obtain⟨ih0,ih1,ih2,ih3,ih4⟩:=ih
  refine⟨?_,?_,?_,?_,?_⟩
  ·intro a0 a1 r h
   rw [Dp] at h
   refine acF Tryz.func58 mixed (h:=Z ?_)
   refine AD h (fun h=>Z ?_) (fun h=>Z ?_)
   ·replace h:=AB h; obtain⟨q,g,h⟩:=h
    refine AH (KP fuel _ _ _ g) (Z ?_)
    exact AU (ih1 a0 a1 (!q) _ h) [] []
   ·exact AU (ih1 a0 a1 false _ h) [] []
  ·intro a0 a1 u r h
   rw [Dw] at h
   refine AL rfl rfl (Z ?_)
   refine AD h (fun h=>Z ?_) (fun h=>Z ?_)
   ·cases h
    simp only [go_sem]
   ·refine AF ?_
    refine AD h (fun h=>Z ?_) (fun h=>Z ?_)
    ·exact AU (ih2 a0 a1 true _ h) [] []
    ·exact AU (ih2 a0 a1 (decide (a1.kind=10)) _ h) [] []
  ·intro a0 a1 w r h
   rw [Dx] at h
   refine AL rfl rfl (Z ?_)
   refine AD h (fun h=>Z ?_) (fun h=>Z ?_)
   ·replace h:=AB h; obtain⟨j,k,h⟩:=h
    refine AH (Cz _ _ _ k) (Z ?_)
    refine AF ?_
    refine AD h (fun h=>Z ?_) (fun h=>Z ?_)
    ·cases h
     simp only [go_sem]
    ·exact AU (ih3 a0 a1 _ h) [] []
   ·exact AU (ih3 a0 a1 _ h) [] []
  ·intro a0 a1 r h
   rw [Dy] at h
   refine AL rfl rfl (Z ?_)
   exact loF (ih4 a0 a1 0 _ h) [] []
  ·intro a0 a1 y r h
   rw [Bo] at h
   refine AL rfl rfl (Z ?_)
   refine AT (Z ?_)
   refine AD h (fun h=>Z ?_) (fun h=>Z ?_)
   ·refine AF ?_
    replace h:=AB h; obtain⟨b,d,h⟩:=h
    refine AK d (Term.ds_len _) (Z ?_)
    replace h:=AB h; obtain⟨c,e,h⟩:=h
    refine AH (ih0 _ _ _ e) (Z ?_)
    refine AF ?_
    refine AD h (fun h=>Z ?_) (fun h=>Z ?_)
    ·cases h
     simp only [go_sem]
    ·refine AF ?_
     exact lpF (ih4 a0 a1 (IntKind.i64.wrap (y+1)) _ h) [] []
   ·refine AF ?_
    cases h
    simp only [go_sem]
def QR (n:Nat):=(PQ n).1
theorem Mo (n:Nat):(∀a1 u w r,Bp n a1 u w=some r→Af Tryz.prog Tryz.f108 [1,1,1,1,0,1,0] (.bool r) ⟨[(1,.rop [.int .i64 a1.kind,.int .i64 a1.num,.str a1.name,.int .i64 a1.typ.kind,.str a1.typ.name,.ro (a1.typ.kids.map TType.ds),.ro (a1.names.map strD),.ro (a1.kids.map Term.ds)] 0),(7,.ro (u.cons.map Constructor.ds)),(8,.int .i64 w)],[],[]⟩)∧
    (∀a1 w u y r,Dz n a1 w u y=some r→Af Tryz.prog Tryz.f108 [1,1,1,1,0,1,0,0,1,0,0,1] (.bool r) ⟨[(1,.rop [.int .i64 a1.kind,.int .i64 a1.num,.str a1.name,.int .i64 a1.typ.kind,.str a1.typ.name,.ro (a1.typ.kids.map TType.ds),.ro (a1.names.map strD),.ro (a1.kids.map Term.ds)] 0),(7,.ro (u.cons.map Constructor.ds)),(8,.int .i64 w),(74,.bool y)],[],[]⟩):=by
 induction n with
 |zero=>exact⟨(fun _ _ _ _ h=>by rw [Bp] at h; cases h),(fun _ _ _ _ _ h=>by rw [Dz] at h; cases h)⟩
 | succ n ih=>
  obtain⟨ih0,ih1⟩:=ih
  refine⟨?_,?_⟩
  ·intro a1 u w r h
   rw [Bp] at h
   refine AL rfl rfl (Z ?_)
   refine AT (Z ?_)
   refine AD h (fun h=>Z ?_) (fun h=>Z ?_)
   ·refine AF ?_
    refine AW [] .fin (by kernel_rfl) (Z ?_)
    replace h:=AB h; obtain⟨q,g,h⟩:=h
    refine AK g (Term.ds_len _) (Z ?_)
    replace h:=AB h; obtain⟨j,k,h⟩:=h
    refine AK k (Constructor.ds_len _) (Z ?_)
    refine AD h (fun h=>Z ?_) (fun h=>Z ?_)
    ·exact AU (ih1 a1 w u true _ h) [] []
    ·replace h:=AB h; obtain⟨b,d,h⟩:=h
     refine AK d (Term.ds_len _) (Z ?_)
     replace h:=AB h; obtain⟨c,e,h⟩:=h
     refine AK e (Constructor.ds_len _) (Z ?_)
     exact AU (ih1 a1 w u (!decide ((b.names.length:Int)=(c.fields.length:Int))) _ h) [] []
   ·refine AF ?_
    cases h
    simp only [go_sem]
  ·intro a1 w u y r h
   rw [Dz] at h
   refine AL rfl rfl (Z ?_)
   refine AD h (fun h=>Z ?_) (fun h=>Z ?_)
   ·cases h
    simp only [go_sem]
   ·refine AF ?_
    exact lpF (ih0 a1 u (IntKind.i64.wrap (w+1)) _ h) [] []
def NQ (n:Nat):=(Mo n).1
theorem QS (a0 a1 r) (h:Gc a0 a1=some r):AC Tryz.prog 108 [.ro (a0.map Data.ds),.rop (Term.avs a1) 0] (.bool r):=by
 unfold Gc at h
 refine acF Tryz.func108 mixed (h:=Z ?_)
 replace h:=AB h; obtain⟨u,w,h⟩:=h
 refine AK w (Term.ds_len _) (Z ?_)
 replace h:=AB h; obtain⟨y,q,h⟩:=h
 refine AH (Cz _ _ _ q) (Z ?_)
 refine AF ?_
 replace h:=AB h; obtain⟨g,j,h⟩:=h
 refine AK j (Data.ds_len _) (Z ?_)
 refine AD h (fun h=>Z ?_) (fun h=>Z ?_)
 ·cases h
  simp only [go_sem]
 ·refine AF ?_
  exact loF (NQ fuel a1 g 0 _ h) [] []
theorem OS (n:Nat):(∀a0 a1 r,DM n a0 a1=some r→AC Tryz.prog 59 [.ro (a0.map Data.ds),.rop (Term.avs a1) 0] (.bool r))∧
    (∀a0 a1 r,Cn n a0 a1=some r→Af Tryz.prog Tryz.f59 [1,1] (.bool r) ⟨[(0,.ro (a0.map Data.ds)),(1,.rop [.int .i64 a1.kind,.int .i64 a1.num,.str a1.name,.int .i64 a1.typ.kind,.str a1.typ.name,.ro (a1.typ.kids.map TType.ds),.ro (a1.names.map strD),.ro (a1.kids.map Term.ds)] 0)],[],[]⟩)∧
    (∀a0 a1 u r,BY n a0 a1 u=some r→Af Tryz.prog Tryz.f59 [1,1,0,1,0] (.bool r) ⟨[(0,.ro (a0.map Data.ds)),(1,.rop [.int .i64 a1.kind,.int .i64 a1.num,.str a1.name,.int .i64 a1.typ.kind,.str a1.typ.name,.ro (a1.typ.kids.map TType.ds),.ro (a1.names.map strD),.ro (a1.kids.map Term.ds)] 0),(7,.int .i64 u)],[],[]⟩):=by
 induction n with
 |zero=>exact⟨(fun _ _ _ h=>by rw [DM] at h; cases h),(fun _ _ _ h=>by rw [Cn] at h; cases h),(fun _ _ _ _ h=>by rw [BY] at h; cases h)⟩
 | succ n ih=>
  obtain⟨ih0,ih1,ih2⟩:=ih
  refine⟨?_,?_,?_⟩
  ·intro a0 a1 r h
   rw [DM] at h
   refine acF Tryz.func59 mixed (h:=Z ?_)
   refine AD h (fun h=>Z ?_) (fun h=>Z ?_)
   ·replace h:=AB h; obtain⟨w,y,h⟩:=h
    refine AH (Cz _ _ _ y) (Z ?_)
    refine AF ?_
    refine AW [] .fin (by kernel_rfl) (Z ?_)
    replace h:=AB h; obtain⟨q,g,h⟩:=h
    refine AK g (Data.ds_len _) (Z ?_)
    replace h:=AB h; obtain⟨j,k,h⟩:=h
    refine AK k (Constructor.ds_len _) (Z ?_)
    refine AF ?_
    refine AD h (fun h=>Z ?_) (fun h=>Z ?_)
    ·cases h
     simp only [go_sem]
    ·exact AU (ih1 a0 a1 _ h) [] []
   ·refine AD h (fun h=>Z ?_) (fun h=>Z ?_)
    ·replace h:=AB h; obtain⟨b,d,h⟩:=h
     refine AH (QS _ _ _ d) (Z ?_)
     refine AF ?_
     refine AD h (fun h=>Z ?_) (fun h=>Z ?_)
     ·cases h
      simp only [go_sem]
     ·exact AU (ih1 a0 a1 _ h) [] []
    ·exact AU (ih1 a0 a1 _ h) [] []
  ·intro a0 a1 r h
   rw [Cn] at h
   refine AL rfl rfl (Z ?_)
   exact loF (ih2 a0 a1 0 _ h) [] []
  ·intro a0 a1 u r h
   rw [BY] at h
   refine AL rfl rfl (Z ?_)
   refine AT (Z ?_)
   refine AD h (fun h=>Z ?_) (fun h=>Z ?_)
   ·refine AF ?_
    replace h:=AB h; obtain⟨c,e,h⟩:=h
    refine AK e (Term.ds_len _) (Z ?_)
    replace h:=AB h; obtain⟨i,l,h⟩:=h
    refine AH (ih0 _ _ _ l) (Z ?_)
    refine AF ?_
    refine AD h (fun h=>Z ?_) (fun h=>Z ?_)
    ·cases h
     simp only [go_sem]
    ·refine AF ?_
     exact lpF (ih2 a0 a1 (IntKind.i64.wrap (u+1)) _ h) [] []
   ·refine AF ?_
    cases h
    simp only [go_sem]
def PR (n:Nat):=(OS n).1
theorem PS (n:Nat):(∀a0 u r,By n a0 u=some r→Af Tryz.prog Tryz.f29 [1,1,1,0,1,0] (.int .i64 r) ⟨[(0,.rop [.ro (a0.datas.map Data.ds),.ro (a0.defs.map Def.ds)] 0),(7,.int .i64 u)],[],[]⟩):=by
 induction n with
 |zero=>exact((fun _ _ _ h=>by rw [By] at h; cases h))
 | succ n ih=>
  have ih0:=ih
  ·intro a0 u r h
   rw [By] at h
   refine AL rfl rfl (Z ?_)
   refine AT (Z ?_)
   refine AD h (fun h=>Z ?_) (fun h=>Z ?_)
   ·refine AF ?_
    refine AW [] .fin (by kernel_rfl) (Z ?_)
    replace h:=AB h; obtain⟨w,y,h⟩:=h
    refine AK y (Def.ds_len _) (Z ?_)
    replace h:=AB h; obtain⟨q,g,h⟩:=h
    refine AH (U0 (PR fuel _ _ _ g) (.cons (.refl _) (.cons (.rop rfl) .nil))) (Z ?_)
    refine AF ?_
    refine AD h (fun h=>Z ?_) (fun h=>Z ?_)
    ·cases h
     simp only [go_sem]
    ·refine AF ?_
     exact lpF (ih0 a0 (IntKind.i64.wrap (u+1)) _ h) [] []
   ·refine AF ?_
    cases h
    simp only [go_sem]
theorem OT (n:Nat):(∀a0 u r,Bz n a0 u=some r→Af Tryz.prog Tryz.f29 [1,1,0,1,0] (.int .i64 r) ⟨[(0,.rop [.ro (a0.datas.map Data.ds),.ro (a0.defs.map Def.ds)] 0),(3,.int .i64 u)],[],[]⟩)∧
    (∀a0 u w y q r,B0 n a0 u w y q=some r→Af Tryz.prog Tryz.f29 [1,1,0,1,0,0,1,0,0,1,1,0,1,0] (.int .i64 r) ⟨[(0,.rop [.ro (a0.datas.map Data.ds),.ro (a0.defs.map Def.ds)] 0),(3,.int .i64 u),(4,.rop [.str w.name,.int .i64 w.typ.kind,.str w.typ.name,.ro (w.typ.kids.map TType.ds),.int .i64 w.body.kind,.int .i64 w.body.num,.str w.body.name,.int .i64 w.body.typ.kind,.str w.body.typ.name,.ro (w.body.typ.kids.map TType.ds),.ro (w.body.names.map strD),.ro (w.body.kids.map Term.ds)] 0),(5,.own 1000009000),(6,.int .i64 q)],[(1000009000,some ⟨List.map strD y,some 1,0,false⟩)],[]⟩)∧
    (∀a0 u g r,Er n a0 u g=some r→Af Tryz.prog Tryz.f29 [1,1,0,1,0,0,1,0,0,1,1,1,1] (.int .i64 r) ⟨[(0,.rop [.ro (a0.datas.map Data.ds),.ro (a0.defs.map Def.ds)] 0),(3,.int .i64 u),(66,.bool g)],[],[]⟩):=by
 induction n with
 |zero=>exact⟨(fun _ _ _ h=>by rw [Bz] at h; cases h),(fun _ _ _ _ _ _ h=>by rw [B0] at h; cases h),(fun _ _ _ _ h=>by rw [Er] at h; cases h)⟩
 | succ n ih=>
  obtain⟨ih0,ih1,ih2⟩:=ih
  refine⟨?_,?_,?_⟩
  ·intro a0 u r h
   rw [Bz] at h
   refine AL rfl rfl (Z ?_)
   refine AT (Z ?_)
   refine AD h (fun h=>Z ?_) (fun h=>Z ?_)
   ·refine AF ?_
    replace h:=AB h; obtain⟨w,j,h⟩:=h
    refine AK j (Def.ds_len _) (Z ?_)
    replace h:=AB h; obtain⟨y,k,h⟩:=h
    refine caG ⟨[(3000128048,.nils,some 1)],[(1001,3000128048)],[],[(1501,128048)],[],true⟩ (VV fuel _ _ _ _ k) (Z ?_)
    refine AF ?_
    exact loF (ih1 a0 u w y 0 _ h) [(1000009000,128048)] []
   ·refine AF ?_
    exact loF (PS fuel a0 0 _ h) [] []
  ·intro a0 u w y q r h
   rw [B0] at h
   refine AL rfl rfl (Z ?_)
   refine AT (Z ?_)
   refine AD h (fun h=>Z ?_) (fun h=>Z ?_)
   ·refine AF ?_
    refine AW [] .fin (by kernel_rfl) (Z ?_)
    replace h:=AB h; obtain⟨b,d,h⟩:=h
    refine AK d rfl (Z ?_)
    refine Ai (AX d) (Z ?_)
    replace h:=AB h; obtain⟨c,e,h⟩:=h
    refine AH (KO _ _ _ e) (Z ?_)
    refine AF ?_
    refine AD h (fun h=>Z ?_) (fun h=>Z ?_)
    ·cases h
     simp only [go_sem]
    ·refine AF ?_
     exact lpF (ih1 a0 u w y (IntKind.i64.wrap (q+1)) _ h) [(1000009000,1000009000)] []
   ·refine AF ?_
    refine AW [] .fin (by kernel_rfl) (Z ?_)
    replace h:=AB h; obtain⟨i,l,h⟩:=h
    refine AH (KP fuel _ _ _ l) (Z ?_)
    refine AD h (fun h=>Z ?_) (fun h=>Z ?_)
    ·exact AU (ih2 a0 u true _ h) [] []
    ·replace h:=AB h; obtain⟨t,s,h⟩:=h
     refine AH (U0 (QR fuel _ _ _ s) (.cons (.refl _) (.cons (.rop rfl) .nil))) (Z ?_)
     exact AU (ih2 a0 u (!t) _ h) [] []
  ·intro a0 u g r h
   rw [Er] at h
   refine AL rfl rfl (Z ?_)
   refine AD h (fun h=>Z ?_) (fun h=>Z ?_)
   ·cases h
    simp only [go_sem]
   ·refine AF ?_
    exact lpF (ih0 a0 (IntKind.i64.wrap (u+1)) _ h) [] []
def PT (n:Nat):=(OT n).1
theorem Nm (a0 r) (h:H2 a0=some r):AC Tryz.prog 29 [.rop (TProgram.avs a0) 0] (.int .i64 r):=by
 unfold H2 at h
 refine acF Tryz.func29 mixed (h:=Z ?_)
 replace h:=AB h; obtain⟨u,w,h⟩:=h
 refine AH (RC _ _ w) (Z ?_)
 refine AF ?_
 refine AD h (fun h=>Z ?_) (fun h=>Z ?_)
 ·cases h
  simp only [go_sem]
 ·refine AF ?_
  exact loF (PT fuel a0 0 _ h) [] []
theorem PU (a0 r) (h:Kn a0=some r):AC Tryz.prog 168 [.int .u8 a0] (.bool r):=by
 unfold Kn at h
 refine acF Tryz.func168 mixed (h:=Z ?_)
 refine AD h (fun h=>Z ?_) (fun h=>Z ?_)
 ·refine AF ?_
  cases h
  simp only [go_sem]
 ·refine AF ?_
  cases h
  simp only [go_sem]
theorem L0 (n:Nat):(∀a0 a1 u r,B1 n a0 a1 u=some r→Af Tryz.prog Tryz.f184 [1,0,1,0] (.int .i64 r) ⟨[(0,.ro (a0.map strD)),(1,.str a1),(7,.int .i64 (a0.length:Int)),(8,.int .i64 u)],[],[]⟩):=by
 induction n with
 |zero=>exact((fun _ _ _ _ h=>by rw [B1] at h; cases h))
 | succ n ih=>
  have ih0:=ih
  ·intro a0 a1 u r h
   rw [B1] at h
   refine AL rfl rfl (Z ?_)
   refine AT (Z ?_)
   refine AD h (fun h=>Z ?_) (fun h=>Z ?_)
   ·refine AF ?_
    replace h:=AB h; obtain⟨w,y,h⟩:=h
    refine AK y rfl (Z ?_)
    refine AD h (fun h=>Z ?_) (fun h=>Z ?_)
    ·cases h
     simp only [go_sem]
    ·refine AF ?_
     exact lpF (ih0 a0 a1 (IntKind.i64.wrap (u+1)) _ h) [] []
   ·refine AF ?_
    cases h
    simp only [go_sem]
theorem OU (a0 a1 r) (h:FV a0 a1=some r):AC Tryz.prog 184 [.ro (a0.map strD),.str a1] (.int .i64 r):=by
 unfold FV at h
 refine acF Tryz.func184 mixed (h:=Z ?_)
 exact loF (L0 fuel a0 a1 0 _ h) [] []
theorem EA (a0 a1 r) (h:Bh a0 a1=some r):AC Tryz.prog 173 [.ro (a0.map strD),.str a1] (.bool r):=by
 unfold Bh at h
 refine acF Tryz.func173 mixed (h:=Z ?_)
 replace h:=AB h; obtain⟨u,w,h⟩:=h
 refine AH (OU _ _ _ w) (Z ?_)
 refine AF ?_
 cases h
 simp only [go_sem]
theorem S6 (a0 r) (h:IU a0=some r):AC Tryz.prog 169 [.str a0] (.bool r):=by
 unfold IU at h
 refine acF Tryz.func169 mixed (h:=Z ?_)
 replace h:=AB h; obtain⟨u,w,h⟩:=h
 refine AH (EA _ _ _ w) (Z ?_)
 refine AF ?_
 cases h
 simp only [go_sem]
theorem PV (a0 r) (h:JF a0=some r):AC Tryz.prog 147 [.int .u8 a0] (.bool r):=by
 unfold JF at h
 refine acF Tryz.func147 mixed (h:=Z ?_)
 refine AD h (fun h=>Z ?_) (fun h=>Z ?_)
 ·refine AF ?_
  cases h
  simp only [go_sem]
 ·refine AF ?_
  cases h
  simp only [go_sem]
theorem Mp (a0 r) (h:HF a0=some r):AC Tryz.prog 164 [.int .u8 a0] (.bool r):=by
 unfold HF at h
 refine acF Tryz.func164 mixed (h:=Z ?_)
 refine AD h (fun h=>Z ?_) (fun h=>Z ?_)
 ·refine AF ?_
  cases h
  simp only [go_sem]
 ·refine AF ?_
  cases h
  simp only [go_sem]
theorem RD (a0 r) (h:HV a0=some r):AC Tryz.prog 170 [.int .u8 a0] (.bool r):=by
 unfold HV at h
 refine acF Tryz.func170 mixed (h:=Z ?_)
 replace h:=AB h; obtain⟨u,w,h⟩:=h
 refine AH (PV _ _ w) (Z ?_)
 refine AD h (fun h=>Z ?_) (fun h=>Z ?_)
 ·refine AF ?_
  cases h
  simp only [go_sem]
 ·replace h:=AB h; obtain⟨y,q,h⟩:=h
  refine AH (Mp _ _ q) (Z ?_)
  refine AD h (fun h=>Z ?_) (fun h=>Z ?_)
  ·refine AF ?_
   cases h
   simp only [go_sem]
  ·replace h:=AB h; obtain⟨g,j,h⟩:=h
   refine AH (PU _ _ j) (Z ?_)
   refine AF ?_
   cases h
   simp only [go_sem]
theorem S7 (n:Nat):(∀a0 u r,E5 n a0 u=some r→Af Tryz.prog Tryz.f146 [1,1,0,1,0] (.bool r) ⟨[(0,.str a0),(22,.int .i64 (a0.size:Int)),(23,.int .i64 u)],[],[]⟩):=by
 induction n with
 |zero=>exact((fun _ _ _ h=>by rw [E5] at h; cases h))
 | succ n ih=>
  have ih0:=ih
  ·intro a0 u r h
   rw [E5] at h
   refine AL rfl rfl (Z ?_)
   refine AT (Z ?_)
   refine AD h (fun h=>Z ?_) (fun h=>Z ?_)
   ·refine AF ?_
    replace h:=AB h; obtain⟨w,y,h⟩:=h
    refine Ai y (Z ?_)
    replace h:=AB h; obtain⟨q,g,h⟩:=h
    refine AH (RD _ _ g) (Z ?_)
    refine AF ?_
    refine AD h (fun h=>Z ?_) (fun h=>Z ?_)
    ·cases h
     simp only [go_sem]
    ·refine AF ?_
     exact lpF (ih0 a0 (IntKind.i64.wrap (u+1)) _ h) [] []
   ·refine AF ?_
    cases h
    simp only [go_sem]
theorem Hl (a0:ByteArray) (u:Bool) (r:Bool) (h:Fz a0 u=some r):Af Tryz.prog Tryz.f146 [1,0,1] (.bool r) ⟨[(0,.str a0),(20,.bool u)],[],[]⟩:=by
 unfold Fz at h
 refine AL rfl rfl (Z ?_)
 refine AD h (fun h=>Z ?_) (fun h=>Z ?_)
 ·cases h
  simp only [go_sem]
 ·refine AF ?_
  exact loF (S7 fuel a0 0 _ h) [] []
theorem Qz (a0 r) (h:Ko a0=some r):AC Tryz.prog 146 [.str a0] (.bool r):=by
 unfold Ko at h
 refine acF Tryz.func146 mixed (h:=Z ?_)
 refine AD h (fun h=>Z ?_) (fun h=>Z ?_)
 ·exact AU (Hl a0 true _ h) [] []
 ·refine AD h (fun h=>Z ?_) (fun h=>Z ?_)
  ·exact AU (Hl a0 true _ h) [] []
  ·replace h:=AB h; obtain⟨u,w,h⟩:=h
   refine Ai w (Z ?_)
   replace h:=AB h; obtain⟨y,q,h⟩:=h
   refine AH (PU _ _ q) (Z ?_)
   refine AD h (fun h=>Z ?_) (fun h=>Z ?_)
   ·exact AU (Hl a0 true _ h) [] []
   ·replace h:=AB h; obtain⟨g,j,h⟩:=h
    refine AH (S6 _ _ j) (Z ?_)
    exact AU (Hl a0 g _ h) [] []
theorem I6 (a0 r) (h:HG a0=some r):AC Tryz.prog 143 [.str a0] (.bool r):=by
 unfold HG at h
 refine acF Tryz.func143 mixed (h:=Z ?_)
 replace h:=AB h; obtain⟨u,w,h⟩:=h
 refine AH (Qz _ _ w) (Z ?_)
 refine AD h (fun h=>Z ?_) (fun h=>Z ?_)
 ·replace h:=AB h; obtain⟨y,q,h⟩:=h
  refine Ai q (Z ?_)
  replace h:=AB h; obtain⟨g,j,h⟩:=h
  refine AH (Mp _ _ j) (Z ?_)
  refine AF ?_
  cases h
  simp only [go_sem]
 ·refine AF ?_
  cases h
  simp only [go_sem]
theorem Io (n:Nat):(∀ (a0:List Data) (u:Int) (f1:(Data→Option Bool)) (g1:FuncId) (c1:List AV) (s1:Still c1) (h1:∀ (y0:Data) (q:Bool),f1 y0=some q→AC Tryz.prog g1 (fnA c1 [.agg (Data.avs y0)]) (.bool q)) (r:Int),A5 n a0 u f1=some r→Af Tryz.prog Tryz.f165 [1,0,1,0] (.int .i64 r) ⟨[(0,.ro (a0.map Data.ds)),(1,.fn g1 c1),(7,.int .i64 (a0.length:Int)),(8,.int .i64 u)],[],[]⟩):=by
 induction n with
 |zero=>exact((fun _ _ _ _ _ _ _ _ h=>by rw [A5] at h; cases h))
 | succ n ih=>
  have ih0:=ih
  ·intro a0 u f1 g1 c1 s1 h1 r h
   rw [A5] at h
   refine AL rfl rfl ?_
   try simp only [go_sem,s1.k,s1.r,s1.c,s1.p,s1.o,s1.f]
   refine AT ?_
   try simp only [go_sem,s1.k,s1.r,s1.c,s1.p,s1.o,s1.f]
   refine AD h (fun h=>?_) (fun h=>?_)
   ·try simp only [go_sem,s1.k,s1.r,s1.c,s1.p,s1.o,s1.f]
    refine BF ?_
    try simp only [go_sem,s1.k,s1.r,s1.c,s1.p,s1.o,s1.f]
    replace h:=AB h; obtain⟨w,y,h⟩:=h
    refine AK y (Data.ds_len _) ?_
    try simp only [go_sem,s1.k,s1.r,s1.c,s1.p,s1.o,s1.f]
    replace h:=AB h; obtain⟨g,j,h⟩:=h
    refine AH (h1 _ _ j) ?_
    try simp only [go_sem,s1.k,s1.r,s1.c,s1.p,s1.o,s1.f]
    refine BF ?_
    try simp only [go_sem,s1.k,s1.r,s1.c,s1.p,s1.o,s1.f]
    refine AD h (fun h=>?_) (fun h=>?_)
    ·try simp only [go_sem,s1.k,s1.r,s1.c,s1.p,s1.o,s1.f]
     cases h
     simp only [go_sem,s1.k,s1.r,s1.c,s1.p,s1.o,s1.f]
    ·try simp only [go_sem,s1.k,s1.r,s1.c,s1.p,s1.o,s1.f]
     refine BF ?_
     try simp only [go_sem,s1.k,s1.r,s1.c,s1.p,s1.o,s1.f]
     refine Ne (C3 rfl rfl (ih0 a0 (IntKind.i64.wrap (u+1)) f1 g1 c1 s1 h1 _ h):) (.one ⟨_,.done _,[],[],?_⟩)
     try simp only [go_sem,s1.k,s1.r,s1.c,s1.p,s1.o,s1.f]
   ·try simp only [go_sem,s1.k,s1.r,s1.c,s1.p,s1.o,s1.f]
    refine BF ?_
    try simp only [go_sem,s1.k,s1.r,s1.c,s1.p,s1.o,s1.f]
    cases h
    simp only [go_sem,s1.k,s1.r,s1.c,s1.p,s1.o,s1.f]
theorem Jr (a0:List Data) (f1:(Data→Option Bool)) (g1:FuncId) (c1:List AV) (s1:Still c1) (h1:∀ (y0:Data) (q:Bool),f1 y0=some q→AC Tryz.prog g1 (fnA c1 [.agg (Data.avs y0)]) (.bool q)) (r:Int) (h:Co a0 f1=some r):AC Tryz.prog 165 [.ro (a0.map Data.ds),.fn g1 c1] (.int .i64 r):=by
 unfold Co at h
 refine acF Tryz.func165 mixed (h:=?_)
 try simp only [go_sem,s1.k,s1.r,s1.c,s1.p,s1.o,s1.f]
 refine D9 (C3 rfl rfl (Io fuel a0 0 f1 g1 c1 s1 h1 _ h):) (.one ⟨_,.done _,[],[],?_⟩)
 try simp only [go_sem,s1.k,s1.r,s1.c,s1.p,s1.o,s1.f]
theorem RE (a0 a1 r) (h:I0 a0 a1=some r):AC Tryz.prog 166 [.agg (Data.avs a0),.rop [.str a1] 0] (.bool r):=by
 unfold I0 at h
 refine acF Tryz.func166 mixed (h:=Z ?_)
 cases h
 simp only [go_sem]
theorem Nn (a0 a1 r) (h:H3 a0 a1=some r):AC Tryz.prog 144 [.ro (a0.map Data.ds),.str a1] (.int .i64 r):=by
 unfold H3 at h
 refine acF Tryz.func144 mixed (h:=Z ?_)
 replace h:=AB h; obtain⟨u,w,h⟩:=h
 refine AH (Jr _ _ 166 [.agg [],.rop [.str a1] 0] (Still.of (by simp only [Cl,Dl,Bool.and_true,Bool.true_and,Bool.and_self])) (fun y0 q hq=>RE y0 _ q hq) _ w) (Z ?_)
 refine AF ?_
 cases h
 simp only [go_sem]
theorem Ip (n:Nat):(∀ (a0:List TType) (u:Int) (f1:(TType→Option Bool)) (g1:FuncId) (c1:List AV) (s1:Still c1) (h1:∀ (y0:TType) (q:Bool),f1 y0=some q→AC Tryz.prog g1 (fnA c1 [.agg (TType.avs y0)]) (.bool q)) (r:Int),A6 n a0 u f1=some r→Af Tryz.prog Tryz.f172 [1,0,1,0] (.int .i64 r) ⟨[(0,.ro (a0.map TType.ds)),(1,.fn g1 c1),(7,.int .i64 (a0.length:Int)),(8,.int .i64 u)],[],[]⟩):=by
 induction n with
 |zero=>exact((fun _ _ _ _ _ _ _ _ h=>by rw [A6] at h; cases h))
 | succ n ih=>
  have ih0:=ih
  ·intro a0 u f1 g1 c1 s1 h1 r h
   rw [A6] at h
   refine AL rfl rfl ?_
   try simp only [go_sem,s1.k,s1.r,s1.c,s1.p,s1.o,s1.f]
   refine AT ?_
   try simp only [go_sem,s1.k,s1.r,s1.c,s1.p,s1.o,s1.f]
   refine AD h (fun h=>?_) (fun h=>?_)
   ·try simp only [go_sem,s1.k,s1.r,s1.c,s1.p,s1.o,s1.f]
    refine BF ?_
    try simp only [go_sem,s1.k,s1.r,s1.c,s1.p,s1.o,s1.f]
    replace h:=AB h; obtain⟨w,y,h⟩:=h
    refine AK y (TType.ds_len _) ?_
    try simp only [go_sem,s1.k,s1.r,s1.c,s1.p,s1.o,s1.f]
    replace h:=AB h; obtain⟨g,j,h⟩:=h
    refine AH (h1 _ _ j) ?_
    try simp only [go_sem,s1.k,s1.r,s1.c,s1.p,s1.o,s1.f]
    refine BF ?_
    try simp only [go_sem,s1.k,s1.r,s1.c,s1.p,s1.o,s1.f]
    refine AD h (fun h=>?_) (fun h=>?_)
    ·try simp only [go_sem,s1.k,s1.r,s1.c,s1.p,s1.o,s1.f]
     cases h
     simp only [go_sem,s1.k,s1.r,s1.c,s1.p,s1.o,s1.f]
    ·try simp only [go_sem,s1.k,s1.r,s1.c,s1.p,s1.o,s1.f]
     refine BF ?_
     try simp only [go_sem,s1.k,s1.r,s1.c,s1.p,s1.o,s1.f]
     refine Ne (C3 rfl rfl (ih0 a0 (IntKind.i64.wrap (u+1)) f1 g1 c1 s1 h1 _ h):) (.one ⟨_,.done _,[],[],?_⟩)
     try simp only [go_sem,s1.k,s1.r,s1.c,s1.p,s1.o,s1.f]
   ·try simp only [go_sem,s1.k,s1.r,s1.c,s1.p,s1.o,s1.f]
    refine BF ?_
    try simp only [go_sem,s1.k,s1.r,s1.c,s1.p,s1.o,s1.f]
    cases h
    simp only [go_sem,s1.k,s1.r,s1.c,s1.p,s1.o,s1.f]
theorem Js (a0:List TType) (f1:(TType→Option Bool)) (g1:FuncId) (c1:List AV) (s1:Still c1) (h1:∀ (y0:TType) (q:Bool),f1 y0=some q→AC Tryz.prog g1 (fnA c1 [.agg (TType.avs y0)]) (.bool q)) (r:Int) (h:Cp a0 f1=some r):AC Tryz.prog 172 [.ro (a0.map TType.ds),.fn g1 c1] (.int .i64 r):=by
 unfold Cp at h
 refine acF Tryz.func172 mixed (h:=?_)
 try simp only [go_sem,s1.k,s1.r,s1.c,s1.p,s1.o,s1.f]
 refine D9 (C3 rfl rfl (Ip fuel a0 0 f1 g1 c1 s1 h1 _ h):) (.one ⟨_,.done _,[],[],?_⟩)
 try simp only [go_sem,s1.k,s1.r,s1.c,s1.p,s1.o,s1.f]
theorem FZ (a0:List TType) (f1:(TType→Option Bool)) (g1:FuncId) (c1:List AV) (s1:Still c1) (h1:∀ (y0:TType) (q:Bool),f1 y0=some q→AC Tryz.prog g1 (fnA c1 [.agg (TType.avs y0)]) (.bool q)) (r:Bool) (h:A7 a0 f1=some r):AC Tryz.prog 151 [.ro (a0.map TType.ds),.fn g1 c1] (.bool r):=by
 unfold A7 at h
 refine acF Tryz.func151 mixed (h:=?_)
 try simp only [go_sem,s1.k,s1.r,s1.c,s1.p,s1.o,s1.f]
 replace h:=AB h; obtain⟨u,w,h⟩:=h
 refine AH (Js _ _ g1 c1 s1 h1 _ w) ?_
 try simp only [go_sem,s1.k,s1.r,s1.c,s1.p,s1.o,s1.f]
 refine BF ?_
 try simp only [go_sem,s1.k,s1.r,s1.c,s1.p,s1.o,s1.f]
 cases h
 simp only [go_sem,s1.k,s1.r,s1.c,s1.p,s1.o,s1.f]
theorem Bb (u:Int) (w:Int) (y:Bool) (r:Int × Int × Bool) (h:BW u w y=some r):Af Tryz.prog Tryz.f149 [1,1,1,1] (.tup [.int .i64 r.1,.int .i64 r.2.1,.bool r.2.2]) ⟨[(2,.int .i64 u),(3,.int .i64 w),(4,.bool y)],[],[]⟩:=by
 unfold BW at h
 refine AL rfl rfl (Z ?_)
 cases h
 simp only [go_sem]
theorem RF (n:Nat):(∀a0 r,E6 n a0=some r→AC Tryz.prog 149 [.agg (TType.avs a0)] (.tup [.int .i64 r.1,.int .i64 r.2.1,.bool r.2.2]))∧
    (∀a0 u w y r,B2 n a0 u w y=some r→Af Tryz.prog Tryz.f149 [1,1,0,1,0] (.tup [.int .i64 r.1,.int .i64 r.2.1,.bool r.2.2]) ⟨[(1,.box 1000001500 0),(2,.int .i64 u),(3,.int .i64 w),(4,.bool false),(11,.ro (a0.kids.map TType.ds)),(12,.int .i64 (a0.kids.length:Int)),(13,.int .i64 y)],[],[(1000001500,some [.int .i64 a0.kind,.str a0.name,.ro (a0.kids.map TType.ds)])]⟩):=by
 induction n with
 |zero=>exact⟨(fun _ _ h=>by rw [E6] at h; cases h),(fun _ _ _ _ _ h=>by rw [B2] at h; cases h)⟩
 | succ n ih=>
  obtain⟨ih0,ih1⟩:=ih
  refine⟨?_,?_⟩
  ·intro a0 r h
   rw [E6] at h
   refine acF Tryz.func149 mixed (h:=Z ?_)
   exact loF (ih1 a0 1 1 0 _ h) [] [(1000001500,1000)]
  ·intro a0 u w y r h
   rw [B2] at h
   refine AL rfl rfl (Z ?_)
   refine AT (Z ?_)
   refine AD h (fun h=>Z ?_) (fun h=>Z ?_)
   ·refine AF ?_
    replace h:=AB h; obtain⟨q,g,h⟩:=h
    refine AK g (TType.ds_len _) (Z ?_)
    refine AF ?_
    replace h:=AB h; obtain⟨j,k,h⟩:=h
    refine AH (ih0 _ _ k) (Z ?_)
    refine AF ?_
    refine AD h (fun h=>Z ?_) (fun h=>Z ?_)
    ·cases h
     simp only [go_sem]
    ·refine AF ?_
     refine AF ?_
     exact lpF (ih1 a0 (if u<(IntKind.i64.wrap (j.1 +1)) then (IntKind.i64.wrap (j.1 +1)) else u) (IntKind.i64.wrap (w+j.2.1)) (IntKind.i64.wrap (y+1)) _ h) [] [(1000001500,1000001500)]
   ·refine AF ?_
    refine AD h (fun h=>Z ?_) (fun h=>Z ?_)
    ·refine AD h (fun h=>Z ?_) (fun h=>Z ?_)
     ·exact AU (Bb u w (decide ((a0.kids.length:Int)=0)) _ h) [] []
     ·exact AU (Bb u w false _ h) [] []
    ·refine AD h (fun h=>Z ?_) (fun h=>Z ?_)
     ·replace h:=AB h; obtain⟨b,d,h⟩:=h
      refine AH (I6 _ _ d) (Z ?_)
      refine AD h (fun h=>Z ?_) (fun h=>Z ?_)
      ·refine AD h (fun h=>Z ?_) (fun h=>Z ?_)
       ·exact AU (Bb u w (decide ((a0.kids.length:Int)=0)) _ h) [] []
       ·exact AU (Bb u w false _ h) [] []
      ·exact AU (Bb u w false _ h) [] []
     ·refine AD h (fun h=>Z ?_) (fun h=>Z ?_)
      ·refine AD h (fun h=>Z ?_) (fun h=>Z ?_)
       ·exact AU (Bb u w (decide ((a0.kids.length:Int)=2)) _ h) [] []
       ·exact AU (Bb u w false _ h) [] []
      ·refine AD h (fun h=>Z ?_) (fun h=>Z ?_)
       ·refine AD h (fun h=>Z ?_) (fun h=>Z ?_)
        ·exact AU (Bb u w (decide ((a0.kids.length:Int)=1)) _ h) [] []
        ·exact AU (Bb u w false _ h) [] []
       ·exact AU (Bb u w false _ h) [] []
def S8 (n:Nat):=(RF n).1
theorem Jl (a0 r) (h:F0 a0=some r):AC Tryz.prog 112 [.agg (TType.avs a0)] (.bool r):=by
 unfold F0 at h
 refine acF Tryz.func112 mixed (h:=Z ?_)
 replace h:=AB h; obtain⟨u,w,h⟩:=h
 refine AH (S8 fuel _ _ w) (Z ?_)
 refine AF ?_
 refine AD h (fun h=>Z ?_) (fun h=>Z ?_)
 ·refine AD h (fun h=>Z ?_) (fun h=>Z ?_)
  ·refine AF ?_
   cases h
   simp only [go_sem]
  ·refine AF ?_
   cases h
   simp only [go_sem]
 ·refine AF ?_
  cases h
  simp only [go_sem]
theorem QT (n:Nat):(∀a0 a1 r,GO n a0 a1=some r→AC Tryz.prog 152 [.agg (TType.avs a0),.rop [.ro (a1.map Data.ds)] 0] (.bool r))∧
    (∀a0 a1 r,EY n a0 a1=some r→AC Tryz.prog 115 [.ro (a0.map Data.ds),.agg (TType.avs a1)] (.bool r))∧
    (∀a0 a1 u r,Fe n a0 a1 u=some r→Af Tryz.prog Tryz.f115 [1,0,1] (.bool r) ⟨[(2,.box 1000000500 0),(3,.box 1000000501 0),(14,.bool u)],[],[(1000000500,some [.ro (a0.map Data.ds)]),(1000000501,some [.int .i64 a1.kind,.str a1.name,.ro (a1.kids.map TType.ds)])]⟩):=by
 induction n with
 |zero=>exact⟨(fun _ _ _ h=>by rw [GO] at h; cases h),(fun _ _ _ h=>by rw [EY] at h; cases h),(fun _ _ _ _ h=>by rw [Fe] at h; cases h)⟩
 | succ n ih=>
  obtain⟨ih0,ih1,ih2⟩:=ih
  refine⟨?_,?_,?_⟩
  ·intro a0 a1 r h
   rw [GO] at h
   refine acF Tryz.func152 mixed (h:=Z ?_)
   replace h:=AB h; obtain⟨w,y,h⟩:=h
   refine AH (ih1 _ _ _ y) (Z ?_)
   refine AF ?_
   cases h
   simp only [go_sem]
  ·intro a0 a1 r h
   rw [EY] at h
   refine acF Tryz.func115 mixed (h:=Z ?_)
   refine AD h (fun h=>Z ?_) (fun h=>Z ?_)
   ·replace h:=AB h; obtain⟨g,j,h⟩:=h
    refine AH (Nn _ _ _ j) (Z ?_)
    exact AU (ih2 a0 a1 (decide (g<0)) _ h) [] [(1000000500,1000),(1000000501,1001)]
   ·exact AU (ih2 a0 a1 false _ h) [] [(1000000500,1000),(1000000501,1001)]
  ·intro a0 a1 u r h
   rw [Fe] at h
   refine AL rfl rfl (Z ?_)
   refine AD h (fun h=>Z ?_) (fun h=>Z ?_)
   ·cases h
    simp only [go_sem]
   ·refine AF ?_
    replace h:=AB h; obtain⟨k,b,h⟩:=h
    refine AH (FZ _ _ 152 [.agg [],.rop [.ro (a0.map Data.ds)] 0] (Still.of (by simp only [Cl,Dl,Bool.and_true,Bool.true_and,Bool.and_self])) (fun y0 q hq=>ih0 y0 _ q hq) _ b) (Z ?_)
    refine AF ?_
    cases h
    simp only [go_sem]
def KQ (n:Nat):=(QT n).2.1
theorem K6 (a0 a1 r) (h:DN a0 a1=some r):AC Tryz.prog 167 [.agg (TType.avs a0),.rop [.ro (a1.map Data.ds)] 0] (.bool r):=by
 unfold DN at h
 refine acF Tryz.func167 mixed (h:=Z ?_)
 replace h:=AB h; obtain⟨u,w,h⟩:=h
 refine AH (Jl _ _ w) (Z ?_)
 refine AD h (fun h=>Z ?_) (fun h=>Z ?_)
 ·refine AF ?_
  cases h
  simp only [go_sem]
 ·replace h:=AB h; obtain⟨y,q,h⟩:=h
  refine AH (KQ fuel _ _ _ q) (Z ?_)
  refine AF ?_
  cases h
  simp only [go_sem]
theorem Gm (a0:List Data) (a1:Constructor) (u:Bool) (r:Bool) (h:C5 a0 a1 u=some r):Af Tryz.prog Tryz.f145 [1,0,1] (.bool r) ⟨[(2,.box 1000000500 0),(3,.box 1000000501 0),(14,.bool u)],[],[(1000000500,some [.ro (a0.map Data.ds)]),(1000000501,some [.str a1.name,.ro (a1.fields.map TType.ds)])]⟩:=by
 unfold C5 at h
 refine AL rfl rfl (Z ?_)
 refine AD h (fun h=>Z ?_) (fun h=>Z ?_)
 ·cases h
  simp only [go_sem]
 ·refine AF ?_
  replace h:=AB h; obtain⟨w,y,h⟩:=h
  refine AH (FZ _ _ 167 [.agg [],.rop [.ro (a0.map Data.ds)] 0] (Still.of (by simp only [Cl,Dl,Bool.and_true,Bool.true_and,Bool.and_self])) (fun y0 q hq=>K6 y0 _ q hq) _ y) (Z ?_)
  refine AF ?_
  cases h
  simp only [go_sem]
theorem L2 (a0 a1 r) (h:D6 a0 a1=some r):AC Tryz.prog 145 [.ro (a0.map Data.ds),.agg (Constructor.avs a1)] (.bool r):=by
 unfold D6 at h
 refine acF Tryz.func145 mixed (h:=Z ?_)
 replace h:=AB h; obtain⟨u,w,h⟩:=h
 refine AH (I6 _ _ w) (Z ?_)
 refine AD h (fun h=>Z ?_) (fun h=>Z ?_)
 ·exact AU (Gm a0 a1 true _ h) [] [(1000000500,1000),(1000000501,1001)]
 ·exact AU (Gm a0 a1 (decide (3<(a1.fields.length:Int))) _ h) [] [(1000000500,1000),(1000000501,1001)]
theorem Mq (n:Nat):(∀a0 u w r,BJ n a0 u w=some r→Af Tryz.prog Tryz.f109 [1,1,1,0,1,0] (.bool r) ⟨[(0,.ro (a0.map Data.ds)),(3,.mpr 1000006500),(12,.ro (a0.map Data.ds)),(13,.int .i64 (a0.length:Int)),(14,.int .i64 w)],[],[(1000006500,some [.mpc .str (u.map SZ)])]⟩)∧
    (∀a0 u w y q r,B9 n a0 u w y q=some r→Af Tryz.prog Tryz.f109 [1,1,1,0,1,0,0,1,1,0,0,1,0,1] (.bool r) ⟨[(0,.ro (a0.map Data.ds)),(3,.mpr 1000007500),(5,.box 1000007501 0),(12,.ro (a0.map Data.ds)),(13,.int .i64 (a0.length:Int)),(14,.int .i64 w),(48,.bool q)],[],[(1000007500,some [.mpc .str (u.map SZ)]),(1000007501,some [.str y.name,.ro (y.cons.map Constructor.ds)])]⟩)∧
    (∀a0 w y g j r,BK n a0 w y g j=some r→Af Tryz.prog Tryz.f109 [1,1,1,0,1,0,0,1,1,0,0,1,1,1,0] (.bool r) ⟨[(0,.ro (a0.map Data.ds)),(3,.mpr 1000010500),(12,.ro (a0.map Data.ds)),(13,.int .i64 (a0.length:Int)),(14,.int .i64 w),(50,.ro (y.cons.map Constructor.ds)),(51,.int .i64 (y.cons.length:Int)),(52,.int .i64 j)],[],[(1000010500,some [.mpc .str (g.map SZ)])]⟩)∧
    (∀a0 w g j y k b r,D0 n a0 w g j y k b=some r→Af Tryz.prog Tryz.f109 [1,1,1,0,1,0,0,1,1,0,0,1,1,1,0,0,1,1,0,0,1,0,1] (.bool r) ⟨[(0,.ro (a0.map Data.ds)),(3,.mpr 1000011500),(7,.box 1000011501 0),(12,.ro (a0.map Data.ds)),(13,.int .i64 (a0.length:Int)),(14,.int .i64 w),(50,.ro (y.cons.map Constructor.ds)),(51,.int .i64 (y.cons.length:Int)),(52,.int .i64 j),(65,.bool b)],[],[(1000011500,some [.mpc .str (g.map SZ)]),(1000011501,some [.str k.name,.ro (k.fields.map TType.ds)])]⟩):=by
 induction n with
 |zero=>exact⟨(fun _ _ _ _ h=>by rw [BJ] at h; cases h),(fun _ _ _ _ _ _ h=>by rw [B9] at h; cases h),(fun _ _ _ _ _ _ h=>by rw [BK] at h; cases h),(fun _ _ _ _ _ _ _ _ h=>by rw [D0] at h; cases h)⟩
 | succ n ih=>
  obtain⟨ih0,ih1,ih2,ih3⟩:=ih
  refine⟨?_,?_,?_,?_⟩
  ·intro a0 u w r h
   rw [BJ] at h
   refine AL rfl rfl (Z ?_)
   refine AT (Z ?_)
   refine AD h (fun h=>Z ?_) (fun h=>Z ?_)
   ·refine AF ?_
    replace h:=AB h; obtain⟨y,d,h⟩:=h
    refine AK d (Data.ds_len _) (Z ?_)
    refine AF ?_
    refine AW [] .fin (by kernel_rfl) (Z ?_)
    replace h:=AB h; obtain⟨c,e,h⟩:=h
    refine AH (I6 _ _ e) (Z ?_)
    refine AD h (fun h=>Z ?_) (fun h=>Z ?_)
    ·exact AU (ih1 a0 u w y true _ h) [] [(1000007500,1000006500),(1000007501,7003)]
    ·refine AD h (fun h=>Z ?_) (fun h=>Z ?_)
     ·exact AU (ih1 a0 u w y true _ h) [] [(1000007500,1000006500),(1000007501,7003)]
     ·replace h:=AB h; obtain⟨i,l,h⟩:=h
      refine Bl (IP (by intro x; exact(Data.ds_len _)) _) (Z ?_)
      refine Ai (O3 l) (Z ?_)
      replace h:=AB h; obtain⟨t,s,h⟩:=h
      refine AH (Nn _ _ _ s) (Z ?_)
      refine AD h (fun h=>Z ?_) (fun h=>Z ?_)
      ·exact AU (ih1 a0 u w y true _ h) [] [(1000007500,1000006500),(1000007501,7003)]
      ·refine AD h (fun h=>Z ?_) (fun h=>Z ?_)
       ·exact AU (ih1 a0 u w y true _ h) [] [(1000007500,1000006500),(1000007501,7003)]
       ·exact AU (ih1 a0 u w y (decide (4<(y.cons.length:Int))) _ h) [] [(1000007500,1000006500),(1000007501,7003)]
   ·refine AF ?_
    cases h
    simp only [go_sem]
  ·intro a0 u w y q r h
   rw [B9] at h
   refine AL rfl rfl (Z ?_)
   refine AD h (fun h=>Z ?_) (fun h=>Z ?_)
   ·cases h
    simp only [go_sem]
   ·refine AF ?_
    exact loF (ih2 a0 w y u 0 _ h) [] [(1000010500,1000007500)]
  ·intro a0 w y g j r h
   rw [BK] at h
   refine AL rfl rfl (Z ?_)
   refine AT (Z ?_)
   refine AD h (fun h=>Z ?_) (fun h=>Z ?_)
   ·refine AF ?_
    replace h:=AB h; obtain⟨k,o,h⟩:=h
    refine AK o (Constructor.ds_len _) (Z ?_)
    refine AF ?_
    replace h:=AB h; obtain⟨z,u1,h⟩:=h
    refine AH (L2 _ _ _ u1) (Z ?_)
    refine AD h (fun h=>Z ?_) (fun h=>Z ?_)
    ·exact AU (ih3 a0 w g j y k true _ h) [] [(1000011500,1000010500),(1000011501,12002)]
    ·exact AU (ih3 a0 w g j y k ((Gy g k.name).getD false) _ h) [] [(1000011500,1000010500),(1000011501,12002)]
   ·refine AF ?_
    exact lpF (ih0 a0 g (IntKind.i64.wrap (w+1)) _ h) [] [(1000006500,1000010500)]
  ·intro a0 w g j y k b r h
   rw [D0] at h
   refine AL rfl rfl (Z ?_)
   refine AD h (fun h=>Z ?_) (fun h=>Z ?_)
   ·cases h
    simp only [go_sem]
   ·refine AF ?_
    replace h:=AB h; obtain⟨u2,u3,h⟩:=h
    have hq_:=X8 u3
    obtain⟨hv15003_72a,hv15003_72b⟩:=hq_
    refine Bl (by first|exact hv15003_72a|(rw [List.length_map]; exact hv15003_72a)) (Z ?_)
    refine Av (u2.map SZ) (by rw [← hv15003_72b]; exact aW) (Z ?_)
    refine AF ?_
    exact lpF (ih2 a0 w y u2 (IntKind.i64.wrap (j+1)) _ h) [] [(1000010500,1000011500)]
def NR (n:Nat):=(Mq n).1
theorem RG (a0 r) (h:HW a0=some r):AC Tryz.prog 109 [.ro (a0.map Data.ds)] (.bool r):=by
 unfold HW at h
 refine acF Tryz.func109 mixed (h:=Z ?_)
 refine AD h (fun h=>Z ?_) (fun h=>Z ?_)
 ·cases h
  simp only [go_sem]
 ·refine AF ?_
  exact loF (NR fuel a0 [] 0 _ h) [] [(1000006500,4000)]
theorem Lg (a0 r) (h:H4 a0=some r):AC Tryz.prog 110 [.str a0] (.bool r):=by
 unfold H4 at h
 refine acF Tryz.func110 mixed (h:=Z ?_)
 replace h:=AB h; obtain⟨u,w,h⟩:=h
 refine AH (Qz _ _ w) (Z ?_)
 refine AD h (fun h=>Z ?_) (fun h=>Z ?_)
 ·replace h:=AB h; obtain⟨y,q,h⟩:=h
  refine Ai q (Z ?_)
  replace h:=AB h; obtain⟨g,j,h⟩:=h
  refine AH (PV _ _ j) (Z ?_)
  refine AF ?_
  cases h
  simp only [go_sem]
 ·refine AF ?_
  cases h
  simp only [go_sem]
theorem I7 (n:Nat):(∀ (a0:List Def) (u:Int) (f1:(Def→Option Bool)) (g1:FuncId) (c1:List AV) (s1:Still c1) (h1:∀ (y0:Def) (q:Bool),f1 y0=some q→AC Tryz.prog g1 (fnA c1 [.agg (Def.avs y0)]) (.bool q)) (r:Int),BC n a0 u f1=some r→Af Tryz.prog Tryz.f114 [1,0,1,0] (.int .i64 r) ⟨[(0,.ro (a0.map Def.ds)),(1,.fn g1 c1),(7,.int .i64 (a0.length:Int)),(8,.int .i64 u)],[],[]⟩):=by
 induction n with
 |zero=>exact((fun _ _ _ _ _ _ _ _ h=>by rw [BC] at h; cases h))
 | succ n ih=>
  have ih0:=ih
  ·intro a0 u f1 g1 c1 s1 h1 r h
   rw [BC] at h
   refine AL rfl rfl ?_
   try simp only [go_sem,s1.k,s1.r,s1.c,s1.p,s1.o,s1.f]
   refine AT ?_
   try simp only [go_sem,s1.k,s1.r,s1.c,s1.p,s1.o,s1.f]
   refine AD h (fun h=>?_) (fun h=>?_)
   ·try simp only [go_sem,s1.k,s1.r,s1.c,s1.p,s1.o,s1.f]
    refine BF ?_
    try simp only [go_sem,s1.k,s1.r,s1.c,s1.p,s1.o,s1.f]
    replace h:=AB h; obtain⟨w,y,h⟩:=h
    refine AK y (Def.ds_len _) ?_
    try simp only [go_sem,s1.k,s1.r,s1.c,s1.p,s1.o,s1.f]
    replace h:=AB h; obtain⟨g,j,h⟩:=h
    refine AH (h1 _ _ j) ?_
    try simp only [go_sem,s1.k,s1.r,s1.c,s1.p,s1.o,s1.f]
    refine BF ?_
    try simp only [go_sem,s1.k,s1.r,s1.c,s1.p,s1.o,s1.f]
    refine AD h (fun h=>?_) (fun h=>?_)
    ·try simp only [go_sem,s1.k,s1.r,s1.c,s1.p,s1.o,s1.f]
     cases h
     simp only [go_sem,s1.k,s1.r,s1.c,s1.p,s1.o,s1.f]
    ·try simp only [go_sem,s1.k,s1.r,s1.c,s1.p,s1.o,s1.f]
     refine BF ?_
     try simp only [go_sem,s1.k,s1.r,s1.c,s1.p,s1.o,s1.f]
     refine Ne (C3 rfl rfl (ih0 a0 (IntKind.i64.wrap (u+1)) f1 g1 c1 s1 h1 _ h):) (.one ⟨_,.done _,[],[],?_⟩)
     try simp only [go_sem,s1.k,s1.r,s1.c,s1.p,s1.o,s1.f]
   ·try simp only [go_sem,s1.k,s1.r,s1.c,s1.p,s1.o,s1.f]
    refine BF ?_
    try simp only [go_sem,s1.k,s1.r,s1.c,s1.p,s1.o,s1.f]
    cases h
    simp only [go_sem,s1.k,s1.r,s1.c,s1.p,s1.o,s1.f]
theorem Gn (a0:List Def) (f1:(Def→Option Bool)) (g1:FuncId) (c1:List AV) (s1:Still c1) (h1:∀ (y0:Def) (q:Bool),f1 y0=some q→AC Tryz.prog g1 (fnA c1 [.agg (Def.avs y0)]) (.bool q)) (r:Int) (h:CK a0 f1=some r):AC Tryz.prog 114 [.ro (a0.map Def.ds),.fn g1 c1] (.int .i64 r):=by
 unfold CK at h
 refine acF Tryz.func114 mixed (h:=?_)
 try simp only [go_sem,s1.k,s1.r,s1.c,s1.p,s1.o,s1.f]
 refine D9 (C3 rfl rfl (I7 fuel a0 0 f1 g1 c1 s1 h1 _ h):) (.one ⟨_,.done _,[],[],?_⟩)
 try simp only [go_sem,s1.k,s1.r,s1.c,s1.p,s1.o,s1.f]
theorem Lh (a0 a1 r) (h:Eh a0 a1=some r):AC Tryz.prog 148 [.agg (Def.avs a0),.rop [.str a1] 0] (.bool r):=by
 unfold Eh at h
 refine acF Tryz.func148 mixed (h:=Z ?_)
 cases h
 simp only [go_sem]
theorem GD (a0 a1 r) (h:Cq a0 a1=some r):AC Tryz.prog 111 [.agg (TProgram.avs a0),.str a1] (.int .i64 r):=by
 unfold Cq at h
 refine acF Tryz.func111 mixed (h:=Z ?_)
 replace h:=AB h; obtain⟨u,w,h⟩:=h
 refine AH (Gn _ _ 148 [.agg [],.rop [.str a1] 0] (Still.of (by simp only [Cl,Dl,Bool.and_true,Bool.true_and,Bool.and_self])) (fun y0 q hq=>Lh y0 _ q hq) _ w) (Z ?_)
 refine AF ?_
 cases h
 simp only [go_sem]
theorem Iq (n:Nat):(∀ (a0:List TType) (a1:List TType) (u:Int) (f2:(TType→TType→Option Bool)) (g2:FuncId) (c2:List AV) (s2:Still c2) (h2:∀ (y0:TType) (y1:TType) (q:Bool),f2 y0 y1=some q→AC Tryz.prog g2 (fnA c2 [.agg (TType.avs y0),.agg (TType.avs y1)]) (.bool q)) (r:Bool),Be n a0 a1 u f2=some r→Af Tryz.prog Tryz.f95 [1,1,0,1,0] (.bool r) ⟨[(1,.ro (a1.map TType.ds)),(2,.fn g2 c2),(15,.ro (a0.map TType.ds)),(16,.int .i64 (a0.length:Int)),(17,.int .i64 u)],[],[]⟩):=by
 induction n with
 |zero=>exact((fun _ _ _ _ _ _ _ _ _ h=>by rw [Be] at h; cases h))
 | succ n ih=>
  have ih0:=ih
  ·intro a0 a1 u f2 g2 c2 s2 h2 r h
   rw [Be] at h
   refine AL rfl rfl ?_
   try simp only [go_sem,s2.k,s2.r,s2.c,s2.p,s2.o,s2.f]
   refine AT ?_
   try simp only [go_sem,s2.k,s2.r,s2.c,s2.p,s2.o,s2.f]
   refine AD h (fun h=>?_) (fun h=>?_)
   ·try simp only [go_sem,s2.k,s2.r,s2.c,s2.p,s2.o,s2.f]
    refine BF ?_
    try simp only [go_sem,s2.k,s2.r,s2.c,s2.p,s2.o,s2.f]
    replace h:=AB h; obtain⟨w,y,h⟩:=h
    refine AK y (TType.ds_len _) ?_
    try simp only [go_sem,s2.k,s2.r,s2.c,s2.p,s2.o,s2.f]
    refine BF ?_
    try simp only [go_sem,s2.k,s2.r,s2.c,s2.p,s2.o,s2.f]
    replace h:=AB h; obtain⟨g,j,h⟩:=h
    refine AK j (TType.ds_len _) ?_
    try simp only [go_sem,s2.k,s2.r,s2.c,s2.p,s2.o,s2.f]
    refine BF ?_
    try simp only [go_sem,s2.k,s2.r,s2.c,s2.p,s2.o,s2.f]
    replace h:=AB h; obtain⟨b,d,h⟩:=h
    refine AH (h2 _ _ _ d) ?_
    try simp only [go_sem,s2.k,s2.r,s2.c,s2.p,s2.o,s2.f]
    refine BF ?_
    try simp only [go_sem,s2.k,s2.r,s2.c,s2.p,s2.o,s2.f]
    refine AD h (fun h=>?_) (fun h=>?_)
    ·try simp only [go_sem,s2.k,s2.r,s2.c,s2.p,s2.o,s2.f]
     cases h
     simp only [go_sem,s2.k,s2.r,s2.c,s2.p,s2.o,s2.f]
    ·try simp only [go_sem,s2.k,s2.r,s2.c,s2.p,s2.o,s2.f]
     refine BF ?_
     try simp only [go_sem,s2.k,s2.r,s2.c,s2.p,s2.o,s2.f]
     refine Ne (C3 rfl rfl (ih0 a0 a1 (IntKind.i64.wrap (u+1)) f2 g2 c2 s2 h2 _ h):) (.one ⟨_,.done _,[],[],?_⟩)
     try simp only [go_sem,s2.k,s2.r,s2.c,s2.p,s2.o,s2.f]
   ·try simp only [go_sem,s2.k,s2.r,s2.c,s2.p,s2.o,s2.f]
    refine BF ?_
    try simp only [go_sem,s2.k,s2.r,s2.c,s2.p,s2.o,s2.f]
    cases h
    simp only [go_sem,s2.k,s2.r,s2.c,s2.p,s2.o,s2.f]
theorem GX (a0:List TType) (a1:List TType) (f2:(TType→TType→Option Bool)) (g2:FuncId) (c2:List AV) (s2:Still c2) (h2:∀ (y0:TType) (y1:TType) (q:Bool),f2 y0 y1=some q→AC Tryz.prog g2 (fnA c2 [.agg (TType.avs y0),.agg (TType.avs y1)]) (.bool q)) (r:Bool) (h:CA a0 a1 f2=some r):AC Tryz.prog 95 [.ro (a0.map TType.ds),.ro (a1.map TType.ds),.fn g2 c2] (.bool r):=by
 unfold CA at h
 refine acF Tryz.func95 mixed (h:=?_)
 try simp only [go_sem,s2.k,s2.r,s2.c,s2.p,s2.o,s2.f]
 refine AD h (fun h=>?_) (fun h=>?_)
 ·try simp only [go_sem,s2.k,s2.r,s2.c,s2.p,s2.o,s2.f]
  cases h
  simp only [go_sem,s2.k,s2.r,s2.c,s2.p,s2.o,s2.f]
 ·try simp only [go_sem,s2.k,s2.r,s2.c,s2.p,s2.o,s2.f]
  refine BF ?_
  try simp only [go_sem,s2.k,s2.r,s2.c,s2.p,s2.o,s2.f]
  refine D9 (C3 rfl rfl (Iq fuel a0 a1 0 f2 g2 c2 s2 h2 _ h):) (.one ⟨_,.done _,[],[],?_⟩)
  try simp only [go_sem,s2.k,s2.r,s2.c,s2.p,s2.o,s2.f]
theorem Ed (n:Nat):(∀a0 a1 r,DA n a0 a1=some r→AC Tryz.prog 47 [.agg (TType.avs a0),.agg (TType.avs a1)] (.bool r)):=by
 induction n with
 |zero=>exact((fun _ _ _ h=>by rw [DA] at h; cases h))
 | succ n ih=>
  have ih0:=ih
  ·intro a0 a1 r h
   rw [DA] at h
   refine acF Tryz.func47 mixed (h:=Z ?_)
   refine AD h (fun h=>Z ?_) (fun h=>Z ?_)
   ·refine AD h (fun h=>Z ?_) (fun h=>Z ?_)
    ·replace h:=AB h; obtain⟨u,w,h⟩:=h
     refine AH (GX _ _ _ 47 [] (Still.of rfl) (fun y0 y1 q hq=>ih0 y0 y1  q hq) _ w) (Z ?_)
     refine AF ?_
     cases h
     simp only [go_sem]
    ·refine AF ?_
     cases h
     simp only [go_sem]
   ·refine AF ?_
    cases h
    simp only [go_sem]
theorem RH (a0 r) (h:HX a0=some r):AC Tryz.prog 180 [.agg (TType.avs a0)] (.bool r):=by
 unfold HX at h
 refine acF Tryz.func180 mixed (h:=Z ?_)
 replace h:=AB h; obtain⟨u,w,h⟩:=h
 refine AH (Ed fuel _ _ _ w) (Z ?_)
 refine AF ?_
 cases h
 simp only [go_sem]
theorem Ya (a0 r) (h:RX a0=some r):AC Tryz.prog 181 [.int .i64 a0] (.bool r):=by
 unfold RX at h
 refine acF Tryz.func181 mixed (h:=Z ?_)
 refine AD h (fun h=>Z ?_) (fun h=>Z ?_)
 ·refine AF ?_
  cases h
  simp only [go_sem]
 ·refine AF ?_
  cases h
  simp only [go_sem]
theorem RI (a0 r) (h:I1 a0=some r):AC Tryz.prog 182 [.int .i64 a0] (.bool r):=by
 unfold I1 at h
 refine acF Tryz.func182 mixed (h:=Z ?_)
 refine AD h (fun h=>Z ?_) (fun h=>Z ?_)
 ·refine AF ?_
  cases h
  simp only [go_sem]
 ·refine AF ?_
  cases h
  simp only [go_sem]
theorem KR (n:Nat):(∀a0 u r,Ap n a0 u=some r→Af Tryz.prog Tryz.f183 [1,0,1,0] (.bool r) ⟨[(0,.ro (a0.map strD)),(5,.ro (a0.map strD)),(6,.int .i64 (a0.length:Int)),(7,.int .i64 u)],[],[]⟩)∧
    (∀a0 u w r,Cb n a0 u w=some r→Af Tryz.prog Tryz.f183 [1,0,1,0,0,1,1,0,0,1,1] (.bool r) ⟨[(0,.ro (a0.map strD)),(5,.ro (a0.map strD)),(6,.int .i64 (a0.length:Int)),(7,.int .i64 u),(21,.bool w)],[],[]⟩):=by
 induction n with
 |zero=>exact⟨(fun _ _ _ h=>by rw [Ap] at h; cases h),(fun _ _ _ _ h=>by rw [Cb] at h; cases h)⟩
 | succ n ih=>
  obtain⟨ih0,ih1⟩:=ih
  refine⟨?_,?_⟩
  ·intro a0 u r h
   rw [Ap] at h
   refine AL rfl rfl (Z ?_)
   refine AT (Z ?_)
   refine AD h (fun h=>Z ?_) (fun h=>Z ?_)
   ·refine AF ?_
    replace h:=AB h; obtain⟨y,q,h⟩:=h
    refine AK q rfl (Z ?_)
    replace h:=AB h; obtain⟨g,j,h⟩:=h
    refine AH (Lg _ _ j) (Z ?_)
    refine AD h (fun h=>Z ?_) (fun h=>Z ?_)
    ·exact AU (ih1 a0 u true _ h) [] []
    ·replace h:=AB h; obtain⟨k,b,h⟩:=h
     refine Bl (IP (by intro x; exact rfl) _) (Z ?_)
     refine Ai (O3 b) (Z ?_)
     replace h:=AB h; obtain⟨d,c,h⟩:=h
     refine AH (EA _ _ _ c) (Z ?_)
     exact AU (ih1 a0 u d _ h) [] []
   ·refine AF ?_
    cases h
    simp only [go_sem]
  ·intro a0 u w r h
   rw [Cb] at h
   refine AL rfl rfl (Z ?_)
   refine AD h (fun h=>Z ?_) (fun h=>Z ?_)
   ·cases h
    simp only [go_sem]
   ·refine AF ?_
    exact lpF (ih0 a0 (IntKind.i64.wrap (u+1)) _ h) [] []
def K7 (n:Nat):=(KR n).1
theorem Mr (a0 r) (h:EP a0=some r):AC Tryz.prog 183 [.ro (a0.map strD)] (.bool r):=by
 unfold EP at h
 refine acF Tryz.func183 mixed (h:=Z ?_)
 exact loF (K7 fuel a0 0 _ h) [] []
theorem Ao (a0:Term) (u:Bool) (r:Bool) (h:As a0 u=some r):Af Tryz.prog Tryz.f171 [1,1,0,1] (.bool r) ⟨[(1,.box 1000000500 0),(43,.bool u)],[],[(1000000500,some [.int .i64 a0.kind,.int .i64 a0.num,.str a0.name,.int .i64 a0.typ.kind,.str a0.typ.name,.ro (a0.typ.kids.map TType.ds),.ro (a0.names.map strD),.ro (a0.kids.map Term.ds)])]⟩:=by
 unfold As at h
 refine AL rfl rfl (Z ?_)
 refine AD h (fun h=>Z ?_) (fun h=>Z ?_)
 ·cases h
  simp only [go_sem]
 ·refine AF ?_
  refine AW [] .fin (by kernel_rfl) (Z ?_)
  replace h:=AB h; obtain⟨w,y,h⟩:=h
  refine AH (Lg _ _ y) (Z ?_)
  replace h:=AB h; obtain⟨q,g,h⟩:=h
  refine AH (I6 _ _ g) (Z ?_)
  refine AF ?_
  refine AD h (fun h=>Z ?_) (fun h=>Z ?_)
  ·refine AD h (fun h=>Z ?_) (fun h=>Z ?_)
   ·refine AF ?_
    cases h
    simp only [go_sem]
   ·refine AF ?_
    cases h
    simp only [go_sem]
  ·refine AD h (fun h=>Z ?_) (fun h=>Z ?_)
   ·refine AD h (fun h=>Z ?_) (fun h=>Z ?_)
    ·refine AD h (fun h=>Z ?_) (fun h=>Z ?_)
     ·replace h:=AB h; obtain⟨j,k,h⟩:=h
      refine AH (Ya _ _ k) (Z ?_)
      refine AF ?_
      cases h
      simp only [go_sem]
     ·refine AF ?_
      cases h
      simp only [go_sem]
    ·refine AF ?_
     cases h
     simp only [go_sem]
   ·refine AD h (fun h=>Z ?_) (fun h=>Z ?_)
    ·refine AD h (fun h=>Z ?_) (fun h=>Z ?_)
     ·refine AD h (fun h=>Z ?_) (fun h=>Z ?_)
      ·replace h:=AB h; obtain⟨b,d,h⟩:=h
       refine AH (RI _ _ d) (Z ?_)
       refine AF ?_
       cases h
       simp only [go_sem]
      ·refine AF ?_
       cases h
       simp only [go_sem]
     ·refine AF ?_
      cases h
      simp only [go_sem]
    ·refine AD h (fun h=>Z ?_) (fun h=>Z ?_)
     ·refine AD h (fun h=>Z ?_) (fun h=>Z ?_)
      ·refine AD h (fun h=>Z ?_) (fun h=>Z ?_)
       ·replace h:=AB h; obtain⟨c,e,h⟩:=h
        refine AH (Jl _ _ e) (Z ?_)
        refine AF ?_
        cases h
        simp only [go_sem]
       ·refine AF ?_
        cases h
        simp only [go_sem]
      ·refine AF ?_
       cases h
       simp only [go_sem]
     ·refine AD h (fun h=>Z ?_) (fun h=>Z ?_)
      ·refine AD h (fun h=>Z ?_) (fun h=>Z ?_)
       ·refine AF ?_
        cases h
        simp only [go_sem]
       ·refine AF ?_
        cases h
        simp only [go_sem]
      ·refine AD h (fun h=>Z ?_) (fun h=>Z ?_)
       ·refine AD h (fun h=>Z ?_) (fun h=>Z ?_)
        ·refine AF ?_
         cases h
         simp only [go_sem]
        ·refine AF ?_
         cases h
         simp only [go_sem]
       ·refine AD h (fun h=>Z ?_) (fun h=>Z ?_)
        ·refine AD h (fun h=>Z ?_) (fun h=>Z ?_)
         ·refine AF ?_
          cases h
          simp only [go_sem]
         ·refine AF ?_
          cases h
          simp only [go_sem]
        ·refine AD h (fun h=>Z ?_) (fun h=>Z ?_)
         ·refine AD h (fun h=>Z ?_) (fun h=>Z ?_)
          ·refine AF ?_
           cases h
           simp only [go_sem]
          ·refine AF ?_
           cases h
           simp only [go_sem]
         ·refine AD h (fun h=>Z ?_) (fun h=>Z ?_)
          ·refine AD h (fun h=>Z ?_) (fun h=>Z ?_)
           ·refine AD h (fun h=>Z ?_) (fun h=>Z ?_)
            ·refine AF ?_
             cases h
             simp only [go_sem]
            ·refine AF ?_
             cases h
             simp only [go_sem]
           ·refine AF ?_
            cases h
            simp only [go_sem]
          ·refine AD h (fun h=>Z ?_) (fun h=>Z ?_)
           ·refine AD h (fun h=>Z ?_) (fun h=>Z ?_)
            ·refine AD h (fun h=>Z ?_) (fun h=>Z ?_)
             ·replace h:=AB h; obtain⟨i,l,h⟩:=h
              refine AH (Mr _ _ l) (Z ?_)
              refine AF ?_
              cases h
              simp only [go_sem]
             ·refine AF ?_
              cases h
              simp only [go_sem]
            ·refine AF ?_
             cases h
             simp only [go_sem]
           ·refine AD h (fun h=>Z ?_) (fun h=>Z ?_)
            ·refine AD h (fun h=>Z ?_) (fun h=>Z ?_)
             ·refine AF ?_
              cases h
              simp only [go_sem]
             ·refine AF ?_
              cases h
              simp only [go_sem]
            ·refine AF ?_
             cases h
             simp only [go_sem]
theorem S9 (a0 r) (h:IV a0=some r):AC Tryz.prog 171 [.agg (Term.avs a0)] (.bool r):=by
 unfold IV at h
 refine acF Tryz.func171 mixed (h:=Z ?_)
 replace h:=AB h; obtain⟨u,w,h⟩:=h
 refine AH (RH _ _ w) (Z ?_)
 refine AF ?_
 refine AD h (fun h=>Z ?_) (fun h=>Z ?_)
 ·refine AD h (fun h=>Z ?_) (fun h=>Z ?_)
  ·exact AU (Ao a0 true _ h) [] [(1000000500,1000)]
  ·refine AD h (fun h=>Z ?_) (fun h=>Z ?_)
   ·refine AD h (fun h=>Z ?_) (fun h=>Z ?_)
    ·exact AU (Ao a0 true _ h) [] [(1000000500,1000)]
    ·refine AD h (fun h=>Z ?_) (fun h=>Z ?_)
     ·refine AD h (fun h=>Z ?_) (fun h=>Z ?_)
      ·exact AU (Ao a0 (!decide (a0.num=0)) _ h) [] [(1000000500,1000)]
      ·exact AU (Ao a0 false _ h) [] [(1000000500,1000)]
     ·exact AU (Ao a0 false _ h) [] [(1000000500,1000)]
   ·refine AD h (fun h=>Z ?_) (fun h=>Z ?_)
    ·refine AD h (fun h=>Z ?_) (fun h=>Z ?_)
     ·exact AU (Ao a0 (!decide (a0.num=0)) _ h) [] [(1000000500,1000)]
     ·exact AU (Ao a0 false _ h) [] [(1000000500,1000)]
    ·exact AU (Ao a0 false _ h) [] [(1000000500,1000)]
 ·refine AD h (fun h=>Z ?_) (fun h=>Z ?_)
  ·refine AD h (fun h=>Z ?_) (fun h=>Z ?_)
   ·exact AU (Ao a0 true _ h) [] [(1000000500,1000)]
   ·refine AD h (fun h=>Z ?_) (fun h=>Z ?_)
    ·refine AD h (fun h=>Z ?_) (fun h=>Z ?_)
     ·exact AU (Ao a0 (!decide (a0.num=0)) _ h) [] [(1000000500,1000)]
     ·exact AU (Ao a0 false _ h) [] [(1000000500,1000)]
    ·exact AU (Ao a0 false _ h) [] [(1000000500,1000)]
  ·refine AD h (fun h=>Z ?_) (fun h=>Z ?_)
   ·refine AD h (fun h=>Z ?_) (fun h=>Z ?_)
    ·exact AU (Ao a0 (!decide (a0.num=0)) _ h) [] [(1000000500,1000)]
    ·exact AU (Ao a0 false _ h) [] [(1000000500,1000)]
   ·exact AU (Ao a0 false _ h) [] [(1000000500,1000)]
theorem RJ (n:Nat):(∀a0 r,E7 n a0=some r→AC Tryz.prog 150 [.agg (Term.avs a0)] (.tup [.int .i64 r.1,.int .i64 r.2.1,.bool r.2.2]))∧
    (∀a0 u w y r,B3 n a0 u w y=some r→Af Tryz.prog Tryz.f150 [1,1,1,0,1,0] (.tup [.int .i64 r.1,.int .i64 r.2.1,.bool r.2.2]) ⟨[(1,.box 1000002500 0),(2,.int .i64 u),(3,.int .i64 w),(14,.ro (a0.kids.map Term.ds)),(15,.int .i64 (a0.kids.length:Int)),(16,.int .i64 y)],[],[(1000002500,some [.int .i64 a0.kind,.int .i64 a0.num,.str a0.name,.int .i64 a0.typ.kind,.str a0.typ.name,.ro (a0.typ.kids.map TType.ds),.ro (a0.names.map strD),.ro (a0.kids.map Term.ds)])]⟩)∧
    (∀a0 u w y q g r,Es n a0 u w y q g=some r→Af Tryz.prog Tryz.f150 [1,1,1,0,1,0,0,1,1,0,0,1,0,1] (.tup [.int .i64 r.1,.int .i64 r.2.1,.bool r.2.2]) ⟨[(1,.box 1000003500 0),(2,.int .i64 u),(3,.int .i64 w),(6,.box 1000003501 0),(14,.ro (a0.kids.map Term.ds)),(15,.int .i64 (a0.kids.length:Int)),(16,.int .i64 y),(31,.bool g)],[],[(1000003500,some [.int .i64 a0.kind,.int .i64 a0.num,.str a0.name,.int .i64 a0.typ.kind,.str a0.typ.name,.ro (a0.typ.kids.map TType.ds),.ro (a0.names.map strD),.ro (a0.kids.map Term.ds)]),(1000003501,some [.int .i64 q.kind,.int .i64 q.num,.str q.name,.int .i64 q.typ.kind,.str q.typ.name,.ro (q.typ.kids.map TType.ds),.ro (q.names.map strD),.ro (q.kids.map Term.ds)])]⟩):=by
 induction n with
 |zero=>exact⟨(fun _ _ h=>by rw [E7] at h; cases h),(fun _ _ _ _ _ h=>by rw [B3] at h; cases h),(fun _ _ _ _ _ _ _ h=>by rw [Es] at h; cases h)⟩
 | succ n ih=>
  obtain⟨ih0,ih1,ih2⟩:=ih
  refine⟨?_,?_,?_⟩
  ·intro a0 r h
   rw [E7] at h
   refine acF Tryz.func150 mixed (h:=Z ?_)
   replace h:=AB h; obtain⟨j,k,h⟩:=h
   refine AH (S9 _ _ k) (Z ?_)
   refine AF ?_
   refine AD h (fun h=>Z ?_) (fun h=>Z ?_)
   ·cases h
    simp only [go_sem]
   ·refine AF ?_
    exact loF (ih1 a0 1 1 0 _ h) [] [(1000002500,1000)]
  ·intro a0 u w y r h
   rw [B3] at h
   refine AL rfl rfl (Z ?_)
   refine AT (Z ?_)
   refine AD h (fun h=>Z ?_) (fun h=>Z ?_)
   ·refine AF ?_
    replace h:=AB h; obtain⟨q,b,h⟩:=h
    refine AK b (Term.ds_len _) (Z ?_)
    refine AF ?_
    refine AD h (fun h=>Z ?_) (fun h=>Z ?_)
    ·exact AU (ih2 a0 u w y q (!((decide (q.kind=10)) == (decide (0<y)))) _ h) [] [(1000003500,1000002500),(1000003501,7003)]
    ·exact AU (ih2 a0 u w y q (!((decide (q.kind=10)) == false)) _ h) [] [(1000003500,1000002500),(1000003501,7003)]
   ·refine AF ?_
    cases h
    simp only [go_sem]
  ·intro a0 u w y q g r h
   rw [Es] at h
   refine AL rfl rfl (Z ?_)
   refine AD h (fun h=>Z ?_) (fun h=>Z ?_)
   ·cases h
    simp only [go_sem]
   ·refine AF ?_
    replace h:=AB h; obtain⟨d,c,h⟩:=h
    refine AH (ih0 _ _ c) (Z ?_)
    refine AF ?_
    refine AD h (fun h=>Z ?_) (fun h=>Z ?_)
    ·cases h
     simp only [go_sem]
    ·refine AF ?_
     refine AF ?_
     exact lpF (ih1 a0 (if u<(IntKind.i64.wrap (d.1 +1)) then (IntKind.i64.wrap (d.1 +1)) else u) (IntKind.i64.wrap (w+d.2.1)) (IntKind.i64.wrap (y+1)) _ h) [] [(1000002500,1000003500)]
def TA (n:Nat):=(RJ n).1
theorem TB (a0 r) (h:IW a0=some r):AC Tryz.prog 113 [.agg (Term.avs a0)] (.bool r):=by
 unfold IW at h
 refine acF Tryz.func113 mixed (h:=Z ?_)
 replace h:=AB h; obtain⟨u,w,h⟩:=h
 refine AH (TA fuel _ _ w) (Z ?_)
 refine AF ?_
 refine AD h (fun h=>Z ?_) (fun h=>Z ?_)
 ·refine AD h (fun h=>Z ?_) (fun h=>Z ?_)
  ·refine AD h (fun h=>Z ?_) (fun h=>Z ?_)
   ·refine AF ?_
    cases h
    simp only [go_sem]
   ·refine AF ?_
    cases h
    simp only [go_sem]
  ·refine AF ?_
   cases h
   simp only [go_sem]
 ·refine AF ?_
  cases h
  simp only [go_sem]
theorem L5 (n:Nat):(∀a0 u r,BM n a0 u=some r→Af Tryz.prog Tryz.f70 [1,1,0,1,0] (.bool r) ⟨[(1,.box 1000003500 0),(22,.ro (a0.defs.map Def.ds)),(23,.int .i64 (a0.defs.length:Int)),(24,.int .i64 u)],[],[(1000003500,some [.ro (a0.datas.map Data.ds),.ro (a0.defs.map Def.ds)])]⟩)∧
    (∀a0 u w r,CI n a0 u w=some r→Af Tryz.prog Tryz.f70 [1,1,0,1,0,0,1,1,0,0,1,1] (.bool r) ⟨[(1,.box 1000004500 0),(22,.ro (a0.defs.map Def.ds)),(23,.int .i64 (a0.defs.length:Int)),(24,.int .i64 u),(52,.bool w)],[],[(1000004500,some [.ro (a0.datas.map Data.ds),.ro (a0.defs.map Def.ds)])]⟩):=by
 induction n with
 |zero=>exact⟨(fun _ _ _ h=>by rw [BM] at h; cases h),(fun _ _ _ _ h=>by rw [CI] at h; cases h)⟩
 | succ n ih=>
  obtain⟨ih0,ih1⟩:=ih
  refine⟨?_,?_⟩
  ·intro a0 u r h
   rw [BM] at h
   refine AL rfl rfl (Z ?_)
   refine AT (Z ?_)
   refine AD h (fun h=>Z ?_) (fun h=>Z ?_)
   ·refine AF ?_
    replace h:=AB h; obtain⟨y,q,h⟩:=h
    refine AK q (Def.ds_len _) (Z ?_)
    refine AF ?_
    replace h:=AB h; obtain⟨g,j,h⟩:=h
    refine AH (Lg _ _ j) (Z ?_)
    refine AD h (fun h=>Z ?_) (fun h=>Z ?_)
    ·exact AU (ih1 a0 u true _ h) [] [(1000004500,1000003500)]
    ·replace h:=AB h; obtain⟨k,b,h⟩:=h
     refine AH (GD _ _ _ b) (Z ?_)
     refine AD h (fun h=>Z ?_) (fun h=>Z ?_)
     ·exact AU (ih1 a0 u true _ h) [] [(1000004500,1000003500)]
     ·replace h:=AB h; obtain⟨d,c,h⟩:=h
      refine AH (Jl _ _ c) (Z ?_)
      refine AD h (fun h=>Z ?_) (fun h=>Z ?_)
      ·exact AU (ih1 a0 u true _ h) [] [(1000004500,1000003500)]
      ·replace h:=AB h; obtain⟨e,i,h⟩:=h
       refine AH (TB _ _ i) (Z ?_)
       exact AU (ih1 a0 u (!e) _ h) [] [(1000004500,1000003500)]
   ·refine AF ?_
    cases h
    simp only [go_sem]
  ·intro a0 u w r h
   rw [CI] at h
   refine AL rfl rfl (Z ?_)
   refine AD h (fun h=>Z ?_) (fun h=>Z ?_)
   ·cases h
    simp only [go_sem]
   ·refine AF ?_
    exact lpF (ih0 a0 (IntKind.i64.wrap (u+1)) _ h) [] [(1000003500,1000004500)]
def Ms (n:Nat):=(L5 n).1
theorem GE (a0:TProgram) (u:Bool) (r:Bool) (h:DY a0 u=some r):Af Tryz.prog Tryz.f70 [1,0,1] (.bool r) ⟨[(1,.box 1000000500 0),(20,.bool u)],[],[(1000000500,some [.ro (a0.datas.map Data.ds),.ro (a0.defs.map Def.ds)])]⟩:=by
 unfold DY at h
 refine AL rfl rfl (Z ?_)
 refine AD h (fun h=>Z ?_) (fun h=>Z ?_)
 ·cases h
  simp only [go_sem]
 ·refine AF ?_
  exact loF (Ms fuel a0 0 _ h) [] [(1000003500,1000000500)]
theorem PW (a0 r) (h:F1 a0=some r):AC Tryz.prog 70 [.agg (TProgram.avs a0)] (.bool r):=by
 unfold F1 at h
 refine acF Tryz.func70 mixed (h:=Z ?_)
 replace h:=AB h; obtain⟨u,w,h⟩:=h
 refine AH (RG _ _ w) (Z ?_)
 refine AD h (fun h=>Z ?_) (fun h=>Z ?_)
 ·exact AU (GE a0 true _ h) [] [(1000000500,1000)]
 ·refine AD h (fun h=>Z ?_) (fun h=>Z ?_)
  ·exact AU (GE a0 true _ h) [] [(1000000500,1000)]
  ·exact AU (GE a0 (decide (8<(a0.defs.length:Int))) _ h) [] [(1000000500,1000)]
theorem Fk (a0:List Def) (f1:(Def→Option Bool)) (g1:FuncId) (c1:List AV) (s1:Still c1) (h1:∀ (y0:Def) (q:Bool),f1 y0=some q→AC Tryz.prog g1 (fnA c1 [.agg (Def.avs y0)]) (.bool q)) (r:Bool) (h:Bq a0 f1=some r):AC Tryz.prog 71 [.ro (a0.map Def.ds),.fn g1 c1] (.bool r):=by
 unfold Bq at h
 refine acF Tryz.func71 mixed (h:=?_)
 try simp only [go_sem,s1.k,s1.r,s1.c,s1.p,s1.o,s1.f]
 replace h:=AB h; obtain⟨u,w,h⟩:=h
 refine AH (Gn _ _ g1 c1 s1 h1 _ w) ?_
 try simp only [go_sem,s1.k,s1.r,s1.c,s1.p,s1.o,s1.f]
 refine BF ?_
 try simp only [go_sem,s1.k,s1.r,s1.c,s1.p,s1.o,s1.f]
 cases h
 simp only [go_sem,s1.k,s1.r,s1.c,s1.p,s1.o,s1.f]
theorem Ir (n:Nat):(∀ (a0:List Term) (u:Int) (f1:(Term→Option Bool)) (g1:FuncId) (c1:List AV) (s1:Still c1) (h1:∀ (y0:Term) (q:Bool),f1 y0=some q→AC Tryz.prog g1 (fnA c1 [.agg (Term.avs y0)]) (.bool q)) (r:Int),A8 n a0 u f1=some r→Af Tryz.prog Tryz.f155 [1,0,1,0] (.int .i64 r) ⟨[(0,.ro (a0.map Term.ds)),(1,.fn g1 c1),(7,.int .i64 (a0.length:Int)),(8,.int .i64 u)],[],[]⟩):=by
 induction n with
 |zero=>exact((fun _ _ _ _ _ _ _ _ h=>by rw [A8] at h; cases h))
 | succ n ih=>
  have ih0:=ih
  ·intro a0 u f1 g1 c1 s1 h1 r h
   rw [A8] at h
   refine AL rfl rfl ?_
   try simp only [go_sem,s1.k,s1.r,s1.c,s1.p,s1.o,s1.f]
   refine AT ?_
   try simp only [go_sem,s1.k,s1.r,s1.c,s1.p,s1.o,s1.f]
   refine AD h (fun h=>?_) (fun h=>?_)
   ·try simp only [go_sem,s1.k,s1.r,s1.c,s1.p,s1.o,s1.f]
    refine BF ?_
    try simp only [go_sem,s1.k,s1.r,s1.c,s1.p,s1.o,s1.f]
    replace h:=AB h; obtain⟨w,y,h⟩:=h
    refine AK y (Term.ds_len _) ?_
    try simp only [go_sem,s1.k,s1.r,s1.c,s1.p,s1.o,s1.f]
    replace h:=AB h; obtain⟨g,j,h⟩:=h
    refine AH (h1 _ _ j) ?_
    try simp only [go_sem,s1.k,s1.r,s1.c,s1.p,s1.o,s1.f]
    refine BF ?_
    try simp only [go_sem,s1.k,s1.r,s1.c,s1.p,s1.o,s1.f]
    refine AD h (fun h=>?_) (fun h=>?_)
    ·try simp only [go_sem,s1.k,s1.r,s1.c,s1.p,s1.o,s1.f]
     cases h
     simp only [go_sem,s1.k,s1.r,s1.c,s1.p,s1.o,s1.f]
    ·try simp only [go_sem,s1.k,s1.r,s1.c,s1.p,s1.o,s1.f]
     refine BF ?_
     try simp only [go_sem,s1.k,s1.r,s1.c,s1.p,s1.o,s1.f]
     refine Ne (C3 rfl rfl (ih0 a0 (IntKind.i64.wrap (u+1)) f1 g1 c1 s1 h1 _ h):) (.one ⟨_,.done _,[],[],?_⟩)
     try simp only [go_sem,s1.k,s1.r,s1.c,s1.p,s1.o,s1.f]
   ·try simp only [go_sem,s1.k,s1.r,s1.c,s1.p,s1.o,s1.f]
    refine BF ?_
    try simp only [go_sem,s1.k,s1.r,s1.c,s1.p,s1.o,s1.f]
    cases h
    simp only [go_sem,s1.k,s1.r,s1.c,s1.p,s1.o,s1.f]
theorem Jt (a0:List Term) (f1:(Term→Option Bool)) (g1:FuncId) (c1:List AV) (s1:Still c1) (h1:∀ (y0:Term) (q:Bool),f1 y0=some q→AC Tryz.prog g1 (fnA c1 [.agg (Term.avs y0)]) (.bool q)) (r:Int) (h:Cr a0 f1=some r):AC Tryz.prog 155 [.ro (a0.map Term.ds),.fn g1 c1] (.int .i64 r):=by
 unfold Cr at h
 refine acF Tryz.func155 mixed (h:=?_)
 try simp only [go_sem,s1.k,s1.r,s1.c,s1.p,s1.o,s1.f]
 refine D9 (C3 rfl rfl (Ir fuel a0 0 f1 g1 c1 s1 h1 _ h):) (.one ⟨_,.done _,[],[],?_⟩)
 try simp only [go_sem,s1.k,s1.r,s1.c,s1.p,s1.o,s1.f]
theorem Is (a0:List Term) (f1:(Term→Option Bool)) (g1:FuncId) (c1:List AV) (s1:Still c1) (h1:∀ (y0:Term) (q:Bool),f1 y0=some q→AC Tryz.prog g1 (fnA c1 [.agg (Term.avs y0)]) (.bool q)) (r:Bool) (h:CD a0 f1=some r):AC Tryz.prog 121 [.ro (a0.map Term.ds),.fn g1 c1] (.bool r):=by
 unfold CD at h
 refine acF Tryz.func121 mixed (h:=?_)
 try simp only [go_sem,s1.k,s1.r,s1.c,s1.p,s1.o,s1.f]
 replace h:=AB h; obtain⟨u,w,h⟩:=h
 refine AH (Jt _ _ g1 c1 s1 h1 _ w) ?_
 try simp only [go_sem,s1.k,s1.r,s1.c,s1.p,s1.o,s1.f]
 refine BF ?_
 try simp only [go_sem,s1.k,s1.r,s1.c,s1.p,s1.o,s1.f]
 cases h
 simp only [go_sem,s1.k,s1.r,s1.c,s1.p,s1.o,s1.f]
theorem RK (n:Nat):(∀ (a0:Term) (f1:(Term→Option Bool)) (g1:FuncId) (c1:List AV) (s1:Still c1) (h1:∀ (y0:Term) (q:Bool),f1 y0=some q→AC Tryz.prog g1 (fnA c1 [.agg (Term.avs y0)]) (.bool q)) (r:Bool),IX n a0 f1=some r→AC Tryz.prog 122 [.agg (Term.avs a0),.rop [.fn g1 c1] 0] (.bool r))∧
    (∀ (a0:Term) (f1:(Term→Option Bool)) (g1:FuncId) (c1:List AV) (s1:Still c1) (h1:∀ (y0:Term) (q:Bool),f1 y0=some q→AC Tryz.prog g1 (fnA c1 [.agg (Term.avs y0)]) (.bool q)) (r:Bool),GP n a0 f1=some r→AC Tryz.prog 74 [.agg (Term.avs a0),.fn g1 c1] (.bool r)):=by
 induction n with
 |zero=>exact⟨(fun _ _ _ _ _ _ _ h=>by rw [IX] at h; cases h),(fun _ _ _ _ _ _ _ h=>by rw [GP] at h; cases h)⟩
 | succ n ih=>
  obtain⟨ih0,ih1⟩:=ih
  refine⟨?_,?_⟩
  ·intro a0 f1 g1 c1 s1 h1 r h
   rw [IX] at h
   refine acF Tryz.func122 mixed (h:=?_)
   try simp only [go_sem,s1.k,s1.r,s1.c,s1.p,s1.o,s1.f]
   replace h:=AB h; obtain⟨u,w,h⟩:=h
   refine AH (ih1 _ _ g1 c1 s1 h1 _ w) ?_
   try simp only [go_sem,s1.k,s1.r,s1.c,s1.p,s1.o,s1.f]
   refine BF ?_
   try simp only [go_sem,s1.k,s1.r,s1.c,s1.p,s1.o,s1.f]
   cases h
   simp only [go_sem,s1.k,s1.r,s1.c,s1.p,s1.o,s1.f]
  ·intro a0 f1 g1 c1 s1 h1 r h
   rw [GP] at h
   refine acF Tryz.func74 mixed (h:=?_)
   try simp only [go_sem,s1.k,s1.r,s1.c,s1.p,s1.o,s1.f]
   replace h:=AB h; obtain⟨u,w,h⟩:=h
   refine AH (h1 _ _ w) ?_
   try simp only [go_sem,s1.k,s1.r,s1.c,s1.p,s1.o,s1.f]
   refine AD h (fun h=>?_) (fun h=>?_)
   ·try simp only [go_sem,s1.k,s1.r,s1.c,s1.p,s1.o,s1.f]
    refine BF ?_
    try simp only [go_sem,s1.k,s1.r,s1.c,s1.p,s1.o,s1.f]
    cases h
    simp only [go_sem,s1.k,s1.r,s1.c,s1.p,s1.o,s1.f]
   ·try simp only [go_sem,s1.k,s1.r,s1.c,s1.p,s1.o,s1.f]
    replace h:=AB h; obtain⟨y,g,h⟩:=h
    refine AH (Is _ _ 122 [.agg [],.rop [.fn g1 c1] 0] (Still.of (by simp only [Cl,Dl,Bool.and_true,Bool.true_and,Bool.and_self,s1.p])) (fun y0 q hq=>ih0 y0 _ g1 c1 s1 h1 q hq) _ g) ?_
    try simp only [go_sem,s1.k,s1.r,s1.c,s1.p,s1.o,s1.f]
    refine BF ?_
    try simp only [go_sem,s1.k,s1.r,s1.c,s1.p,s1.o,s1.f]
    cases h
    simp only [go_sem,s1.k,s1.r,s1.c,s1.p,s1.o,s1.f]
def PX (n:Nat):=(RK n).2
theorem Ju (n:Nat):(∀ (a0:List ByteArray) (u:Int) (f1:(ByteArray→Option Bool)) (g1:FuncId) (c1:List AV) (s1:Still c1) (h1:∀ (y0:ByteArray) (q:Bool),f1 y0=some q→AC Tryz.prog g1 (fnA c1 [.str y0]) (.bool q)) (r:Int),BN n a0 u f1=some r→Af Tryz.prog Tryz.f153 [1,0,1,0] (.int .i64 r) ⟨[(0,.ro (a0.map strD)),(1,.fn g1 c1),(7,.int .i64 (a0.length:Int)),(8,.int .i64 u)],[],[]⟩):=by
 induction n with
 |zero=>exact((fun _ _ _ _ _ _ _ _ h=>by rw [BN] at h; cases h))
 | succ n ih=>
  have ih0:=ih
  ·intro a0 u f1 g1 c1 s1 h1 r h
   rw [BN] at h
   refine AL rfl rfl ?_
   try simp only [go_sem,s1.k,s1.r,s1.c,s1.p,s1.o,s1.f]
   refine AT ?_
   try simp only [go_sem,s1.k,s1.r,s1.c,s1.p,s1.o,s1.f]
   refine AD h (fun h=>?_) (fun h=>?_)
   ·try simp only [go_sem,s1.k,s1.r,s1.c,s1.p,s1.o,s1.f]
    refine BF ?_
    try simp only [go_sem,s1.k,s1.r,s1.c,s1.p,s1.o,s1.f]
    replace h:=AB h; obtain⟨w,y,h⟩:=h
    refine AK y rfl ?_
    try simp only [go_sem,s1.k,s1.r,s1.c,s1.p,s1.o,s1.f]
    replace h:=AB h; obtain⟨g,j,h⟩:=h
    refine AH (h1 _ _ j) ?_
    try simp only [go_sem,s1.k,s1.r,s1.c,s1.p,s1.o,s1.f]
    refine BF ?_
    try simp only [go_sem,s1.k,s1.r,s1.c,s1.p,s1.o,s1.f]
    refine AD h (fun h=>?_) (fun h=>?_)
    ·try simp only [go_sem,s1.k,s1.r,s1.c,s1.p,s1.o,s1.f]
     cases h
     simp only [go_sem,s1.k,s1.r,s1.c,s1.p,s1.o,s1.f]
    ·try simp only [go_sem,s1.k,s1.r,s1.c,s1.p,s1.o,s1.f]
     refine BF ?_
     try simp only [go_sem,s1.k,s1.r,s1.c,s1.p,s1.o,s1.f]
     refine Ne (C3 rfl rfl (ih0 a0 (IntKind.i64.wrap (u+1)) f1 g1 c1 s1 h1 _ h):) (.one ⟨_,.done _,[],[],?_⟩)
     try simp only [go_sem,s1.k,s1.r,s1.c,s1.p,s1.o,s1.f]
   ·try simp only [go_sem,s1.k,s1.r,s1.c,s1.p,s1.o,s1.f]
    refine BF ?_
    try simp only [go_sem,s1.k,s1.r,s1.c,s1.p,s1.o,s1.f]
    cases h
    simp only [go_sem,s1.k,s1.r,s1.c,s1.p,s1.o,s1.f]
theorem Li (a0:List ByteArray) (f1:(ByteArray→Option Bool)) (g1:FuncId) (c1:List AV) (s1:Still c1) (h1:∀ (y0:ByteArray) (q:Bool),f1 y0=some q→AC Tryz.prog g1 (fnA c1 [.str y0]) (.bool q)) (r:Int) (h:Dh a0 f1=some r):AC Tryz.prog 153 [.ro (a0.map strD),.fn g1 c1] (.int .i64 r):=by
 unfold Dh at h
 refine acF Tryz.func153 mixed (h:=?_)
 try simp only [go_sem,s1.k,s1.r,s1.c,s1.p,s1.o,s1.f]
 refine D9 (C3 rfl rfl (Ju fuel a0 0 f1 g1 c1 s1 h1 _ h):) (.one ⟨_,.done _,[],[],?_⟩)
 try simp only [go_sem,s1.k,s1.r,s1.c,s1.p,s1.o,s1.f]
theorem Jv (a0:List ByteArray) (f1:(ByteArray→Option Bool)) (g1:FuncId) (c1:List AV) (s1:Still c1) (h1:∀ (y0:ByteArray) (q:Bool),f1 y0=some q→AC Tryz.prog g1 (fnA c1 [.str y0]) (.bool q)) (r:Bool) (h:Cs a0 f1=some r):AC Tryz.prog 116 [.ro (a0.map strD),.fn g1 c1] (.bool r):=by
 unfold Cs at h
 refine acF Tryz.func116 mixed (h:=?_)
 try simp only [go_sem,s1.k,s1.r,s1.c,s1.p,s1.o,s1.f]
 replace h:=AB h; obtain⟨u,w,h⟩:=h
 refine AH (Li _ _ g1 c1 s1 h1 _ w) ?_
 try simp only [go_sem,s1.k,s1.r,s1.c,s1.p,s1.o,s1.f]
 refine BF ?_
 try simp only [go_sem,s1.k,s1.r,s1.c,s1.p,s1.o,s1.f]
 cases h
 simp only [go_sem,s1.k,s1.r,s1.c,s1.p,s1.o,s1.f]
theorem Lj (n:Nat):(∀a0 u w r,BT n a0 u w=some r→Af Tryz.prog Tryz.f174 [1,1,1,1,0,1,0] (.ow (some 1) (r.map strD)) ⟨[(6,.own 1000002000),(25,.ro (List.map (slD strD) a0)),(26,.int .i64 (a0.length:Int)),(27,.int .i64 w)],[(1000002000,some ⟨List.map strD u,some 1,0,false⟩)],[]⟩):=by
 induction n with
 |zero=>exact((fun _ _ _ _ h=>by rw [BT] at h; cases h))
 | succ n ih=>
  have ih0:=ih
  ·intro a0 u w r h
   rw [BT] at h
   refine AL rfl rfl (Z ?_)
   refine AT (Z ?_)
   refine AD h (fun h=>Z ?_) (fun h=>Z ?_)
   ·refine AF ?_
    replace h:=AB h; obtain⟨y,q,h⟩:=h
    refine AK q rfl (Z ?_)
    replace h:=AB h; obtain⟨g,j,h⟩:=h
    have hq_:=Ca j
    obtain⟨hv14002a,hv14002b⟩:=hq_
    refine G9 false (Z ?_)
    refine Bl (HP (by intro x; exact⟨rfl,by simp [go_sem,D.flat]⟩) _) (Z ?_)
    refine Bl (by refine⟨?_,?_⟩ <;> (try simp only [List.length_map,List.length_append,List.length_cons,List.length_nil] at*) <;> (try unfold maxLen) <;> omega) (Z ?_)
    refine Av (g.map strD) (by rw [← hv14002b]; simp only [List.map_append,List.map_cons,List.map_nil,List.nil_append,List.append_nil,go_sem,slD]) (Z ?_)
    refine AF ?_
    exact lpF (ih0 a0 g (IntKind.i64.wrap (w+1)) _ h) [(1000002000,224032)] []
   ·refine AF ?_
    cases h
    simp only [go_sem]
theorem Lk (n:Nat):(∀a0 u w r,Bt n a0 u w=some r→Af Tryz.prog Tryz.f174 [1,1,0,1,0] (.ow (some 1) (r.map strD)) ⟨[(0,.ro (List.map (slD strD) a0)),(3,.int .i64 u),(9,.ro (List.map (slD strD) a0)),(10,.int .i64 (a0.length:Int)),(11,.int .i64 w)],[],[]⟩):=by
 induction n with
 |zero=>exact((fun _ _ _ _ h=>by rw [Bt] at h; cases h))
 | succ n ih=>
  have ih0:=ih
  ·intro a0 u w r h
   rw [Bt] at h
   refine AL rfl rfl (Z ?_)
   refine AT (Z ?_)
   refine AD h (fun h=>Z ?_) (fun h=>Z ?_)
   ·refine AF ?_
    replace h:=AB h; obtain⟨y,q,h⟩:=h
    refine AK q rfl (Z ?_)
    refine AD h (fun h=>Z ?_) (fun h=>Z ?_)
    ·cases h
    ·refine AF ?_
     exact lpF (ih0 a0 (IntKind.i64.wrap (u+(y.length:Int))) (IntKind.i64.wrap (w+1)) _ h) [] []
   ·refine AF ?_
    replace h:=AB h; obtain⟨g,j,h⟩:=h
    refine caG ⟨[(3000160016,.nils,some 1)],[(1001,3000160016)],[],[(1501,160016)],[],true⟩ (O4 _ _ _ j) (Z ?_)
    refine AF ?_
    exact loF (Lj fuel a0 g 0 _ h) [(1000002000,160016)] []
theorem NS (a0 r) (h:Et a0=some r):AC Tryz.prog 174 [.ro (List.map (slD strD) a0)] (.ow (some 1) (r.map strD)):=by
 unfold Et at h
 refine acF Tryz.func174 mixed (h:=Z ?_)
 exact loF (Lk fuel a0 0 0 _ h) [] []
theorem GF (a0:Term) (u:Bool) (r:(List ByteArray)) (h:EQ a0 u=some r):EM Tryz.prog Tryz.f175 [1,0,0,1] (.ro (r.map strD)) [] [] ⟨[(2,.box 1000000500 0),(5,.bool u)],[],[(1000000500,some [.int .i64 a0.kind,.int .i64 a0.num,.str a0.name,.int .i64 a0.typ.kind,.str a0.typ.name,.ro (a0.typ.kids.map TType.ds),.ro (a0.names.map strD),.ro (a0.kids.map Term.ds)])]⟩:=by
 unfold EQ at h
 refine BI rfl rfl (Z ?_)
 refine AD h (fun h=>Z ?_) (fun h=>Z ?_)
 ·refine AF ?_
  cases h
  refine Aj (.frzB 3002 [(0,[])] [] _ _ _ (by (first|rfl|(simp only [go_sem]; rfl))) (by decide) (by rfl) (by (first|rfl|(simp only [go_sem]; rfl))) (by (first|rfl|(simp only [go_sem]; rfl))) (.done _)) [] [] ?_
  simp only [go_sem]
  all_goals try rfl
 ·refine AD h (fun h=>Z ?_) (fun h=>Z ?_)
  ·cases h
   refine Aj (.done _) [] [] ?_
   simp only [go_sem]
  ·refine AF ?_
   cases h
   refine Aj (.frzN [(0,[])] [] _ _ (by (first|rfl|(simp only [go_sem]; rfl))) (by (first|rfl|(simp only [go_sem]; rfl))) (.done _)) [] [] ?_
   simp only [go_sem]
   all_goals try rfl
theorem PY (a0 a1 r) (h:HY a0 a1=some r):AG Tryz.prog 175 [.agg [.int .i64 a0.kind,.int .i64 a0.num,.str a0.name,.int .i64 a0.typ.kind,.str a0.typ.name,.ro (a0.typ.kids.map TType.ds),.ro (a0.names.map strD),.ro (a0.kids.map Term.ds)],.int .i64 a1] [] [] (.ro (r.map strD)) [] [] :=by
 unfold HY at h
 refine agF Tryz.func175 mixed (h:=Z ?_)
 refine AD h (fun h=>Z ?_) (fun h=>Z ?_)
 ·exact Aq (GF a0 true _ h) [] [(1000000500,1000)]
 ·refine AD h (fun h=>Z ?_) (fun h=>Z ?_)
  ·exact Aq (GF a0 (decide (a1=1)) _ h) [] [(1000000500,1000)]
  ·exact Aq (GF a0 false _ h) [] [(1000000500,1000)]
theorem Tg (n:Nat):(∀a0 a1 a2 r,HH n a0 a1 a2=some r→AG Tryz.prog 154 [.agg [.int .i64 a0.kind,.int .i64 a0.num,.str a0.name,.int .i64 a0.typ.kind,.str a0.typ.name,.ro (a0.typ.kids.map TType.ds),.ro (a0.names.map strD),.ro (a0.kids.map Term.ds)],.ro (a1.map strD),.own 1001] [(1001,⟨List.map strD a2,some 1,0,false⟩)] [] (.own 1501) [(1501,⟨List.map strD r,some 1,0,false⟩)] [])∧
    (∀a0 a1 a2 u r,FH n a0 a1 a2 u=some r→EM Tryz.prog Tryz.f154 [1,0,1] (.own 1501) [(1501,⟨List.map strD r,some 1,0,false⟩)] [] ⟨[(1,.ro (a1.map strD)),(2,.own 1000000000),(3,.box 1000000500 0),(25,.bool u)],[(1000000000,some ⟨List.map strD a2,some 1,0,false⟩)],[(1000000500,some [.int .i64 a0.kind,.int .i64 a0.num,.str a0.name,.int .i64 a0.typ.kind,.str a0.typ.name,.ro (a0.typ.kids.map TType.ds),.ro (a0.names.map strD),.ro (a0.kids.map Term.ds)])]⟩)∧
    (∀a0 a1 w y r,CU n a0 a1 w y=some r→EM Tryz.prog Tryz.f154 [1,1,0,1,0] (.own 1501) [(1501,⟨List.map strD r,some 1,0,false⟩)] [] ⟨[(1,.ro (a1.map strD)),(2,.own 1000002000),(3,.box 1000002500 0),(32,.ro (a0.kids.map Term.ds)),(33,.int .i64 (a0.kids.length:Int)),(34,.int .i64 y)],[(1000002000,some ⟨List.map strD w,some 1,0,false⟩)],[(1000002500,some [.int .i64 a0.kind,.int .i64 a0.num,.str a0.name,.int .i64 a0.typ.kind,.str a0.typ.name,.ro (a0.typ.kids.map TType.ds),.ro (a0.names.map strD),.ro (a0.kids.map Term.ds)])]⟩):=by
 induction n with
 |zero=>exact⟨(fun _ _ _ _ h=>by rw [HH] at h; cases h),(fun _ _ _ _ _ h=>by rw [FH] at h; cases h),(fun _ _ _ _ _ h=>by rw [CU] at h; cases h)⟩
 | succ n ih=>
  obtain⟨ih0,ih1,ih2⟩:=ih
  refine⟨?_,?_,?_⟩
  ·intro a0 a1 a2 r h
   rw [HH] at h
   refine agF Tryz.func154 mixed (h:=Z ?_)
   refine AD h (fun h=>Z ?_) (fun h=>Z ?_)
   ·replace h:=AB h; obtain⟨q,g,h⟩:=h
    refine AH (EA _ _ _ g) (Z ?_)
    refine AD h (fun h=>Z ?_) (fun h=>Z ?_)
    ·replace h:=AB h; obtain⟨j,k,h⟩:=h
     refine AH (EA _ _ _ k) (Z ?_)
     exact Aq (ih1 a0 a1 a2 (!j) _ h) [(1000000000,1001)] [(1000000500,1000)]
    ·exact Aq (ih1 a0 a1 a2 false _ h) [(1000000000,1001)] [(1000000500,1000)]
   ·exact Aq (ih1 a0 a1 a2 false _ h) [(1000000000,1001)] [(1000000500,1000)]
  ·intro a0 a1 a2 u r h
   rw [FH] at h
   refine BI rfl rfl (Z ?_)
   refine AD h (fun h=>Z ?_) (fun h=>Z ?_)
   ·replace h:=AB h; obtain⟨b,d,h⟩:=h
    have hq_:=Ca d
    obtain⟨hv3004a,hv3004b⟩:=hq_
    refine G9 false (Z ?_)
    refine Bl (by refine⟨?_,?_⟩ <;> (try simp only [List.length_map,List.length_append,List.length_cons,List.length_nil] at*) <;> (try unfold maxLen) <;> omega) (Z ?_)
    refine Av (b.map strD) (by rw [← hv3004b]; simp only [List.map_append,List.map_cons,List.map_nil,List.nil_append,List.append_nil,go_sem,slD]) (Z ?_)
    refine AF ?_
    cases h
    refine Aj (.done _) [(1501,48064)] [] ?_
    simp only [go_sem]
   ·refine AF ?_
    exact loG (ih2 a0 a1 a2 0 _ h) [(1000002000,1000000000)] [(1000002500,1000000500)]
  ·intro a0 a1 w y r h
   rw [CU] at h
   refine BI rfl rfl (Z ?_)
   refine AT (Z ?_)
   refine AD h (fun h=>Z ?_) (fun h=>Z ?_)
   ·refine AF ?_
    replace h:=AB h; obtain⟨c,e,h⟩:=h
    refine AK e (Term.ds_len _) (Z ?_)
    refine AF ?_
    refine AW [false,false,false,false,false,false,false,false,true,true] (Tr.sq [8,9] .fin) (by kernel_rfl) (Z ?_)
    replace h:=AB h; obtain⟨i,l,h⟩:=h
    refine Ak (PY _ _ _ l) (by (first|rfl|(simp only [go_sem]; rfl))) (by first|rfl|(simp only [go_sem])) (Z ?_)
    replace h:=AB h; obtain⟨t,s,h⟩:=h
    refine AH (NS _ _ s) (Z ?_)
    replace h:=AB h; obtain⟨o,z,h⟩:=h
    refine caG ⟨[],[(1001,1000002000)],[],[(1501,112128)],[],false⟩ (ih0 _ _ _ _ z) (Z ?_)
    refine AF ?_
    exact lpG (ih2 a0 a1 o (IntKind.i64.wrap (y+1)) _ h) [(1000002000,112128)] [(1000002500,1000002500)]
   ·refine AF ?_
    cases h
    refine Aj (.done _) [(1501,1000002000)] [] ?_
    simp only [go_sem]
def VW (n:Nat):=(Tg n).1
theorem TC (a0 r) (h:J3 a0=some r):AC Tryz.prog 117 [.agg (Term.avs a0)] (.ow (some 1) (r.map strD)):=by
 unfold J3 at h
 refine acF Tryz.func117 mixed (h:=Z ?_)
 replace h:=AB h; obtain⟨u,w,h⟩:=h
 refine caG ⟨[(3000032016,.nils,some 1)],[(1001,3000032016)],[],[(1501,32016)],[],true⟩ (VW fuel _ _ _ _ w) (Z ?_)
 refine AF ?_
 cases h
 simp only [go_sem]
theorem Jm (a0 a1 r) (h:DZ a0 a1=some r):AC Tryz.prog 118 [.str a0,.rop (TProgram.avs a1) 0] (.bool r):=by
 unfold DZ at h
 refine acF Tryz.func118 mixed (h:=Z ?_)
 replace h:=AB h; obtain⟨u,w,h⟩:=h
 refine AH (GD _ _ _ w) (Z ?_)
 refine AF ?_
 cases h
 simp only [go_sem]
theorem KS (n:Nat):(∀a0 a1 u r,Aw n a0 a1 u=some r→Af Tryz.prog Tryz.f120 [1,0,1,0] (.tup [.int .i64 r.1,.int .i64 r.2]) ⟨[(1,.str a1),(10,.ro (a0.map Data.ds)),(11,.int .i64 (a0.length:Int)),(12,.int .i64 u)],[],[]⟩)∧
    (∀a0 a1 u w y r,BO n a0 a1 u w y=some r→Af Tryz.prog Tryz.f120 [1,0,1,0,0,1,1,0,0,1,1,0] (.tup [.int .i64 r.1,.int .i64 r.2]) ⟨[(1,.str a1),(6,.int .i64 u),(10,.ro (a0.map Data.ds)),(11,.int .i64 (a0.length:Int)),(12,.int .i64 u),(18,.ro (w.cons.map Constructor.ds)),(19,.int .i64 (w.cons.length:Int)),(20,.int .i64 y)],[],[]⟩):=by
 induction n with
 |zero=>exact⟨(fun _ _ _ _ h=>by rw [Aw] at h; cases h),(fun _ _ _ _ _ _ h=>by rw [BO] at h; cases h)⟩
 | succ n ih=>
  obtain⟨ih0,ih1⟩:=ih
  refine⟨?_,?_⟩
  ·intro a0 a1 u r h
   rw [Aw] at h
   refine AL rfl rfl (Z ?_)
   refine AT (Z ?_)
   refine AD h (fun h=>Z ?_) (fun h=>Z ?_)
   ·refine AF ?_
    replace h:=AB h; obtain⟨w,q,h⟩:=h
    refine AK q (Data.ds_len _) (Z ?_)
    refine AF ?_
    exact loF (ih1 a0 a1 u w 0 _ h) [] []
   ·refine AF ?_
    cases h
    simp only [go_sem]
  ·intro a0 a1 u w y r h
   rw [BO] at h
   refine AL rfl rfl (Z ?_)
   refine AT (Z ?_)
   refine AD h (fun h=>Z ?_) (fun h=>Z ?_)
   ·refine AF ?_
    replace h:=AB h; obtain⟨g,j,h⟩:=h
    refine AK j (Constructor.ds_len _) (Z ?_)
    refine AF ?_
    refine AD h (fun h=>Z ?_) (fun h=>Z ?_)
    ·cases h
     simp only [go_sem]
    ·refine AF ?_
     exact lpF (ih1 a0 a1 u w (IntKind.i64.wrap (y+1)) _ h) [] []
   ·refine AF ?_
    exact lpF (ih0 a0 a1 (IntKind.i64.wrap (u+1)) _ h) [] []
def K8 (n:Nat):=(KS n).1
theorem DW (a0 a1 r) (h:BZ a0 a1=some r):AC Tryz.prog 120 [.ro (a0.map Data.ds),.str a1] (.tup [.int .i64 r.1,.int .i64 r.2]):=by
 unfold BZ at h
 refine acF Tryz.func120 mixed (h:=Z ?_)
 exact loF (K8 fuel a0 a1 0 _ h) [] []
theorem FB (a0:Term) (a1:TProgram) (u:Bool) (r:Bool) (h:B4 a0 a1 u=some r):Af Tryz.prog Tryz.f119 [1,0,1,0,1,1,1] (.bool r) ⟨[(1,.rop [.ro (a1.datas.map Data.ds),.ro (a1.defs.map Def.ds)] 0),(2,.box 1000000500 0),(16,.bool u)],[],[(1000000500,some [.int .i64 a0.kind,.int .i64 a0.num,.str a0.name,.int .i64 a0.typ.kind,.str a0.typ.name,.ro (a0.typ.kids.map TType.ds),.ro (a0.names.map strD),.ro (a0.kids.map Term.ds)])]⟩:=by
 unfold B4 at h
 refine AL rfl rfl (Z ?_)
 refine AD h (fun h=>Z ?_) (fun h=>Z ?_)
 ·replace h:=AB h; obtain⟨w,y,h⟩:=h
  refine AH (DW _ _ _ y) (Z ?_)
  refine AF ?_
  cases h
  simp only [go_sem]
 ·refine AF ?_
  cases h
  simp only [go_sem]
theorem Jn (a0 a1 r) (h:Da a0 a1=some r):AC Tryz.prog 119 [.agg (Term.avs a0),.rop (TProgram.avs a1) 0] (.bool r):=by
 unfold Da at h
 refine acF Tryz.func119 mixed (h:=Z ?_)
 refine AD h (fun h=>Z ?_) (fun h=>Z ?_)
 ·replace h:=AB h; obtain⟨u,w,h⟩:=h
  refine AH (KQ fuel _ _ _ w) (Z ?_)
  refine AF ?_
  cases h
  simp only [go_sem]
 ·refine AD h (fun h=>Z ?_) (fun h=>Z ?_)
  ·exact AU (FB a0 a1 (decide (a0.kind=8)) _ h) [] [(1000000500,1000)]
  ·exact AU (FB a0 a1 (decide (a0.kind=10)) _ h) [] [(1000000500,1000)]
theorem Fl (a0:TProgram) (a1:Def) (u:Bool) (r:Bool) (h:CN a0 a1 u=some r):Af Tryz.prog Tryz.f72 [1,0,1] (.bool r) ⟨[(2,.box 1000000500 0),(3,.box 1000000501 0),(17,.bool u)],[],[(1000000500,some [.ro (a0.datas.map Data.ds),.ro (a0.defs.map Def.ds)]),(1000000501,some [.str a1.name,.int .i64 a1.typ.kind,.str a1.typ.name,.ro (a1.typ.kids.map TType.ds),.int .i64 a1.body.kind,.int .i64 a1.body.num,.str a1.body.name,.int .i64 a1.body.typ.kind,.str a1.body.typ.name,.ro (a1.body.typ.kids.map TType.ds),.ro (a1.body.names.map strD),.ro (a1.body.kids.map Term.ds)])]⟩:=by
 unfold CN at h
 refine AL rfl rfl (Z ?_)
 refine AD h (fun h=>Z ?_) (fun h=>Z ?_)
 ·cases h
  simp only [go_sem]
 ·refine AF ?_
  replace h:=AB h; obtain⟨w,y,h⟩:=h
  refine AH (PX fuel _ _ 119 [.agg [],.rop [.ro (a0.datas.map Data.ds),.ro (a0.defs.map Def.ds)] 0] (Still.of (by simp only [Cl,Dl,Bool.and_true,Bool.true_and,Bool.and_self])) (fun y0 q hq=>Jn y0 _ q hq) _ y) (Z ?_)
  refine AF ?_
  cases h
  simp only [go_sem]
theorem KU (a0 a1 r) (h:C6 a0 a1=some r):AC Tryz.prog 72 [.agg (TProgram.avs a0),.agg (Def.avs a1)] (.bool r):=by
 unfold C6 at h
 refine acF Tryz.func72 mixed (h:=Z ?_)
 replace h:=AB h; obtain⟨u,w,h⟩:=h
 refine AH (KQ fuel _ _ _ w) (Z ?_)
 refine AD h (fun h=>Z ?_) (fun h=>Z ?_)
 ·exact AU (Fl a0 a1 true _ h) [] [(1000000500,1000),(1000000501,1001)]
 ·replace h:=AB h; obtain⟨y,g,h⟩:=h
  refine AH (TC _ _ g) (Z ?_)
  replace h:=AB h; obtain⟨j,k,h⟩:=h
  refine AH (Jv _ _ 118 [.agg [],.rop [.ro (a0.datas.map Data.ds),.ro (a0.defs.map Def.ds)] 0] (Still.of (by simp only [Cl,Dl,Bool.and_true,Bool.true_and,Bool.and_self])) (fun y0 q hq=>Jm y0 _ q hq) _ k) (Z ?_)
  exact AU (Fl a0 a1 j _ h) [] [(1000000500,1000),(1000000501,1001)]
theorem It (n:Nat):(∀ (a0:List Term) (a1:List Constructor) (u:Int) (f2:(Term→Constructor→Option Bool)) (g2:FuncId) (c2:List AV) (s2:Still c2) (h2:∀ (y0:Term) (y1:Constructor) (q:Bool),f2 y0 y1=some q→AC Tryz.prog g2 (fnA c2 [.agg (Term.avs y0),.agg (Constructor.avs y1)]) (.bool q)) (r:Bool),Ag n a0 a1 u f2=some r→Af Tryz.prog Tryz.f156 [1,1,0,1,0] (.bool r) ⟨[(1,.ro (a1.map Constructor.ds)),(2,.fn g2 c2),(15,.ro (a0.map Term.ds)),(16,.int .i64 (a0.length:Int)),(17,.int .i64 u)],[],[]⟩):=by
 induction n with
 |zero=>exact((fun _ _ _ _ _ _ _ _ _ h=>by rw [Ag] at h; cases h))
 | succ n ih=>
  have ih0:=ih
  ·intro a0 a1 u f2 g2 c2 s2 h2 r h
   rw [Ag] at h
   refine AL rfl rfl ?_
   try simp only [go_sem,s2.k,s2.r,s2.c,s2.p,s2.o,s2.f]
   refine AT ?_
   try simp only [go_sem,s2.k,s2.r,s2.c,s2.p,s2.o,s2.f]
   refine AD h (fun h=>?_) (fun h=>?_)
   ·try simp only [go_sem,s2.k,s2.r,s2.c,s2.p,s2.o,s2.f]
    refine BF ?_
    try simp only [go_sem,s2.k,s2.r,s2.c,s2.p,s2.o,s2.f]
    replace h:=AB h; obtain⟨w,y,h⟩:=h
    refine AK y (Term.ds_len _) ?_
    try simp only [go_sem,s2.k,s2.r,s2.c,s2.p,s2.o,s2.f]
    refine BF ?_
    try simp only [go_sem,s2.k,s2.r,s2.c,s2.p,s2.o,s2.f]
    replace h:=AB h; obtain⟨g,j,h⟩:=h
    refine AK j (Constructor.ds_len _) ?_
    try simp only [go_sem,s2.k,s2.r,s2.c,s2.p,s2.o,s2.f]
    refine BF ?_
    try simp only [go_sem,s2.k,s2.r,s2.c,s2.p,s2.o,s2.f]
    replace h:=AB h; obtain⟨b,d,h⟩:=h
    refine AH (h2 _ _ _ d) ?_
    try simp only [go_sem,s2.k,s2.r,s2.c,s2.p,s2.o,s2.f]
    refine BF ?_
    try simp only [go_sem,s2.k,s2.r,s2.c,s2.p,s2.o,s2.f]
    refine AD h (fun h=>?_) (fun h=>?_)
    ·try simp only [go_sem,s2.k,s2.r,s2.c,s2.p,s2.o,s2.f]
     cases h
     simp only [go_sem,s2.k,s2.r,s2.c,s2.p,s2.o,s2.f]
    ·try simp only [go_sem,s2.k,s2.r,s2.c,s2.p,s2.o,s2.f]
     refine BF ?_
     try simp only [go_sem,s2.k,s2.r,s2.c,s2.p,s2.o,s2.f]
     refine Ne (C3 rfl rfl (ih0 a0 a1 (IntKind.i64.wrap (u+1)) f2 g2 c2 s2 h2 _ h):) (.one ⟨_,.done _,[],[],?_⟩)
     try simp only [go_sem,s2.k,s2.r,s2.c,s2.p,s2.o,s2.f]
   ·try simp only [go_sem,s2.k,s2.r,s2.c,s2.p,s2.o,s2.f]
    refine BF ?_
    try simp only [go_sem,s2.k,s2.r,s2.c,s2.p,s2.o,s2.f]
    cases h
    simp only [go_sem,s2.k,s2.r,s2.c,s2.p,s2.o,s2.f]
theorem Jw (a0:List Term) (a1:List Constructor) (f2:(Term→Constructor→Option Bool)) (g2:FuncId) (c2:List AV) (s2:Still c2) (h2:∀ (y0:Term) (y1:Constructor) (q:Bool),f2 y0 y1=some q→AC Tryz.prog g2 (fnA c2 [.agg (Term.avs y0),.agg (Constructor.avs y1)]) (.bool q)) (r:Bool) (h:Dj a0 a1 f2=some r):AC Tryz.prog 156 [.ro (a0.map Term.ds),.ro (a1.map Constructor.ds),.fn g2 c2] (.bool r):=by
 unfold Dj at h
 refine acF Tryz.func156 mixed (h:=?_)
 try simp only [go_sem,s2.k,s2.r,s2.c,s2.p,s2.o,s2.f]
 refine AD h (fun h=>?_) (fun h=>?_)
 ·try simp only [go_sem,s2.k,s2.r,s2.c,s2.p,s2.o,s2.f]
  cases h
  simp only [go_sem,s2.k,s2.r,s2.c,s2.p,s2.o,s2.f]
 ·try simp only [go_sem,s2.k,s2.r,s2.c,s2.p,s2.o,s2.f]
  refine BF ?_
  try simp only [go_sem,s2.k,s2.r,s2.c,s2.p,s2.o,s2.f]
  refine D9 (C3 rfl rfl (It fuel a0 a1 0 f2 g2 c2 s2 h2 _ h):) (.one ⟨_,.done _,[],[],?_⟩)
  try simp only [go_sem,s2.k,s2.r,s2.c,s2.p,s2.o,s2.f]
theorem Jy (a0 a1 r) (h:CB a0 a1=some r):AC Tryz.prog 157 [.agg (Term.avs a0),.agg (Constructor.avs a1)] (.bool r):=by
 unfold CB at h
 refine acF Tryz.func157 mixed (h:=Z ?_)
 refine AD h (fun h=>Z ?_) (fun h=>Z ?_)
 ·refine AF ?_
  cases h
  simp only [go_sem]
 ·refine AF ?_
  cases h
  simp only [go_sem]
theorem K9 (a0 a1 r) (h:ER a0 a1=some r):AC Tryz.prog 123 [.agg (TProgram.avs a0),.ro (a1.map Term.ds)] (.bool r):=by
 unfold ER at h
 refine acF Tryz.func123 mixed (h:=Z ?_)
 refine AW [] .fin (by kernel_rfl) (Z ?_)
 replace h:=AB h; obtain⟨u,w,h⟩:=h
 refine AK w (Term.ds_len _) (Z ?_)
 replace h:=AB h; obtain⟨y,g,h⟩:=h
 refine AH (DW _ _ _ g) (Z ?_)
 refine AF ?_
 replace h:=AB h; obtain⟨j,k,h⟩:=h
 refine AK k (Data.ds_len _) (Z ?_)
 replace h:=AB h; obtain⟨b,d,h⟩:=h
 refine AH (Jw _ _ _ 157 [] (Still.of rfl) (fun y0 y1 q hq=>Jy y0 y1  q hq) _ d) (Z ?_)
 refine AF ?_
 cases h
 simp only [go_sem]
theorem LA (a0 a1 r) (h:DO a0 a1=some r):AC Tryz.prog 75 [.agg (TProgram.avs a0),.agg (Term.avs a1)] (.bool r):=by
 unfold DO at h
 refine acF Tryz.func75 mixed (h:=Z ?_)
 refine AD h (fun h=>Z ?_) (fun h=>Z ?_)
 ·replace h:=AB h; obtain⟨u,w,h⟩:=h
  refine AH (DW _ _ _ w) (Z ?_)
  refine AF ?_
  refine AW [] .fin (by kernel_rfl) (Z ?_)
  replace h:=AB h; obtain⟨y,q,h⟩:=h
  refine AK q (Data.ds_len _) (Z ?_)
  replace h:=AB h; obtain⟨g,j,h⟩:=h
  refine AK j (Constructor.ds_len _) (Z ?_)
  refine AF ?_
  cases h
  simp only [go_sem]
 ·refine AD h (fun h=>Z ?_) (fun h=>Z ?_)
  ·refine AW [] .fin (by kernel_rfl) (Z ?_)
   replace h:=AB h; obtain⟨k,b,h⟩:=h
   refine Bl (IP (by intro x; exact(Term.ds_len _)) _) (Z ?_)
   refine Ai (O3 b) (Z ?_)
   replace h:=AB h; obtain⟨d,c,h⟩:=h
   refine AH (K9 _ _ _ c) (Z ?_)
   refine AF ?_
   cases h
   simp only [go_sem]
  ·refine AF ?_
   cases h
   simp only [go_sem]
theorem PZ (a0 a1 r) (h:HZ a0 a1=some r):AC Tryz.prog 73 [.agg (Def.avs a0),.rop (TProgram.avs a1) 0] (.bool r):=by
 unfold HZ at h
 refine acF Tryz.func73 mixed (h:=Z ?_)
 replace h:=AB h; obtain⟨u,w,h⟩:=h
 refine AH (PX fuel _ _ 75 [.agg [.agg [.ro (a1.datas.map Data.ds),.ro (a1.defs.map Def.ds)]]] (Still.of (by simp only [Cl,Dl,Bool.and_true,Bool.true_and,Bool.and_self])) (fun y0 q hq=>LA _ y0  q hq) _ w) (Z ?_)
 refine AF ?_
 cases h
 simp only [go_sem]
theorem Lu (a0 r) (h:GQ a0=some r):AC Tryz.prog 33 [.agg (TProgram.avs a0)] (.int .i64 r):=by
 unfold GQ at h
 refine acF Tryz.func33 mixed (h:=Z ?_)
 replace h:=AB h; obtain⟨u,w,h⟩:=h
 refine AH (PW _ _ w) (Z ?_)
 refine AF ?_
 refine AD h (fun h=>Z ?_) (fun h=>Z ?_)
 ·cases h
  simp only [go_sem]
 ·replace h:=AB h; obtain⟨y,g,h⟩:=h
  refine AH (Fk _ _ 72 [.agg [.agg [.ro (a0.datas.map Data.ds),.ro (a0.defs.map Def.ds)]]] (Still.of (by simp only [Cl,Dl,Bool.and_true,Bool.true_and,Bool.and_self])) (fun y0 q hq=>KU _ y0  q hq) _ g) (Z ?_)
  refine AF ?_
  refine AD h (fun h=>Z ?_) (fun h=>Z ?_)
  ·cases h
   simp only [go_sem]
  ·replace h:=AB h; obtain⟨j,k,h⟩:=h
   refine AH (Fk _ _ 73 [.agg [],.rop [.ro (a0.datas.map Data.ds),.ro (a0.defs.map Def.ds)] 0] (Still.of (by simp only [Cl,Dl,Bool.and_true,Bool.true_and,Bool.and_self])) (fun y0 q hq=>PZ y0 _ q hq) _ k) (Z ?_)
   refine AF ?_
   refine AD h (fun h=>Z ?_) (fun h=>Z ?_)
   ·cases h
    simp only [go_sem]
   ·refine AF ?_
    cases h
    simp only [go_sem]
end Go.Proofs.YtnfgeocnolheoaaGreat.Ab
