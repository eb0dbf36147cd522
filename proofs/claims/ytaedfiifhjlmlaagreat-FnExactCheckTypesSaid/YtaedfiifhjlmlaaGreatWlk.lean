/-
 The functions do what their models say. Printed by wip/ab/gen.py.
-/
import Derived.Test.YtaedfiifhjlmlaaGreatMod
import Derived.Test.YtaedfiifhjlmlaaGreatTi2
import Derived.Test.YtaedfiifhjlmlaaGreatGrS
namespace Go.Proofs.YtaedfiifhjlmlaaGreat.Ab
set_option linter.defProp false
set_option linter.unusedVariables false
set_option linter.unusedSimpArgs false
set_option maxRecDepth 20000
set_option maxHeartbeats 4000000
open Go.RowKit
theorem IL (a0 a1 a2 r) (h:HW a0 a1 a2=some r):AC Tryz.prog 30 [.int .i64 a0,.int .i64 a1,.int .i64 a2] (.bool r):=by
 unfold HW at h
 refine acF Tryz.func30 mixed (h:=Z ?_)
 refine AB h (fun h=>Z ?_) (fun h=>Z ?_)
 ·refine AF ?_
  cases h
  simp only [go_sem]
 ·refine AF ?_
  cases h
  simp only [go_sem]
theorem ON (n:Nat):(∀a0 a1 u r,C6 n a0 a1 u=some r→AY Tryz.prog Tryz.f56 [1,0,1,0] (.int .i64 r) ⟨[(0,.ro (a0.map Def.ds)),(1,.str a1),(5,.int .i64 u)],[],[]⟩):=by
 induction n with
 |zero=>exact((fun _ _ _ _ h=>by rw [C6] at h; cases h))
 | succ n ih=>
  have ih0:=ih
  ·intro a0 a1 u r h
   rw [C6] at h
   refine AK rfl rfl (Z ?_)
   refine AS (Z ?_)
   refine AB h (fun h=>Z ?_) (fun h=>Z ?_)
   ·refine AF ?_
    replace h:=AD h; obtain⟨w,y,h⟩:=h
    refine AL y (Def.ds_len _) (Z ?_)
    refine AB h (fun h=>Z ?_) (fun h=>Z ?_)
    ·cases h
     simp only [go_sem]
    ·refine AF ?_
     exact lpF (ih0 a0 a1 (IntKind.i64.wrap (u+1)) _ h) [] []
   ·refine AF ?_
    cases h
    simp only [go_sem]
theorem Iy (a0 a1 r) (h:Fw a0 a1=some r):AC Tryz.prog 56 [.ro (a0.map Def.ds),.str a1] (.int .i64 r):=by
 unfold Fw at h
 refine acF Tryz.func56 mixed (h:=Z ?_)
 exact loF (ON fuel a0 a1 0 _ h) [] []
theorem OO (n:Nat):(∀a0 a1 u r,C7 n a0 a1 u=some r→AY Tryz.prog Tryz.f107 [1,0,1,0] (.int .i64 r) ⟨[(0,.ro (a0.map Data.ds)),(1,.str a1),(5,.int .i64 u)],[],[]⟩):=by
 induction n with
 |zero=>exact((fun _ _ _ _ h=>by rw [C7] at h; cases h))
 | succ n ih=>
  have ih0:=ih
  ·intro a0 a1 u r h
   rw [C7] at h
   refine AK rfl rfl (Z ?_)
   refine AS (Z ?_)
   refine AB h (fun h=>Z ?_) (fun h=>Z ?_)
   ·refine AF ?_
    replace h:=AD h; obtain⟨w,y,h⟩:=h
    refine AL y (Data.ds_len _) (Z ?_)
    refine AB h (fun h=>Z ?_) (fun h=>Z ?_)
    ·cases h
     simp only [go_sem]
    ·refine AF ?_
     exact lpF (ih0 a0 a1 (IntKind.i64.wrap (u+1)) _ h) [] []
   ·refine AF ?_
    cases h
    simp only [go_sem]
theorem L7 (a0 a1 r) (h:Gg a0 a1=some r):AC Tryz.prog 107 [.ro (a0.map Data.ds),.str a1] (.int .i64 r):=by
 unfold Gg at h
 refine acF Tryz.func107 mixed (h:=Z ?_)
 exact loF (OO fuel a0 a1 0 _ h) [] []
theorem LB (a0 r) (h:F4 a0=some r):AC Tryz.prog 159 [.int .u8 a0] (.bool r):=by
 unfold F4 at h
 refine acF Tryz.func159 mixed (h:=Z ?_)
 refine AB h (fun h=>Z ?_) (fun h=>Z ?_)
 ·refine AB h (fun h=>Z ?_) (fun h=>Z ?_)
  ·refine AF ?_
   cases h
   simp only [go_sem]
  ·refine AB h (fun h=>Z ?_) (fun h=>Z ?_)
   ·refine AF ?_
    cases h
    simp only [go_sem]
   ·refine AF ?_
    cases h
    simp only [go_sem]
 ·refine AB h (fun h=>Z ?_) (fun h=>Z ?_)
  ·refine AF ?_
   cases h
   simp only [go_sem]
  ·refine AF ?_
   cases h
   simp only [go_sem]
theorem JZ  (r:(List ByteArray)) (h:Fe=some r):AG Tryz.prog 177 [] [] [] (.own 1501) [(1501,⟨List.map strD r,some 1,0,false⟩)] [] :=by
 unfold Fe at h
 refine agF Tryz.func177 mixed (h:=Z ?_)
 refine AF ?_
 cases h
 refine An (.lit 0 2000000000 2000 8 1 false [] _ _ (by (first|rfl|(simp only [go_sem]; rfl))) (by simp only [go_sem]; rfl) (by (first|rfl|(simp only [go_sem]; rfl))) (by (first|rfl|(simp only [go_sem]; rfl))) (by decide) (by decide) (by simp only [go_sem]) (.done _)) [(1501,2000000000)] [] ?_
 simp only [go_sem]
 all_goals try rfl
theorem NV (n:Nat):(∀a0 u r,CI n a0 u=some r→AY Tryz.prog Tryz.f160 [1,0,1,0] (.bool r) ⟨[(0,.str a0),(3,.int .i64 u)],[],[]⟩):=by
 induction n with
 |zero=>exact((fun _ _ _ h=>by rw [CI] at h; cases h))
 | succ n ih=>
  have ih0:=ih
  ·intro a0 u r h
   rw [CI] at h
   refine AK rfl rfl (Z ?_)
   refine AS (Z ?_)
   replace h:=AD h; obtain⟨w,y,h⟩:=h
   refine WU (JZ  _ y) (by (first|rfl|(simp only [go_sem]; rfl))) (Z ?_)
   refine AF ?_
   refine AB h (fun h=>Z ?_) (fun h=>Z ?_)
   ·refine AF ?_
    replace h:=AD h; obtain⟨q,g,h⟩:=h
    refine WU (JZ  _ g) (by (first|rfl|(simp only [go_sem]; rfl))) (Z ?_)
    replace h:=AD h; obtain⟨j,k,h⟩:=h
    refine AL k rfl (Z ?_)
    refine Bb (Cy k) (Z ?_)
    refine AF ?_
    refine AB h (fun h=>Z ?_) (fun h=>Z ?_)
    ·cases h
     simp only [go_sem]
    ·refine AF ?_
     exact lpF (ih0 a0 (IntKind.i64.wrap (u+1)) _ h) [] []
   ·refine AF ?_
    cases h
    simp only [go_sem]
theorem Qg (a0 r) (h:Gy a0=some r):AC Tryz.prog 160 [.str a0] (.bool r):=by
 unfold Gy at h
 refine acF Tryz.func160 mixed (h:=Z ?_)
 exact loF (NV fuel a0 0 _ h) [] []
theorem RC (a0 r) (h:IA a0=some r):AC Tryz.prog 161 [.int .u8 a0] (.bool r):=by
 unfold IA at h
 refine acF Tryz.func161 mixed (h:=Z ?_)
 refine AB h (fun h=>Z ?_) (fun h=>Z ?_)
 ·refine AF ?_
  cases h
  simp only [go_sem]
 ·refine AF ?_
  cases h
  simp only [go_sem]
theorem O5 (n:Nat):(∀a0 u r,Dc n a0 u=some r→AY Tryz.prog Tryz.f140 [1,1,0,1,0] (.bool r) ⟨[(0,.str a0),(3,.int .i64 u)],[],[]⟩)∧
    (∀a0 u w r,Ex n a0 u w=some r→AY Tryz.prog Tryz.f140 [1,1,0,1,0,0,1,0,0,1] (.bool r) ⟨[(0,.str a0),(3,.int .i64 u),(39,.bool w)],[],[]⟩):=by
 induction n with
 |zero=>exact⟨(fun _ _ _ h=>by rw [Dc] at h; cases h),(fun _ _ _ _ h=>by rw [Ex] at h; cases h)⟩
 | succ n ih=>
  obtain⟨ih0,ih1⟩:=ih
  refine⟨?_,?_⟩
  ·intro a0 u r h
   rw [Dc] at h
   refine AK rfl rfl (Z ?_)
   refine AS (Z ?_)
   refine AB h (fun h=>Z ?_) (fun h=>Z ?_)
   ·refine AF ?_
    replace h:=AD h; obtain⟨y,q,h⟩:=h
    refine Bb q (Z ?_)
    replace h:=AD h; obtain⟨g,j,h⟩:=h
    refine AH (LB _ _ j) (Z ?_)
    refine AB h (fun h=>Z ?_) (fun h=>Z ?_)
    ·replace h:=AD h; obtain⟨k,b,h⟩:=h
     refine Bb b (Z ?_)
     replace h:=AD h; obtain⟨d,c,h⟩:=h
     refine AH (RC _ _ c) (Z ?_)
     exact AR (ih1 a0 u (!d) _ h) [] []
    ·exact AR (ih1 a0 u false _ h) [] []
   ·refine AF ?_
    cases h
    simp only [go_sem]
  ·intro a0 u w r h
   rw [Ex] at h
   refine AK rfl rfl (Z ?_)
   refine AB h (fun h=>Z ?_) (fun h=>Z ?_)
   ·cases h
    simp only [go_sem]
   ·refine AF ?_
    exact lpF (ih0 a0 (IntKind.i64.wrap (u+1)) _ h) [] []
def Qh (n:Nat):=(O5 n).1
theorem GV (a0:ByteArray) (u:Bool) (r:Bool) (h:Ey a0 u=some r):AY Tryz.prog Tryz.f140 [1,0,1] (.bool r) ⟨[(0,.str a0),(21,.bool u)],[],[]⟩:=by
 unfold Ey at h
 refine AK rfl rfl (Z ?_)
 refine AB h (fun h=>Z ?_) (fun h=>Z ?_)
 ·cases h
  simp only [go_sem]
 ·refine AF ?_
  exact loF (Qh fuel a0 0 _ h) [] []
theorem Ot (a0 r) (h:JH a0=some r):AC Tryz.prog 140 [.str a0] (.bool r):=by
 unfold JH at h
 refine acF Tryz.func140 mixed (h:=Z ?_)
 refine AB h (fun h=>Z ?_) (fun h=>Z ?_)
 ·exact AR (GV a0 true _ h) [] []
 ·refine AB h (fun h=>Z ?_) (fun h=>Z ?_)
  ·exact AR (GV a0 true _ h) [] []
  ·replace h:=AD h; obtain⟨u,w,h⟩:=h
   refine Bb w (Z ?_)
   replace h:=AD h; obtain⟨y,q,h⟩:=h
   refine AH (LB _ _ q) (Z ?_)
   refine AB h (fun h=>Z ?_) (fun h=>Z ?_)
   ·exact AR (GV a0 true _ h) [] []
   ·replace h:=AD h; obtain⟨g,j,h⟩:=h
    refine AH (Qg _ _ j) (Z ?_)
    exact AR (GV a0 g _ h) [] []
theorem GW (a0 r) (h:FM a0=some r):AC Tryz.prog 138 [.str a0] (.bool r):=by
 unfold FM at h
 refine acF Tryz.func138 mixed (h:=Z ?_)
 replace h:=AD h; obtain⟨u,w,h⟩:=h
 refine AH (Ot _ _ w) (Z ?_)
 refine AB h (fun h=>Z ?_) (fun h=>Z ?_)
 ·replace h:=AD h; obtain⟨y,q,h⟩:=h
  refine Bb q (Z ?_)
  refine AF ?_
  cases h
  simp only [go_sem]
 ·refine AF ?_
  cases h
  simp only [go_sem]
theorem Qi (n:Nat):(∀a0 a1 r,Dm n a0 a1=some r→AC Tryz.prog 57 [.ro (a0.map Data.ds),.agg (TType.avs a1)] (.bool r))∧
    (∀a0 a1 u r,CF n a0 a1 u=some r→AY Tryz.prog Tryz.f57 [1,1,0,1,0] (.bool r) ⟨[(0,.ro (a0.map Data.ds)),(3,.box 1000001500 0),(5,.int .i64 u)],[],[(1000001500,some [.int .i64 a1.kind,.str a1.name,.ro (a1.kids.map TType.ds)])]⟩):=by
 induction n with
 |zero=>exact⟨(fun _ _ _ h=>by rw [Dm] at h; cases h),(fun _ _ _ _ h=>by rw [CF] at h; cases h)⟩
 | succ n ih=>
  obtain⟨ih0,ih1⟩:=ih
  refine⟨?_,?_⟩
  ·intro a0 a1 r h
   rw [Dm] at h
   refine acF Tryz.func57 mixed (h:=Z ?_)
   refine AB h (fun h=>Z ?_) (fun h=>Z ?_)
   ·replace h:=AD h; obtain⟨w,y,h⟩:=h
    refine AH (L7 _ _ _ y) (Z ?_)
    refine AF ?_
    cases h
    simp only [go_sem]
   ·refine AF ?_
    exact loF (ih1 a0 a1 0 _ h) [] [(1000001500,1000)]
  ·intro a0 a1 u r h
   rw [CF] at h
   refine AK rfl rfl (Z ?_)
   refine AS (Z ?_)
   refine AB h (fun h=>Z ?_) (fun h=>Z ?_)
   ·refine AF ?_
    replace h:=AD h; obtain⟨q,g,h⟩:=h
    refine AL g (TType.ds_len _) (Z ?_)
    replace h:=AD h; obtain⟨j,k,h⟩:=h
    refine AH (ih0 _ _ _ k) (Z ?_)
    refine AF ?_
    refine AB h (fun h=>Z ?_) (fun h=>Z ?_)
    ·cases h
     simp only [go_sem]
    ·refine AF ?_
     exact lpF (ih1 a0 a1 (IntKind.i64.wrap (u+1)) _ h) [] [(1000001500,1000001500)]
   ·refine AF ?_
    cases h
    simp only [go_sem]
def Iz (n:Nat):=(Qi n).1
theorem Qj (n:Nat):(∀a0 a1 r,EI n a0 a1=some r→AC Tryz.prog 141 [.agg (TType.avs a0),.int .i64 a1] (.int .i64 r))∧
    (∀a0 a1 u r,C8 n a0 a1 u=some r→AY Tryz.prog Tryz.f141 [1,1,1,1] (.int .i64 r) ⟨[(1,.int .i64 a1),(2,.box 1000001500 0),(5,.int .i64 u)],[],[(1000001500,some [.int .i64 a0.kind,.str a0.name,.ro (a0.kids.map TType.ds)])]⟩)∧
    (∀a0 a1 w r,Dn n a0 a1 w=some r→AY Tryz.prog Tryz.f141 [1,1,1,1,0,1] (.int .i64 r) ⟨[(1,.int .i64 a1),(2,.box 1000002500 0),(44,.bool w)],[],[(1000002500,some [.int .i64 a0.kind,.str a0.name,.ro (a0.kids.map TType.ds)])]⟩)∧
    (∀a0 a1 y q r,B1 n a0 a1 y q=some r→AY Tryz.prog Tryz.f141 [1,1,1,1,1,1,0,1,0] (.int .i64 r) ⟨[(1,.int .i64 a1),(2,.box 1000004500 0),(6,.int .i64 y),(7,.int .i64 q)],[],[(1000004500,some [.int .i64 a0.kind,.str a0.name,.ro (a0.kids.map TType.ds)])]⟩)∧
    (∀a0 a1 g r,Ec n a0 a1 g=some r→AY Tryz.prog Tryz.f141 [1,1,1,0,1,0,1,1,1,0,1] (.int .i64 r) ⟨[(1,.int .i64 a1),(2,.box 1000000500 0),(5,.int .i64 0),(25,.bool g)],[],[(1000000500,some [.int .i64 a0.kind,.str a0.name,.ro (a0.kids.map TType.ds)])]⟩):=by
 induction n with
 |zero=>exact⟨(fun _ _ _ h=>by rw [EI] at h; cases h),(fun _ _ _ _ h=>by rw [C8] at h; cases h),(fun _ _ _ _ h=>by rw [Dn] at h; cases h),(fun _ _ _ _ _ h=>by rw [B1] at h; cases h),(fun _ _ _ _ h=>by rw [Ec] at h; cases h)⟩
 | succ n ih=>
  obtain⟨ih0,ih1,ih2,ih3,ih4⟩:=ih
  refine⟨?_,?_,?_,?_,?_⟩
  ·intro a0 a1 r h
   rw [EI] at h
   refine acF Tryz.func141 mixed (h:=Z ?_)
   refine AB h (fun h=>Z ?_) (fun h=>Z ?_)
   ·cases h
    simp only [go_sem]
   ·refine AF ?_
    refine AB h (fun h=>Z ?_) (fun h=>Z ?_)
    ·exact AR (ih1 a0 a1 0 _ h) [] [(1000001500,1000)]
    ·refine AB h (fun h=>Z ?_) (fun h=>Z ?_)
     ·replace h:=AD h; obtain⟨j,k,h⟩:=h
      refine AH (GW _ _ k) (Z ?_)
      refine AB h (fun h=>Z ?_) (fun h=>Z ?_)
      ·exact AR (ih4 a0 a1 true _ h) [] [(1000000500,1000)]
      ·exact AR (ih4 a0 a1 (sameStr a0.name (ByteArray.mk #[73,110,116])) _ h) [] [(1000000500,1000)]
     ·refine AB h (fun h=>Z ?_) (fun h=>Z ?_)
      ·exact AR (ih1 a0 a1 2 _ h) [] [(1000001500,1000)]
      ·refine AB h (fun h=>Z ?_) (fun h=>Z ?_)
       ·exact AR (ih1 a0 a1 1 _ h) [] [(1000001500,1000)]
       ·cases h
        simp only [go_sem]
  ·intro a0 a1 u r h
   rw [C8] at h
   refine AK rfl rfl (Z ?_)
   refine AB h (fun h=>Z ?_) (fun h=>Z ?_)
   ·exact AR (ih2 a0 a1 true _ h) [] [(1000002500,1000001500)]
   ·refine AB h (fun h=>Z ?_) (fun h=>Z ?_)
    ·exact AR (ih2 a0 a1 (!sameStr a0.name (ByteArray.mk #[])) _ h) [] [(1000002500,1000001500)]
    ·exact AR (ih2 a0 a1 false _ h) [] [(1000002500,1000001500)]
  ·intro a0 a1 w r h
   rw [Dn] at h
   refine AK rfl rfl (Z ?_)
   refine AB h (fun h=>Z ?_) (fun h=>Z ?_)
   ·cases h
    simp only [go_sem]
   ·refine AF ?_
    exact loF (ih3 a0 a1 1 0 _ h) [] [(1000004500,1000002500)]
  ·intro a0 a1 y q r h
   rw [B1] at h
   refine AK rfl rfl (Z ?_)
   refine AS (Z ?_)
   refine AB h (fun h=>Z ?_) (fun h=>Z ?_)
   ·refine AF ?_
    replace h:=AD h; obtain⟨b,d,h⟩:=h
    refine AL d (TType.ds_len _) (Z ?_)
    replace h:=AD h; obtain⟨c,e,h⟩:=h
    refine AH (ih0 _ _ _ e) (Z ?_)
    refine AF ?_
    refine AB h (fun h=>Z ?_) (fun h=>Z ?_)
    ·cases h
     simp only [go_sem]
    ·refine AF ?_
     refine AF ?_
     exact lpF (ih3 a0 a1 (IntKind.i64.wrap (y+c)) (IntKind.i64.wrap (q+1)) _ h) [] [(1000004500,1000004500)]
   ·refine AF ?_
    cases h
    simp only [go_sem]
  ·intro a0 a1 g r h
   rw [Ec] at h
   refine AK rfl rfl (Z ?_)
   refine AB h (fun h=>Z ?_) (fun h=>Z ?_)
   ·cases h
    simp only [go_sem]
   ·exact AR (ih1 a0 a1 0 _ h) [] [(1000001500,1000000500)]
def RD (n:Nat):=(Qj n).1
theorem IM (a0 r) (h:Ez a0=some r):AC Tryz.prog 103 [.agg (TType.avs a0)] (.bool r):=by
 unfold Ez at h
 refine acF Tryz.func103 mixed (h:=Z ?_)
 replace h:=AD h; obtain⟨u,w,h⟩:=h
 refine AH (RD fuel _ _ _ w) (Z ?_)
 replace h:=AD h; obtain⟨y,q,h⟩:=h
 refine AH (IL _ _ _ _ q) (Z ?_)
 refine AF ?_
 cases h
 simp only [go_sem]
theorem OP (n:Nat):(∀a0 a1 u r,CJ n a0 a1 u=some r→AY Tryz.prog Tryz.f139 [1,1,0,1,0] (.bool r) ⟨[(0,.ro (a0.map Data.ds)),(3,.box 1000003500 0),(5,.int .i64 u)],[],[(1000003500,some [.str a1.name,.ro (a1.fields.map TType.ds)])]⟩)∧
    (∀a0 a1 u w r,EJ n a0 a1 u w=some r→AY Tryz.prog Tryz.f139 [1,1,0,1,0,0,1,0,0,1] (.bool r) ⟨[(0,.ro (a0.map Data.ds)),(3,.box 1000004500 0),(5,.int .i64 u),(39,.bool w)],[],[(1000004500,some [.str a1.name,.ro (a1.fields.map TType.ds)])]⟩):=by
 induction n with
 |zero=>exact⟨(fun _ _ _ _ h=>by rw [CJ] at h; cases h),(fun _ _ _ _ _ h=>by rw [EJ] at h; cases h)⟩
 | succ n ih=>
  obtain⟨ih0,ih1⟩:=ih
  refine⟨?_,?_⟩
  ·intro a0 a1 u r h
   rw [CJ] at h
   refine AK rfl rfl (Z ?_)
   refine AS (Z ?_)
   refine AB h (fun h=>Z ?_) (fun h=>Z ?_)
   ·refine AF ?_
    replace h:=AD h; obtain⟨y,q,h⟩:=h
    refine AL q (TType.ds_len _) (Z ?_)
    replace h:=AD h; obtain⟨g,j,h⟩:=h
    refine AH (IM _ _ j) (Z ?_)
    refine AB h (fun h=>Z ?_) (fun h=>Z ?_)
    ·exact AR (ih1 a0 a1 u true _ h) [] [(1000004500,1000003500)]
    ·replace h:=AD h; obtain⟨k,b,h⟩:=h
     refine AL b (TType.ds_len _) (Z ?_)
     replace h:=AD h; obtain⟨d,c,h⟩:=h
     refine AH (Iz fuel _ _ _ c) (Z ?_)
     exact AR (ih1 a0 a1 u (!d) _ h) [] [(1000004500,1000003500)]
   ·refine AF ?_
    cases h
    simp only [go_sem]
  ·intro a0 a1 u w r h
   rw [EJ] at h
   refine AK rfl rfl (Z ?_)
   refine AB h (fun h=>Z ?_) (fun h=>Z ?_)
   ·cases h
    simp only [go_sem]
   ·refine AF ?_
    exact lpF (ih0 a0 a1 (IntKind.i64.wrap (u+1)) _ h) [] [(1000003500,1000004500)]
def O6 (n:Nat):=(OP n).1
theorem KN (a0:List Data) (a1:Constructor) (u:Bool) (r:Bool) (h:GH a0 a1 u=some r):AY Tryz.prog Tryz.f139 [1,0,1] (.bool r) ⟨[(0,.ro (a0.map Data.ds)),(3,.box 1000000500 0),(15,.bool u)],[],[(1000000500,some [.str a1.name,.ro (a1.fields.map TType.ds)])]⟩:=by
 unfold GH at h
 refine AK rfl rfl (Z ?_)
 refine AB h (fun h=>Z ?_) (fun h=>Z ?_)
 ·cases h
  simp only [go_sem]
 ·refine AF ?_
  exact loF (O6 fuel a0 a1 0 _ h) [] [(1000003500,1000000500)]
theorem Sv (a0 a1 r) (h:JI a0 a1=some r):AC Tryz.prog 139 [.ro (a0.map Data.ds),.agg (Constructor.avs a1)] (.bool r):=by
 unfold JI at h
 refine acF Tryz.func139 mixed (h:=Z ?_)
 replace h:=AD h; obtain⟨u,w,h⟩:=h
 refine AH (GW _ _ w) (Z ?_)
 refine AB h (fun h=>Z ?_) (fun h=>Z ?_)
 ·exact AR (KN a0 a1 true _ h) [] [(1000000500,1000)]
 ·exact AR (KN a0 a1 (decide (3<(a1.fields.length:Int))) _ h) [] [(1000000500,1000)]
theorem OQ (n:Nat):(∀a0 u w r,Bm n a0 u w=some r→AY Tryz.prog Tryz.f101 [1,1,1,0,1,0] (.bool r) ⟨[(0,.ro (a0.map Data.ds)),(3,.own 1000012000),(4,.int .i64 w)],[(1000012000,some ⟨List.map strD u,some 1,0,false⟩)],[]⟩)∧
    (∀a0 u w y q r,C2 n a0 u w y q=some r→AY Tryz.prog Tryz.f101 [1,1,1,0,1,0,0,1,0,0,1,0,1] (.bool r) ⟨[(0,.ro (a0.map Data.ds)),(3,.own 1000013000),(4,.int .i64 w),(5,.box 1000013500 0),(50,.bool q)],[(1000013000,some ⟨List.map strD u,some 1,0,false⟩)],[(1000013500,some [.str y.name,.ro (y.cons.map Constructor.ds)])]⟩)∧
    (∀a0 w y g j r,Bn n a0 w y g j=some r→AY Tryz.prog Tryz.f101 [1,1,1,0,1,0,0,1,0,0,1,1,1,0] (.bool r) ⟨[(0,.ro (a0.map Data.ds)),(3,.own 1000019000),(4,.int .i64 w),(5,.box 1000019500 0),(6,.int .i64 j)],[(1000019000,some ⟨List.map strD g,some 1,0,false⟩)],[(1000019500,some [.str y.name,.ro (y.cons.map Constructor.ds)])]⟩)∧
    (∀a0 w g j y k r,CK n a0 w g j y k=some r→AY Tryz.prog Tryz.f101 [1,1,1,0,1,0,0,1,0,0,1,1,1,0,0,1,0,0,1,0,1,0] (.bool r) ⟨[(0,.ro (a0.map Data.ds)),(3,.own 1000023000),(4,.int .i64 w),(5,.box 1000023500 0),(6,.int .i64 j),(7,.int .i64 k)],[(1000023000,some ⟨List.map strD g,some 1,0,false⟩)],[(1000023500,some [.str y.name,.ro (y.cons.map Constructor.ds)])]⟩):=by
 induction n with
 |zero=>exact⟨(fun _ _ _ _ h=>by rw [Bm] at h; cases h),(fun _ _ _ _ _ _ h=>by rw [C2] at h; cases h),(fun _ _ _ _ _ _ h=>by rw [Bn] at h; cases h),(fun _ _ _ _ _ _ _ h=>by rw [CK] at h; cases h)⟩
 | succ n ih=>
  obtain⟨ih0,ih1,ih2,ih3⟩:=ih
  refine⟨?_,?_,?_,?_⟩
  ·intro a0 u w r h
   rw [Bm] at h
   refine AK rfl rfl (Z ?_)
   refine AS (Z ?_)
   refine AB h (fun h=>Z ?_) (fun h=>Z ?_)
   ·refine AF ?_
    replace h:=AD h; obtain⟨y,b,h⟩:=h
    refine AL b (Data.ds_len _) (Z ?_)
    refine AF ?_
    replace h:=AD h; obtain⟨d,c,h⟩:=h
    refine AH (GW _ _ c) (Z ?_)
    refine AB h (fun h=>Z ?_) (fun h=>Z ?_)
    ·exact AR (ih1 a0 u w y true _ h) [(1000013000,1000012000)] [(1000013500,8004)]
    ·refine AB h (fun h=>Z ?_) (fun h=>Z ?_)
     ·exact AR (ih1 a0 u w y true _ h) [(1000013000,1000012000)] [(1000013500,8004)]
     ·replace h:=AD h; obtain⟨e,i,h⟩:=h
      refine AH (L7 _ _ _ i) (Z ?_)
      refine AB h (fun h=>Z ?_) (fun h=>Z ?_)
      ·exact AR (ih1 a0 u w y true _ h) [(1000013000,1000012000)] [(1000013500,8004)]
      ·refine AB h (fun h=>Z ?_) (fun h=>Z ?_)
       ·exact AR (ih1 a0 u w y true _ h) [(1000013000,1000012000)] [(1000013500,8004)]
       ·exact AR (ih1 a0 u w y (decide (4<(y.cons.length:Int))) _ h) [(1000013000,1000012000)] [(1000013500,8004)]
   ·refine AF ?_
    cases h
    simp only [go_sem]
  ·intro a0 u w y q r h
   rw [C2] at h
   refine AK rfl rfl (Z ?_)
   refine AB h (fun h=>Z ?_) (fun h=>Z ?_)
   ·cases h
    simp only [go_sem]
   ·refine AF ?_
    exact loF (ih2 a0 w y u 0 _ h) [(1000019000,1000013000)] [(1000019500,1000013500)]
  ·intro a0 w y g j r h
   rw [Bn] at h
   refine AK rfl rfl (Z ?_)
   refine AS (Z ?_)
   refine AB h (fun h=>Z ?_) (fun h=>Z ?_)
   ·refine AF ?_
    replace h:=AD h; obtain⟨l,t,h⟩:=h
    refine AL t (Constructor.ds_len _) (Z ?_)
    replace h:=AD h; obtain⟨s,o,h⟩:=h
    refine AH (Sv _ _ _ o) (Z ?_)
    refine AF ?_
    refine AB h (fun h=>Z ?_) (fun h=>Z ?_)
    ·cases h
     simp only [go_sem]
    ·refine AF ?_
     exact loF (ih3 a0 w g j y 0 _ h) [(1000023000,1000019000)] [(1000023500,1000019500)]
   ·refine AF ?_
    exact lpF (ih0 a0 g (IntKind.i64.wrap (w+1)) _ h) [(1000012000,1000019000)] []
  ·intro a0 w g j y k r h
   rw [CK] at h
   refine AK rfl rfl (Z ?_)
   refine AS (Z ?_)
   refine AB h (fun h=>Z ?_) (fun h=>Z ?_)
   ·refine AF ?_
    refine AX [] .fin (by kernel_rfl) (Z ?_)
    replace h:=AD h; obtain⟨z,u1,h⟩:=h
    refine AL u1 rfl (Z ?_)
    refine Bb (Cy u1) (Z ?_)
    replace h:=AD h; obtain⟨u2,u3,h⟩:=h
    refine AL u3 (Constructor.ds_len _) (Z ?_)
    refine AF ?_
    refine AB h (fun h=>Z ?_) (fun h=>Z ?_)
    ·cases h
     simp only [go_sem]
    ·refine AF ?_
     exact lpF (ih3 a0 w g j y (IntKind.i64.wrap (k+1)) _ h) [(1000023000,1000023000)] [(1000023500,1000023500)]
   ·refine AF ?_
    replace h:=AD h; obtain⟨u4,u5,h⟩:=h
    refine AL u5 (Constructor.ds_len _) (Z ?_)
    replace h:=AD h; obtain⟨u6,u7,h⟩:=h
    have hq_:=CZ u7
    obtain⟨hv21008a,hv21008b⟩:=hq_
    refine Ga false (Z ?_)
    refine Cd (by refine⟨?_,?_⟩ <;> (try simp only [List.length_map,List.length_append,List.length_cons,List.length_nil] at*) <;> (try unfold maxLen) <;> omega) (Z ?_)
    refine C5 (u6.map strD) (by rw [← hv21008b]; simp only [List.map_append,List.map_cons,List.map_nil,List.nil_append,List.append_nil,go_sem,slD]) (Z ?_)
    refine AF ?_
    exact lpF (ih2 a0 w y u6 (IntKind.i64.wrap (j+1)) _ h) [(1000019000,336128)] [(1000019500,1000023500)]
def O7 (n:Nat):=(OQ n).1
theorem Vy (a0 r) (h:NG a0=some r):AC Tryz.prog 101 [.ro (a0.map Data.ds)] (.bool r):=by
 unfold NG at h
 refine acF Tryz.func101 mixed (h:=Z ?_)
 refine AB h (fun h=>Z ?_) (fun h=>Z ?_)
 ·cases h
  simp only [go_sem]
 ·refine AF ?_
  refine AF ?_
  refine EH (DR rfl rfl (O7 fuel a0 [] 0 _ h):) (.one ⟨_,.lit 3 2000000000 4000 0 1 false [] _ _ (by (first|rfl|(simp only [go_sem]; rfl))) (by simp only [go_sem]; rfl) (by (first|rfl|(simp only [go_sem]; rfl))) (by (first|rfl|(simp only [go_sem]; rfl))) (by decide) (by decide) (by simp only [go_sem]) (.done _),[(1000012000,2000000000)],[],?_⟩)
  simp only [go_sem]
  all_goals try rfl
theorem J8 (a0 r) (h:Gi a0=some r):AC Tryz.prog 102 [.str a0] (.bool r):=by
 unfold Gi at h
 refine acF Tryz.func102 mixed (h:=Z ?_)
 replace h:=AD h; obtain⟨u,w,h⟩:=h
 refine AH (Ot _ _ w) (Z ?_)
 refine AB h (fun h=>Z ?_) (fun h=>Z ?_)
 ·replace h:=AD h; obtain⟨y,q,h⟩:=h
  refine Bb q (Z ?_)
  refine AF ?_
  cases h
  simp only [go_sem]
 ·refine AF ?_
  cases h
  simp only [go_sem]
theorem HH (a0:Int) (u:Bool) (r:Int × Int) (h:FN a0 u=some r):AY Tryz.prog Tryz.f162 [1,0,1,0,1,1,1,1,1] (.tup [.int .i64 r.1,.int .i64 r.2]) ⟨[(4,.int .i64 a0),(12,.bool u)],[],[]⟩:=by
 unfold FN at h
 refine AK rfl rfl (Z ?_)
 refine AB h (fun h=>Z ?_) (fun h=>Z ?_)
 ·cases h
  simp only [go_sem]
 ·refine AB h (fun h=>Z ?_) (fun h=>Z ?_)
  ·cases h
   simp only [go_sem]
  ·refine AB h (fun h=>Z ?_) (fun h=>Z ?_)
   ·cases h
    simp only [go_sem]
   ·refine AB h (fun h=>Z ?_) (fun h=>Z ?_)
    ·cases h
     simp only [go_sem]
    ·refine AF ?_
     cases h
     simp only [go_sem]
theorem HI (a0:Int) (u:Bool) (r:Int × Int) (h:FO a0 u=some r):AY Tryz.prog Tryz.f162 [1,0,1,0,1,1,1] (.tup [.int .i64 r.1,.int .i64 r.2]) ⟨[(4,.int .i64 a0),(8,.bool u)],[],[]⟩:=by
 unfold FO at h
 refine AK rfl rfl (Z ?_)
 refine AB h (fun h=>Z ?_) (fun h=>Z ?_)
 ·cases h
  simp only [go_sem]
 ·refine AB h (fun h=>Z ?_) (fun h=>Z ?_)
  ·exact AR (HH a0 (decide (a0=3)) _ h) [] []
  ·refine AB h (fun h=>Z ?_) (fun h=>Z ?_)
   ·exact AR (HH a0 (decide (a0=5)) _ h) [] []
   ·exact AR (HH a0 (decide (a0=7)) _ h) [] []
theorem KO (a0:Int) (u:Bool) (r:Int × Int) (h:GI a0 u=some r):AY Tryz.prog Tryz.f162 [1,0,1,0,1] (.tup [.int .i64 r.1,.int .i64 r.2]) ⟨[(4,.int .i64 a0),(5,.bool u)],[],[]⟩:=by
 unfold GI at h
 refine AK rfl rfl (Z ?_)
 refine AB h (fun h=>Z ?_) (fun h=>Z ?_)
 ·cases h
  simp only [go_sem]
 ·refine AB h (fun h=>Z ?_) (fun h=>Z ?_)
  ·exact AR (HI a0 (decide (a0=4)) _ h) [] []
  ·refine AB h (fun h=>Z ?_) (fun h=>Z ?_)
   ·exact AR (HI a0 (decide (a0=6)) _ h) [] []
   ·exact AR (HI a0 (decide (a0=10)) _ h) [] []
theorem Sw (a0 r) (h:JJ a0=some r):AC Tryz.prog 162 [.int .i64 a0] (.tup [.int .i64 r.1,.int .i64 r.2]):=by
 unfold JJ at h
 refine acF Tryz.func162 mixed (h:=Z ?_)
 refine AB h (fun h=>Z ?_) (fun h=>Z ?_)
 ·exact AR (KO a0 (decide (a0=1)) _ h) [] []
 ·exact AR (KO a0 (decide (a0=2)) _ h) [] []
theorem LC (a0 r) (h:F5 a0=some r):AC Tryz.prog 178 [.agg (TType.avs a0)] (.bool r):=by
 unfold F5 at h
 refine acF Tryz.func178 mixed (h:=Z ?_)
 refine AB h (fun h=>Z ?_) (fun h=>Z ?_)
 ·refine AB h (fun h=>Z ?_) (fun h=>Z ?_)
  ·refine AF ?_
   cases h
   simp only [go_sem]
  ·refine AF ?_
   cases h
   simp only [go_sem]
 ·refine AF ?_
  cases h
  simp only [go_sem]
theorem RE (n:Nat):(∀a0 a1 u r,E0 n a0 a1 u=some r→AY Tryz.prog Tryz.f60 [1,0,1,0] (.int .i64 r) ⟨[(0,.ro (a0.map strD)),(1,.str a1),(5,.int .i64 u)],[],[]⟩):=by
 induction n with
 |zero=>exact((fun _ _ _ _ h=>by rw [E0] at h; cases h))
 | succ n ih=>
  have ih0:=ih
  ·intro a0 a1 u r h
   rw [E0] at h
   refine AK rfl rfl (Z ?_)
   refine AS (Z ?_)
   refine AB h (fun h=>Z ?_) (fun h=>Z ?_)
   ·refine AF ?_
    replace h:=AD h; obtain⟨w,y,h⟩:=h
    refine AL y rfl (Z ?_)
    refine AB h (fun h=>Z ?_) (fun h=>Z ?_)
    ·cases h
     simp only [go_sem]
    ·refine AF ?_
     exact lpF (ih0 a0 a1 (IntKind.i64.wrap (u - 1)) _ h) [] []
   ·refine AF ?_
    cases h
    simp only [go_sem]
theorem J9 (a0 a1 r) (h:HX a0 a1=some r):AC Tryz.prog 60 [.ro (a0.map strD),.str a1] (.int .i64 r):=by
 unfold HX at h
 refine acF Tryz.func60 mixed (h:=Z ?_)
 exact loF (RE fuel a0 a1 (IntKind.i64.wrap ((a0.length:Int) - 1)) _ h) [] []
theorem LD (n:Nat):(∀a0 u r,A4 n a0 u=some r→AY Tryz.prog Tryz.f179 [1,0,1,0] (.bool r) ⟨[(0,.ro (a0.map strD)),(3,.int .i64 u)],[],[]⟩)∧
    (∀a0 u w r,DC n a0 u w=some r→AY Tryz.prog Tryz.f179 [1,0,1,0,0,1,0,0,1] (.bool r) ⟨[(0,.ro (a0.map strD)),(3,.int .i64 u),(26,.bool w)],[],[]⟩):=by
 induction n with
 |zero=>exact⟨(fun _ _ _ h=>by rw [A4] at h; cases h),(fun _ _ _ _ h=>by rw [DC] at h; cases h)⟩
 | succ n ih=>
  obtain⟨ih0,ih1⟩:=ih
  refine⟨?_,?_⟩
  ·intro a0 u r h
   rw [A4] at h
   refine AK rfl rfl (Z ?_)
   refine AS (Z ?_)
   refine AB h (fun h=>Z ?_) (fun h=>Z ?_)
   ·refine AF ?_
    refine AX [] .fin (by kernel_rfl) (Z ?_)
    replace h:=AD h; obtain⟨y,q,h⟩:=h
    refine AL q rfl (Z ?_)
    replace h:=AD h; obtain⟨g,j,h⟩:=h
    refine AH (J8 _ _ j) (Z ?_)
    refine AB h (fun h=>Z ?_) (fun h=>Z ?_)
    ·exact AR (ih1 a0 u true _ h) [] []
    ·replace h:=AD h; obtain⟨k,b,h⟩:=h
     refine Cd (Gw (by intro x; exact rfl) _) (Z ?_)
     refine Bb (ND b) (Z ?_)
     replace h:=AD h; obtain⟨d,c,h⟩:=h
     refine AL c rfl (Z ?_)
     replace h:=AD h; obtain⟨e,i,h⟩:=h
     refine AH (J9 _ _ _ i) (Z ?_)
     exact AR (ih1 a0 u (decide (0≤e)) _ h) [] []
   ·refine AF ?_
    cases h
    simp only [go_sem]
  ·intro a0 u w r h
   rw [DC] at h
   refine AK rfl rfl (Z ?_)
   refine AB h (fun h=>Z ?_) (fun h=>Z ?_)
   ·cases h
    simp only [go_sem]
   ·refine AF ?_
    exact lpF (ih0 a0 (IntKind.i64.wrap (u+1)) _ h) [] []
def Lm (n:Nat):=(LD n).1
theorem OR (a0 r) (h:Ff a0=some r):AC Tryz.prog 179 [.ro (a0.map strD)] (.bool r):=by
 unfold Ff at h
 refine acF Tryz.func179 mixed (h:=Z ?_)
 exact loF (Lm fuel a0 0 _ h) [] []
theorem Io (a0 r) (h:E1 a0=some r):AY Tryz.prog Tryz.f163 [1,1,1,1,1,1] (.bool r) ⟨[(0,.rop [.int .i64 a0.kind,.int .i64 a0.num,.str a0.name,.int .i64 a0.typ.kind,.str a0.typ.name,.ro (a0.typ.kids.map TType.ds),.ro (a0.names.map strD),.ro (a0.kids.map Term.ds)] 0)],[],[]⟩:=by
 unfold E1 at h
 refine AK rfl rfl (Z ?_)
 refine AB h (fun h=>Z ?_) (fun h=>Z ?_)
 ·replace h:=AD h; obtain⟨u,w,h⟩:=h
  refine AH (IL _ _ _ _ w) (Z ?_)
  refine AF ?_
  cases h
  simp only [go_sem]
 ·refine AB h (fun h=>Z ?_) (fun h=>Z ?_)
  ·replace h:=AD h; obtain⟨y,q,h⟩:=h
   refine AH (IL _ _ _ _ q) (Z ?_)
   refine AF ?_
   cases h
   simp only [go_sem]
  ·refine AF ?_
   cases h
   simp only [go_sem]
theorem Ip (a0:Term) (u:Bool) (r:Bool) (h:E2 a0 u=some r):AY Tryz.prog Tryz.f163 [1,1,1,1,1,0,1,0,1] (.bool r) ⟨[(0,.rop [.int .i64 a0.kind,.int .i64 a0.num,.str a0.name,.int .i64 a0.typ.kind,.str a0.typ.name,.ro (a0.typ.kids.map TType.ds),.ro (a0.names.map strD),.ro (a0.kids.map Term.ds)] 0),(117,.bool u)],[],[]⟩:=by
 unfold E2 at h
 refine AK rfl rfl (Z ?_)
 refine AB h (fun h=>Z ?_) (fun h=>Z ?_)
 ·cases h
  simp only [go_sem]
 ·exact AR (Io a0 _ h) [] []
theorem Dj (a0:Term) (u:Bool) (r:Bool) (h:Cf a0 u=some r):AY Tryz.prog Tryz.f163 [1,1,1,1,0,1] (.bool r) ⟨[(0,.rop [.int .i64 a0.kind,.int .i64 a0.num,.str a0.name,.int .i64 a0.typ.kind,.str a0.typ.name,.ro (a0.typ.kids.map TType.ds),.ro (a0.names.map strD),.ro (a0.kids.map Term.ds)] 0),(98,.bool u)],[],[]⟩:=by
 unfold Cf at h
 refine AK rfl rfl (Z ?_)
 refine AB h (fun h=>Z ?_) (fun h=>Z ?_)
 ·cases h
  simp only [go_sem]
 ·refine AF ?_
  refine AB h (fun h=>Z ?_) (fun h=>Z ?_)
  ·refine AB h (fun h=>Z ?_) (fun h=>Z ?_)
   ·exact AR (Ip a0 true _ h) [] []
   ·replace h:=AD h; obtain⟨w,y,h⟩:=h
    refine AH (OR _ _ y) (Z ?_)
    exact AR (Ip a0 (!w) _ h) [] []
  ·refine AB h (fun h=>Z ?_) (fun h=>Z ?_)
   ·cases h
    simp only [go_sem]
   ·exact AR (Io a0 _ h) [] []
theorem Ad (a0:Term) (u:Bool) (r:Bool) (h:Ak a0 u=some r):AY Tryz.prog Tryz.f163 [1,1,1,0,1] (.bool r) ⟨[(0,.rop [.int .i64 a0.kind,.int .i64 a0.num,.str a0.name,.int .i64 a0.typ.kind,.str a0.typ.name,.ro (a0.typ.kids.map TType.ds),.ro (a0.names.map strD),.ro (a0.kids.map Term.ds)] 0),(70,.bool u)],[],[]⟩:=by
 unfold Ak at h
 refine AK rfl rfl (Z ?_)
 refine AB h (fun h=>Z ?_) (fun h=>Z ?_)
 ·cases h
  simp only [go_sem]
 ·refine AF ?_
  refine AB h (fun h=>Z ?_) (fun h=>Z ?_)
  ·replace h:=AD h; obtain⟨w,y,h⟩:=h
   refine AH (IM _ _ y) (Z ?_)
   refine AB h (fun h=>Z ?_) (fun h=>Z ?_)
   ·exact AR (Dj a0 true _ h) [] []
   ·refine AB h (fun h=>Z ?_) (fun h=>Z ?_)
    ·replace h:=AD h; obtain⟨q,g,h⟩:=h
     refine AH (LC _ _ g) (Z ?_)
     exact AR (Dj a0 (!q) _ h) [] []
    ·exact AR (Dj a0 false _ h) [] []
  ·refine AB h (fun h=>Z ?_) (fun h=>Z ?_)
   ·replace h:=AD h; obtain⟨q,g,h⟩:=h
    refine AH (LC _ _ g) (Z ?_)
    exact AR (Dj a0 (!q) _ h) [] []
   ·exact AR (Dj a0 false _ h) [] []
theorem Iq (a0:Term) (u:Bool) (w:Bool) (r:Bool) (h:E3 a0 u w=some r):AY Tryz.prog Tryz.f163 [1,1,1] (.bool r) ⟨[(0,.rop [.int .i64 a0.kind,.int .i64 a0.num,.str a0.name,.int .i64 a0.typ.kind,.str a0.typ.name,.ro (a0.typ.kids.map TType.ds),.ro (a0.names.map strD),.ro (a0.kids.map Term.ds)] 0),(3,.bool u),(4,.bool w)],[],[]⟩:=by
 unfold E3 at h
 refine AK rfl rfl (Z ?_)
 refine AB h (fun h=>Z ?_) (fun h=>Z ?_)
 ·replace h:=AD h; obtain⟨y,q,h⟩:=h
  refine AH (J8 _ _ q) (Z ?_)
  refine AB h (fun h=>Z ?_) (fun h=>Z ?_)
  ·exact AR (Ad a0 true _ h) [] []
  ·refine AB h (fun h=>Z ?_) (fun h=>Z ?_)
   ·replace h:=AD h; obtain⟨g,j,h⟩:=h
    refine AH (GW _ _ j) (Z ?_)
    refine AB h (fun h=>Z ?_) (fun h=>Z ?_)
    ·exact AR (Ad a0 true _ h) [] []
    ·refine AB h (fun h=>Z ?_) (fun h=>Z ?_)
     ·refine AB h (fun h=>Z ?_) (fun h=>Z ?_)
      ·exact AR (Ad a0 (!sameStr a0.name (ByteArray.mk #[])) _ h) [] []
      ·exact AR (Ad a0 false _ h) [] []
     ·exact AR (Ad a0 false _ h) [] []
   ·refine AB h (fun h=>Z ?_) (fun h=>Z ?_)
    ·refine AB h (fun h=>Z ?_) (fun h=>Z ?_)
     ·exact AR (Ad a0 (!sameStr a0.name (ByteArray.mk #[])) _ h) [] []
     ·exact AR (Ad a0 false _ h) [] []
    ·exact AR (Ad a0 false _ h) [] []
 ·refine AB h (fun h=>Z ?_) (fun h=>Z ?_)
  ·replace h:=AD h; obtain⟨g,j,h⟩:=h
   refine AH (GW _ _ j) (Z ?_)
   refine AB h (fun h=>Z ?_) (fun h=>Z ?_)
   ·exact AR (Ad a0 true _ h) [] []
   ·refine AB h (fun h=>Z ?_) (fun h=>Z ?_)
    ·refine AB h (fun h=>Z ?_) (fun h=>Z ?_)
     ·exact AR (Ad a0 (!sameStr a0.name (ByteArray.mk #[])) _ h) [] []
     ·exact AR (Ad a0 false _ h) [] []
    ·exact AR (Ad a0 false _ h) [] []
  ·refine AB h (fun h=>Z ?_) (fun h=>Z ?_)
   ·refine AB h (fun h=>Z ?_) (fun h=>Z ?_)
    ·exact AR (Ad a0 (!sameStr a0.name (ByteArray.mk #[])) _ h) [] []
    ·exact AR (Ad a0 false _ h) [] []
   ·exact AR (Ad a0 false _ h) [] []
theorem GX (a0:Term) (u:Bool) (r:Bool) (h:Dz a0 u=some r):AY Tryz.prog Tryz.f163 [1,1] (.bool r) ⟨[(0,.rop [.int .i64 a0.kind,.int .i64 a0.num,.str a0.name,.int .i64 a0.typ.kind,.str a0.typ.name,.ro (a0.typ.kids.map TType.ds),.ro (a0.names.map strD),.ro (a0.kids.map Term.ds)] 0),(3,.bool u)],[],[]⟩:=by
 unfold Dz at h
 refine AK rfl rfl (Z ?_)
 refine AB h (fun h=>Z ?_) (fun h=>Z ?_)
 ·exact AR (Iq a0 u true _ h) [] []
 ·exact AR (Iq a0 u (decide (a0.kind=10)) _ h) [] []
theorem Qk (a0 r) (h:Gz a0=some r):AC Tryz.prog 163 [.rop (Term.avs a0) 0] (.bool r):=by
 unfold Gz at h
 refine acF Tryz.func163 mixed (h:=Z ?_)
 refine AB h (fun h=>Z ?_) (fun h=>Z ?_)
 ·exact AR (GX a0 true _ h) [] []
 ·refine AB h (fun h=>Z ?_) (fun h=>Z ?_)
  ·exact AR (GX a0 true _ h) [] []
  ·exact AR (GX a0 (decide (a0.kind=7)) _ h) [] []
theorem Ql (n:Nat):(∀a0 a1 a2 a3 r,EK n a0 a1 a2 a3=some r→AC Tryz.prog 142 [.rop (Term.avs a0) 0,.int .i64 a1,.bool a2,.int .i64 a3] (.int .i64 r))∧
    (∀a0 a1 a3 u r,Ce n a0 a1 a3 u=some r→AY Tryz.prog Tryz.f142 [1,1,0,1] (.int .i64 r) ⟨[(0,.rop [.int .i64 a0.kind,.int .i64 a0.num,.str a0.name,.int .i64 a0.typ.kind,.str a0.typ.name,.ro (a0.typ.kids.map TType.ds),.ro (a0.names.map strD),.ro (a0.kids.map Term.ds)] 0),(1,.int .i64 a1),(3,.int .i64 a3),(52,.bool u)],[],[]⟩)∧
    (∀a0 a1 a3 w y r,Bi n a0 a1 a3 w y=some r→AY Tryz.prog Tryz.f142 [1,1,1,1,0,1,0] (.int .i64 r) ⟨[(0,.rop [.int .i64 a0.kind,.int .i64 a0.num,.str a0.name,.int .i64 a0.typ.kind,.str a0.typ.name,.ro (a0.typ.kids.map TType.ds),.ro (a0.names.map strD),.ro (a0.kids.map Term.ds)] 0),(1,.int .i64 a1),(3,.int .i64 a3),(11,.int .i64 w),(12,.int .i64 y)],[],[]⟩)∧
    (∀a0 a1 a3 w y q r,Ed n a0 a1 a3 w y q=some r→AY Tryz.prog Tryz.f142 [1,1,1,1,0,1,0,0,1,0,0,1] (.int .i64 r) ⟨[(0,.rop [.int .i64 a0.kind,.int .i64 a0.num,.str a0.name,.int .i64 a0.typ.kind,.str a0.typ.name,.ro (a0.typ.kids.map TType.ds),.ro (a0.names.map strD),.ro (a0.kids.map Term.ds)] 0),(1,.int .i64 a1),(3,.int .i64 a3),(11,.int .i64 w),(12,.int .i64 y),(13,.int .i64 q)],[],[]⟩):=by
 induction n with
 |zero=>exact⟨(fun _ _ _ _ _ h=>by rw [EK] at h; cases h),(fun _ _ _ _ _ h=>by rw [Ce] at h; cases h),(fun _ _ _ _ _ _ h=>by rw [Bi] at h; cases h),(fun _ _ _ _ _ _ _ h=>by rw [Ed] at h; cases h)⟩
 | succ n ih=>
  obtain⟨ih0,ih1,ih2,ih3⟩:=ih
  refine⟨?_,?_,?_,?_⟩
  ·intro a0 a1 a2 a3 r h
   rw [EK] at h
   refine acF Tryz.func142 mixed (h:=Z ?_)
   replace h:=AD h; obtain⟨g,j,h⟩:=h
   refine AH (Sw _ _ j) (Z ?_)
   refine AF ?_
   refine AB h (fun h=>Z ?_) (fun h=>Z ?_)
   ·exact AR (ih1 a0 a1 a3 true _ h) [] []
   ·refine AB h (fun h=>Z ?_) (fun h=>Z ?_)
    ·exact AR (ih1 a0 a1 a3 true _ h) [] []
    ·refine AB h (fun h=>Z ?_) (fun h=>Z ?_)
     ·exact AR (ih1 a0 a1 a3 true _ h) [] []
     ·replace h:=AD h; obtain⟨k,b,h⟩:=h
      refine AH (IL _ _ _ _ b) (Z ?_)
      refine AB h (fun h=>Z ?_) (fun h=>Z ?_)
      ·exact AR (ih1 a0 a1 a3 true _ h) [] []
      ·replace h:=AD h; obtain⟨d,c,h⟩:=h
       refine AH (Qk _ _ c) (Z ?_)
       exact AR (ih1 a0 a1 a3 (!d) _ h) [] []
  ·intro a0 a1 a3 u r h
   rw [Ce] at h
   refine AK rfl rfl (Z ?_)
   refine AB h (fun h=>Z ?_) (fun h=>Z ?_)
   ·cases h
    simp only [go_sem]
   ·refine AF ?_
    exact loF (ih2 a0 a1 a3 1 0 _ h) [] []
  ·intro a0 a1 a3 w y r h
   rw [Bi] at h
   refine AK rfl rfl (Z ?_)
   refine AS (Z ?_)
   refine AB h (fun h=>Z ?_) (fun h=>Z ?_)
   ·refine AF ?_
    refine AX [] .fin (by kernel_rfl) (Z ?_)
    replace h:=AD h; obtain⟨e,i,h⟩:=h
    refine AL i (Term.ds_len _) (Z ?_)
    refine AB h (fun h=>Z ?_) (fun h=>Z ?_)
    ·replace h:=AD h; obtain⟨q,l,h⟩:=h
     refine AH (ih0 _ _ _ _ _ l) (Z ?_)
     exact AR (ih3 a0 a1 a3 w y q _ h) [] []
    ·replace h:=AD h; obtain⟨q,l,h⟩:=h
     refine AH (ih0 _ _ _ _ _ l) (Z ?_)
     exact AR (ih3 a0 a1 a3 w y q _ h) [] []
   ·refine AF ?_
    cases h
    simp only [go_sem]
  ·intro a0 a1 a3 w y q r h
   rw [Ed] at h
   refine AK rfl rfl (Z ?_)
   refine AB h (fun h=>Z ?_) (fun h=>Z ?_)
   ·cases h
    simp only [go_sem]
   ·refine AF ?_
    refine AF ?_
    exact lpF (ih2 a0 a1 a3 (IntKind.i64.wrap (w+q)) (IntKind.i64.wrap (y+1)) _ h) [] []
def RF (n:Nat):=(Ql n).1
theorem Vz (a0 r) (h:NH a0=some r):AC Tryz.prog 104 [.rop (Term.avs a0) 0] (.bool r):=by
 unfold NH at h
 refine acF Tryz.func104 mixed (h:=Z ?_)
 replace h:=AD h; obtain⟨u,w,h⟩:=h
 refine AH (RF fuel _ _ _ _ _ w) (Z ?_)
 refine AF ?_
 cases h
 simp only [go_sem]
theorem Ln (n:Nat):(∀a0 u r,BE n a0 u=some r→AY Tryz.prog Tryz.f54 [1,1,0,1,0] (.bool r) ⟨[(0,.rop [.ro (a0.datas.map Data.ds),.ro (a0.defs.map Def.ds)] 0),(3,.int .i64 u)],[],[]⟩)∧
    (∀a0 u w r,CU n a0 u w=some r→AY Tryz.prog Tryz.f54 [1,1,0,1,0,0,1,0,0,1,1] (.bool r) ⟨[(0,.rop [.ro (a0.datas.map Data.ds),.ro (a0.defs.map Def.ds)] 0),(3,.int .i64 u),(68,.bool w)],[],[]⟩):=by
 induction n with
 |zero=>exact⟨(fun _ _ _ h=>by rw [BE] at h; cases h),(fun _ _ _ _ h=>by rw [CU] at h; cases h)⟩
 | succ n ih=>
  obtain⟨ih0,ih1⟩:=ih
  refine⟨?_,?_⟩
  ·intro a0 u r h
   rw [BE] at h
   refine AK rfl rfl (Z ?_)
   refine AS (Z ?_)
   refine AB h (fun h=>Z ?_) (fun h=>Z ?_)
   ·refine AF ?_
    replace h:=AD h; obtain⟨y,q,h⟩:=h
    refine AL q (Def.ds_len _) (Z ?_)
    refine AX [] .fin (by kernel_rfl) (Z ?_)
    replace h:=AD h; obtain⟨g,j,h⟩:=h
    refine AH (J8 _ _ j) (Z ?_)
    refine AB h (fun h=>Z ?_) (fun h=>Z ?_)
    ·exact AR (ih1 a0 u true _ h) [] []
    ·replace h:=AD h; obtain⟨k,b,h⟩:=h
     refine AH (Iy _ _ _ b) (Z ?_)
     refine AB h (fun h=>Z ?_) (fun h=>Z ?_)
     ·exact AR (ih1 a0 u true _ h) [] []
     ·replace h:=AD h; obtain⟨d,c,h⟩:=h
      refine AH (IM _ _ c) (Z ?_)
      refine AB h (fun h=>Z ?_) (fun h=>Z ?_)
      ·exact AR (ih1 a0 u true _ h) [] []
      ·replace h:=AD h; obtain⟨e,i,h⟩:=h
       refine AH (VP (Vz _ _ i) (.cons (.rop rfl) .nil)) (Z ?_)
       exact AR (ih1 a0 u (!e) _ h) [] []
   ·refine AF ?_
    cases h
    simp only [go_sem]
  ·intro a0 u w r h
   rw [CU] at h
   refine AK rfl rfl (Z ?_)
   refine AB h (fun h=>Z ?_) (fun h=>Z ?_)
   ·cases h
    simp only [go_sem]
   ·refine AF ?_
    exact lpF (ih0 a0 (IntKind.i64.wrap (u+1)) _ h) [] []
def Mg (n:Nat):=(Ln n).1
theorem IN (a0:TProgram) (u:Bool) (r:Bool) (h:EX a0 u=some r):AY Tryz.prog Tryz.f54 [1,0,1] (.bool r) ⟨[(0,.rop [.ro (a0.datas.map Data.ds),.ro (a0.defs.map Def.ds)] 0),(19,.bool u)],[],[]⟩:=by
 unfold EX at h
 refine AK rfl rfl (Z ?_)
 refine AB h (fun h=>Z ?_) (fun h=>Z ?_)
 ·cases h
  simp only [go_sem]
 ·refine AF ?_
  exact loF (Mg fuel a0 0 _ h) [] []
theorem O8 (a0 r) (h:GJ a0=some r):AC Tryz.prog 54 [.rop (TProgram.avs a0) 0] (.bool r):=by
 unfold GJ at h
 refine acF Tryz.func54 mixed (h:=Z ?_)
 replace h:=AD h; obtain⟨u,w,h⟩:=h
 refine AH (Vy _ _ w) (Z ?_)
 refine AB h (fun h=>Z ?_) (fun h=>Z ?_)
 ·exact AR (IN a0 true _ h) [] []
 ·replace h:=AD h; obtain⟨y,q,h⟩:=h
  refine AH (IL _ _ _ _ q) (Z ?_)
  exact AR (IN a0 (!y) _ h) [] []
theorem Sx (a0 a1 r) (h:Lb a0 a1=some r):AC Tryz.prog 105 [.ro (a0.map strD),.ro (a1.map strD)] (.ow (some 1) (r.map strD)):=by
 unfold Lb at h
 refine acF Tryz.func105 mixed (h:=Z ?_)
 replace h:=AD h; obtain⟨u,w,h⟩:=h
 have hq_:=CZ w
 obtain⟨hv2002a,hv2002b⟩:=hq_
 refine Ga false (Z ?_)
 refine Cd (GG (by intro x; exact⟨rfl,by simp [go_sem,D.flat]⟩) _) (Z ?_)
 refine Cd (by refine⟨?_,?_⟩ <;> (try simp only [List.length_map,List.length_append,List.length_cons,List.length_nil] at*) <;> (try unfold maxLen) <;> omega) (Z ?_)
 refine C5 (u.map strD) (by rw [← hv2002b]; simp only [List.map_append,List.map_cons,List.map_nil,List.nil_append,List.append_nil,go_sem,slD]) (Z ?_)
 replace h:=AD h; obtain⟨y,q,h⟩:=h
 have hq_:=CZ q
 obtain⟨hv2004a,hv2004b⟩:=hq_
 refine Ga false (Z ?_)
 refine Cd (GG (by intro x; exact⟨rfl,by simp [go_sem,D.flat]⟩) _) (Z ?_)
 refine Cd (by refine⟨?_,?_⟩ <;> (try simp only [List.length_map,List.length_append,List.length_cons,List.length_nil] at*) <;> (try unfold maxLen) <;> omega) (Z ?_)
 refine C5 (y.map strD) (by rw [← hv2004b]; simp only [List.map_append,List.map_cons,List.map_nil,List.nil_append,List.append_nil,go_sem,slD]) (Z ?_)
 refine AF ?_
 cases h
 simp only [go_sem]
theorem Gp (a0:Term) (u:Bool) (r:(List ByteArray)) (h:Ee a0 u=some r):Ei Tryz.prog Tryz.f106 [1,0,0,1] (.ro (r.map strD)) [] [] ⟨[(0,.rop [.int .i64 a0.kind,.int .i64 a0.num,.str a0.name,.int .i64 a0.typ.kind,.str a0.typ.name,.ro (a0.typ.kids.map TType.ds),.ro (a0.names.map strD),.ro (a0.kids.map Term.ds)] 0),(5,.bool u)],[],[]⟩:=by
 unfold Ee at h
 refine BV rfl rfl (Z ?_)
 refine AB h (fun h=>Z ?_) (fun h=>Z ?_)
 ·refine AF ?_
  cases h
  refine An (.frzB 3004 [(0,[])] [] _ _ _ (by (first|rfl|(simp only [go_sem]; rfl))) (by decide) (by rfl) (by (first|rfl|(simp only [go_sem]; rfl))) (by (first|rfl|(simp only [go_sem]; rfl))) (.done _)) [] [] ?_
  simp only [go_sem]
  all_goals try rfl
 ·refine AB h (fun h=>Z ?_) (fun h=>Z ?_)
  ·cases h
   refine An (.done _) [] [] ?_
   simp only [go_sem]
  ·refine AF ?_
   cases h
   refine An (.frzN [(0,[])] [] _ _ (by (first|rfl|(simp only [go_sem]; rfl))) (by (first|rfl|(simp only [go_sem]; rfl))) (.done _)) [] [] ?_
   simp only [go_sem]
   all_goals try rfl
theorem RG (a0 a1 r) (h:IB a0 a1=some r):AG Tryz.prog 106 [.rop [.int .i64 a0.kind,.int .i64 a0.num,.str a0.name,.int .i64 a0.typ.kind,.str a0.typ.name,.ro (a0.typ.kids.map TType.ds),.ro (a0.names.map strD),.ro (a0.kids.map Term.ds)] 0,.int .i64 a1] [] [] (.ro (r.map strD)) [] [] :=by
 unfold IB at h
 refine agF Tryz.func106 mixed (h:=Z ?_)
 refine AB h (fun h=>Z ?_) (fun h=>Z ?_)
 ·exact Aj (Gp a0 true _ h) [] []
 ·refine AB h (fun h=>Z ?_) (fun h=>Z ?_)
  ·exact Aj (Gp a0 (decide (a1=1)) _ h) [] []
  ·exact Aj (Gp a0 false _ h) [] []
theorem RH (n:Nat):(∀a0 a1 a2 r,F6 n a0 a1 a2=some r→AG Tryz.prog 55 [.rop [.int .i64 a0.kind,.int .i64 a0.num,.str a0.name,.int .i64 a0.typ.kind,.str a0.typ.name,.ro (a0.typ.kids.map TType.ds),.ro (a0.names.map strD),.ro (a0.kids.map Term.ds)] 0,.ro (a1.map strD),.own 1001] [(1001,⟨List.map strD a2,some 1,0,false⟩)] [] (.own 1501) [(1501,⟨List.map strD r,some 1,0,false⟩)] [])∧
    (∀a0 a1 a2 u r,EL n a0 a1 a2 u=some r→Ei Tryz.prog Tryz.f55 [1,0,1] (.own 1501) [(1501,⟨List.map strD r,some 1,0,false⟩)] [] ⟨[(0,.rop [.int .i64 a0.kind,.int .i64 a0.num,.str a0.name,.int .i64 a0.typ.kind,.str a0.typ.name,.ro (a0.typ.kids.map TType.ds),.ro (a0.names.map strD),.ro (a0.kids.map Term.ds)] 0),(1,.ro (a1.map strD)),(2,.own 1000000000),(30,.bool u)],[(1000000000,some ⟨List.map strD a2,some 1,0,false⟩)],[]⟩)∧
    (∀a0 a1 w r,FP n a0 a1 w=some r→Ei Tryz.prog Tryz.f55 [1,1] (.own 1501) [(1501,⟨List.map strD r,some 1,0,false⟩)] [] ⟨[(0,.rop [.int .i64 a0.kind,.int .i64 a0.num,.str a0.name,.int .i64 a0.typ.kind,.str a0.typ.name,.ro (a0.typ.kids.map TType.ds),.ro (a0.names.map strD),.ro (a0.kids.map Term.ds)] 0),(1,.ro (a1.map strD)),(2,.own 1000001000)],[(1000001000,some ⟨List.map strD w,some 1,0,false⟩)],[]⟩)∧
    (∀a0 a1 y q r,B6 n a0 a1 y q=some r→Ei Tryz.prog Tryz.f55 [1,1,0,1,0] (.own 1501) [(1501,⟨List.map strD r,some 1,0,false⟩)] [] ⟨[(0,.rop [.int .i64 a0.kind,.int .i64 a0.num,.str a0.name,.int .i64 a0.typ.kind,.str a0.typ.name,.ro (a0.typ.kids.map TType.ds),.ro (a0.names.map strD),.ro (a0.kids.map Term.ds)] 0),(1,.ro (a1.map strD)),(2,.own 1000003000),(7,.int .i64 q)],[(1000003000,some ⟨List.map strD y,some 1,0,false⟩)],[]⟩):=by
 induction n with
 |zero=>exact⟨(fun _ _ _ _ h=>by rw [F6] at h; cases h),(fun _ _ _ _ _ h=>by rw [EL] at h; cases h),(fun _ _ _ _ h=>by rw [FP] at h; cases h),(fun _ _ _ _ _ h=>by rw [B6] at h; cases h)⟩
 | succ n ih=>
  obtain⟨ih0,ih1,ih2,ih3⟩:=ih
  refine⟨?_,?_,?_,?_⟩
  ·intro a0 a1 a2 r h
   rw [F6] at h
   refine agF Tryz.func55 mixed (h:=Z ?_)
   refine AB h (fun h=>Z ?_) (fun h=>Z ?_)
   ·replace h:=AD h; obtain⟨g,j,h⟩:=h
    refine AH (J9 _ _ _ j) (Z ?_)
    refine AB h (fun h=>Z ?_) (fun h=>Z ?_)
    ·replace h:=AD h; obtain⟨k,b,h⟩:=h
     refine AH (J9 _ _ _ b) (Z ?_)
     exact Aj (ih1 a0 a1 a2 (decide (k<0)) _ h) [(1000000000,1001)] []
    ·exact Aj (ih1 a0 a1 a2 false _ h) [(1000000000,1001)] []
   ·exact Aj (ih1 a0 a1 a2 false _ h) [(1000000000,1001)] []
  ·intro a0 a1 a2 u r h
   rw [EL] at h
   refine BV rfl rfl (Z ?_)
   refine AB h (fun h=>Z ?_) (fun h=>Z ?_)
   ·replace h:=AD h; obtain⟨d,c,h⟩:=h
    have hq_:=CZ c
    obtain⟨hv3006a,hv3006b⟩:=hq_
    refine Ga false (Z ?_)
    refine Cd (by refine⟨?_,?_⟩ <;> (try simp only [List.length_map,List.length_append,List.length_cons,List.length_nil] at*) <;> (try unfold maxLen) <;> omega) (Z ?_)
    refine C5 (d.map strD) (by rw [← hv3006b]; simp only [List.map_append,List.map_cons,List.map_nil,List.nil_append,List.append_nil,go_sem,slD]) (Z ?_)
    exact Aj (ih2 a0 a1 d _ h) [(1000001000,48096)] []
   ·exact Aj (ih2 a0 a1 a2 _ h) [(1000001000,1000000000)] []
  ·intro a0 a1 w r h
   rw [FP] at h
   refine BV rfl rfl (Z ?_)
   exact loG (ih3 a0 a1 w 0 _ h) [(1000003000,1000001000)] []
  ·intro a0 a1 y q r h
   rw [B6] at h
   refine BV rfl rfl (Z ?_)
   refine AS (Z ?_)
   refine AB h (fun h=>Z ?_) (fun h=>Z ?_)
   ·refine AF ?_
    refine AX [false,false,false,false,false,false,false,false,false,false,false,false,true,true] (Tr.sq [12,13] .fin) (by kernel_rfl) (Z ?_)
    replace h:=AD h; obtain⟨e,i,h⟩:=h
    refine AL i (Term.ds_len _) (Z ?_)
    replace h:=AD h; obtain⟨l,t,h⟩:=h
    refine Ao (RG _ _ _ t) (by (first|rfl|(simp only [go_sem]; rfl))) (by first|rfl|(simp only [go_sem])) (Z ?_)
    replace h:=AD h; obtain⟨s,o,h⟩:=h
    refine AH (Sx _ _ _ o) (Z ?_)
    replace h:=AD h; obtain⟨z,u1,h⟩:=h
    refine caG ⟨[],[(1001,1000003000)],[],[(1501,112192)],[],false⟩ (ih0 _ _ _ _ u1) (Z ?_)
    refine AF ?_
    exact lpG (ih3 a0 a1 z (IntKind.i64.wrap (q+1)) _ h) [(1000003000,112192)] []
   ·refine AF ?_
    cases h
    refine An (.done _) [(1501,1000003000)] [] ?_
    simp only [go_sem]
def Sy (n:Nat):=(RH n).1
theorem Ja (n:Nat):(∀a0 a1 u r,Ay n a0 a1 u=some r→AY Tryz.prog Tryz.f67 [1,0,1,0] (.tup [.int .i64 r.1,.int .i64 r.2]) ⟨[(0,.ro (a0.map Data.ds)),(1,.str a1),(6,.int .i64 u)],[],[]⟩)∧
    (∀a0 a1 u w r,A3 n a0 a1 u w=some r→AY Tryz.prog Tryz.f67 [1,0,1,0,0,1,0,0,1,0] (.tup [.int .i64 r.1,.int .i64 r.2]) ⟨[(0,.ro (a0.map Data.ds)),(1,.str a1),(6,.int .i64 u),(7,.int .i64 w)],[],[]⟩):=by
 induction n with
 |zero=>exact⟨(fun _ _ _ _ h=>by rw [Ay] at h; cases h),(fun _ _ _ _ _ h=>by rw [A3] at h; cases h)⟩
 | succ n ih=>
  obtain⟨ih0,ih1⟩:=ih
  refine⟨?_,?_⟩
  ·intro a0 a1 u r h
   rw [Ay] at h
   refine AK rfl rfl (Z ?_)
   refine AS (Z ?_)
   refine AB h (fun h=>Z ?_) (fun h=>Z ?_)
   ·refine AF ?_
    exact loF (ih1 a0 a1 u 0 _ h) [] []
   ·refine AF ?_
    cases h
    simp only [go_sem]
  ·intro a0 a1 u w r h
   rw [A3] at h
   refine AK rfl rfl (Z ?_)
   refine AS (Z ?_)
   replace h:=AD h; obtain⟨y,q,h⟩:=h
   refine AL q (Data.ds_len _) (Z ?_)
   refine AB h (fun h=>Z ?_) (fun h=>Z ?_)
   ·refine AF ?_
    replace h:=AD h; obtain⟨g,j,h⟩:=h
    refine AL j (Data.ds_len _) (Z ?_)
    replace h:=AD h; obtain⟨k,b,h⟩:=h
    refine AL b (Constructor.ds_len _) (Z ?_)
    refine AB h (fun h=>Z ?_) (fun h=>Z ?_)
    ·cases h
     simp only [go_sem]
    ·refine AF ?_
     exact lpF (ih1 a0 a1 u (IntKind.i64.wrap (w+1)) _ h) [] []
   ·refine AF ?_
    exact lpF (ih0 a0 a1 (IntKind.i64.wrap (u+1)) _ h) [] []
def KA (n:Nat):=(Ja n).1
theorem CT (a0 a1 r) (h:BP a0 a1=some r):AC Tryz.prog 67 [.ro (a0.map Data.ds),.str a1] (.tup [.int .i64 r.1,.int .i64 r.2]):=by
 unfold BP at h
 refine acF Tryz.func67 mixed (h:=Z ?_)
 exact loF (KA fuel a0 a1 0 _ h) [] []
theorem NW (n:Nat):(∀a0 a1 r,C9 n a0 a1=some r→AC Tryz.prog 58 [.ro (a0.map Data.ds),.rop (Term.avs a1) 0] (.bool r))∧
    (∀a0 a1 u r,DD n a0 a1 u=some r→AY Tryz.prog Tryz.f58 [1,0,1] (.bool r) ⟨[(0,.ro (a0.map Data.ds)),(1,.rop [.int .i64 a1.kind,.int .i64 a1.num,.str a1.name,.int .i64 a1.typ.kind,.str a1.typ.name,.ro (a1.typ.kids.map TType.ds),.ro (a1.names.map strD),.ro (a1.kids.map Term.ds)] 0),(21,.bool u)],[],[]⟩)∧
    (∀a0 a1 w r,DE n a0 a1 w=some r→AY Tryz.prog Tryz.f58 [1,1,0,1] (.bool r) ⟨[(0,.ro (a0.map Data.ds)),(1,.rop [.int .i64 a1.kind,.int .i64 a1.num,.str a1.name,.int .i64 a1.typ.kind,.str a1.typ.name,.ro (a1.typ.kids.map TType.ds),.ro (a1.names.map strD),.ro (a1.kids.map Term.ds)] 0),(33,.bool w)],[],[]⟩)∧
    (∀a0 a1 r,DF n a0 a1=some r→AY Tryz.prog Tryz.f58 [1,1,1] (.bool r) ⟨[(0,.ro (a0.map Data.ds)),(1,.rop [.int .i64 a1.kind,.int .i64 a1.num,.str a1.name,.int .i64 a1.typ.kind,.str a1.typ.name,.ro (a1.typ.kids.map TType.ds),.ro (a1.names.map strD),.ro (a1.kids.map Term.ds)] 0)],[],[]⟩)∧
    (∀a0 a1 y r,BF n a0 a1 y=some r→AY Tryz.prog Tryz.f58 [1,1,1,0,1,0] (.bool r) ⟨[(0,.ro (a0.map Data.ds)),(1,.rop [.int .i64 a1.kind,.int .i64 a1.num,.str a1.name,.int .i64 a1.typ.kind,.str a1.typ.name,.ro (a1.typ.kids.map TType.ds),.ro (a1.names.map strD),.ro (a1.kids.map Term.ds)] 0),(7,.int .i64 y)],[],[]⟩):=by
 induction n with
 |zero=>exact⟨(fun _ _ _ h=>by rw [C9] at h; cases h),(fun _ _ _ _ h=>by rw [DD] at h; cases h),(fun _ _ _ _ h=>by rw [DE] at h; cases h),(fun _ _ _ h=>by rw [DF] at h; cases h),(fun _ _ _ _ h=>by rw [BF] at h; cases h)⟩
 | succ n ih=>
  obtain⟨ih0,ih1,ih2,ih3,ih4⟩:=ih
  refine⟨?_,?_,?_,?_,?_⟩
  ·intro a0 a1 r h
   rw [C9] at h
   refine acF Tryz.func58 mixed (h:=Z ?_)
   refine AB h (fun h=>Z ?_) (fun h=>Z ?_)
   ·replace h:=AD h; obtain⟨q,g,h⟩:=h
    refine AH (Iz fuel _ _ _ g) (Z ?_)
    exact AR (ih1 a0 a1 (!q) _ h) [] []
   ·exact AR (ih1 a0 a1 false _ h) [] []
  ·intro a0 a1 u r h
   rw [DD] at h
   refine AK rfl rfl (Z ?_)
   refine AB h (fun h=>Z ?_) (fun h=>Z ?_)
   ·cases h
    simp only [go_sem]
   ·refine AF ?_
    refine AB h (fun h=>Z ?_) (fun h=>Z ?_)
    ·exact AR (ih2 a0 a1 true _ h) [] []
    ·exact AR (ih2 a0 a1 (decide (a1.kind=10)) _ h) [] []
  ·intro a0 a1 w r h
   rw [DE] at h
   refine AK rfl rfl (Z ?_)
   refine AB h (fun h=>Z ?_) (fun h=>Z ?_)
   ·replace h:=AD h; obtain⟨j,k,h⟩:=h
    refine AH (CT _ _ _ k) (Z ?_)
    refine AF ?_
    refine AB h (fun h=>Z ?_) (fun h=>Z ?_)
    ·cases h
     simp only [go_sem]
    ·exact AR (ih3 a0 a1 _ h) [] []
   ·exact AR (ih3 a0 a1 _ h) [] []
  ·intro a0 a1 r h
   rw [DF] at h
   refine AK rfl rfl (Z ?_)
   exact loF (ih4 a0 a1 0 _ h) [] []
  ·intro a0 a1 y r h
   rw [BF] at h
   refine AK rfl rfl (Z ?_)
   refine AS (Z ?_)
   refine AB h (fun h=>Z ?_) (fun h=>Z ?_)
   ·refine AF ?_
    replace h:=AD h; obtain⟨b,d,h⟩:=h
    refine AL d (Term.ds_len _) (Z ?_)
    replace h:=AD h; obtain⟨c,e,h⟩:=h
    refine AH (ih0 _ _ _ e) (Z ?_)
    refine AF ?_
    refine AB h (fun h=>Z ?_) (fun h=>Z ?_)
    ·cases h
     simp only [go_sem]
    ·refine AF ?_
     exact lpF (ih4 a0 a1 (IntKind.i64.wrap (y+1)) _ h) [] []
   ·refine AF ?_
    cases h
    simp only [go_sem]
def OS (n:Nat):=(NW n).1
theorem LE (n:Nat):(∀a1 u w r,BG n a1 u w=some r→AY Tryz.prog Tryz.f108 [1,1,1,1,0,1,0] (.bool r) ⟨[(1,.rop [.int .i64 a1.kind,.int .i64 a1.num,.str a1.name,.int .i64 a1.typ.kind,.str a1.typ.name,.ro (a1.typ.kids.map TType.ds),.ro (a1.names.map strD),.ro (a1.kids.map Term.ds)] 0),(7,.ro (u.cons.map Constructor.ds)),(8,.int .i64 w)],[],[]⟩)∧
    (∀a1 w u y r,DG n a1 w u y=some r→AY Tryz.prog Tryz.f108 [1,1,1,1,0,1,0,0,1,0,0,1] (.bool r) ⟨[(1,.rop [.int .i64 a1.kind,.int .i64 a1.num,.str a1.name,.int .i64 a1.typ.kind,.str a1.typ.name,.ro (a1.typ.kids.map TType.ds),.ro (a1.names.map strD),.ro (a1.kids.map Term.ds)] 0),(7,.ro (u.cons.map Constructor.ds)),(8,.int .i64 w),(74,.bool y)],[],[]⟩):=by
 induction n with
 |zero=>exact⟨(fun _ _ _ _ h=>by rw [BG] at h; cases h),(fun _ _ _ _ _ h=>by rw [DG] at h; cases h)⟩
 | succ n ih=>
  obtain⟨ih0,ih1⟩:=ih
  refine⟨?_,?_⟩
  ·intro a1 u w r h
   rw [BG] at h
   refine AK rfl rfl (Z ?_)
   refine AS (Z ?_)
   refine AB h (fun h=>Z ?_) (fun h=>Z ?_)
   ·refine AF ?_
    refine AX [] .fin (by kernel_rfl) (Z ?_)
    replace h:=AD h; obtain⟨q,g,h⟩:=h
    refine AL g (Term.ds_len _) (Z ?_)
    replace h:=AD h; obtain⟨j,k,h⟩:=h
    refine AL k (Constructor.ds_len _) (Z ?_)
    refine AB h (fun h=>Z ?_) (fun h=>Z ?_)
    ·exact AR (ih1 a1 w u true _ h) [] []
    ·replace h:=AD h; obtain⟨b,d,h⟩:=h
     refine AL d (Term.ds_len _) (Z ?_)
     replace h:=AD h; obtain⟨c,e,h⟩:=h
     refine AL e (Constructor.ds_len _) (Z ?_)
     exact AR (ih1 a1 w u (!decide ((b.names.length:Int)=(c.fields.length:Int))) _ h) [] []
   ·refine AF ?_
    cases h
    simp only [go_sem]
  ·intro a1 w u y r h
   rw [DG] at h
   refine AK rfl rfl (Z ?_)
   refine AB h (fun h=>Z ?_) (fun h=>Z ?_)
   ·cases h
    simp only [go_sem]
   ·refine AF ?_
    exact lpF (ih0 a1 u (IntKind.i64.wrap (w+1)) _ h) [] []
def Lo (n:Nat):=(LE n).1
theorem OT (a0 a1 r) (h:Fg a0 a1=some r):AC Tryz.prog 108 [.ro (a0.map Data.ds),.rop (Term.avs a1) 0] (.bool r):=by
 unfold Fg at h
 refine acF Tryz.func108 mixed (h:=Z ?_)
 replace h:=AD h; obtain⟨u,w,h⟩:=h
 refine AL w (Term.ds_len _) (Z ?_)
 replace h:=AD h; obtain⟨y,q,h⟩:=h
 refine AH (CT _ _ _ q) (Z ?_)
 refine AF ?_
 replace h:=AD h; obtain⟨g,j,h⟩:=h
 refine AL j (Data.ds_len _) (Z ?_)
 refine AB h (fun h=>Z ?_) (fun h=>Z ?_)
 ·cases h
  simp only [go_sem]
 ·refine AF ?_
  exact loF (Lo fuel a1 g 0 _ h) [] []
theorem Mh (n:Nat):(∀a0 a1 r,Cg n a0 a1=some r→AC Tryz.prog 59 [.ro (a0.map Data.ds),.rop (Term.avs a1) 0] (.bool r))∧
    (∀a0 a1 r,CL n a0 a1=some r→AY Tryz.prog Tryz.f59 [1,1] (.bool r) ⟨[(0,.ro (a0.map Data.ds)),(1,.rop [.int .i64 a1.kind,.int .i64 a1.num,.str a1.name,.int .i64 a1.typ.kind,.str a1.typ.name,.ro (a1.typ.kids.map TType.ds),.ro (a1.names.map strD),.ro (a1.kids.map Term.ds)] 0)],[],[]⟩)∧
    (∀a0 a1 u r,A6 n a0 a1 u=some r→AY Tryz.prog Tryz.f59 [1,1,0,1,0] (.bool r) ⟨[(0,.ro (a0.map Data.ds)),(1,.rop [.int .i64 a1.kind,.int .i64 a1.num,.str a1.name,.int .i64 a1.typ.kind,.str a1.typ.name,.ro (a1.typ.kids.map TType.ds),.ro (a1.names.map strD),.ro (a1.kids.map Term.ds)] 0),(7,.int .i64 u)],[],[]⟩):=by
 induction n with
 |zero=>exact⟨(fun _ _ _ h=>by rw [Cg] at h; cases h),(fun _ _ _ h=>by rw [CL] at h; cases h),(fun _ _ _ _ h=>by rw [A6] at h; cases h)⟩
 | succ n ih=>
  obtain⟨ih0,ih1,ih2⟩:=ih
  refine⟨?_,?_,?_⟩
  ·intro a0 a1 r h
   rw [Cg] at h
   refine acF Tryz.func59 mixed (h:=Z ?_)
   refine AB h (fun h=>Z ?_) (fun h=>Z ?_)
   ·replace h:=AD h; obtain⟨w,y,h⟩:=h
    refine AH (CT _ _ _ y) (Z ?_)
    refine AF ?_
    refine AX [] .fin (by kernel_rfl) (Z ?_)
    replace h:=AD h; obtain⟨q,g,h⟩:=h
    refine AL g (Data.ds_len _) (Z ?_)
    replace h:=AD h; obtain⟨j,k,h⟩:=h
    refine AL k (Constructor.ds_len _) (Z ?_)
    refine AF ?_
    refine AB h (fun h=>Z ?_) (fun h=>Z ?_)
    ·cases h
     simp only [go_sem]
    ·exact AR (ih1 a0 a1 _ h) [] []
   ·refine AB h (fun h=>Z ?_) (fun h=>Z ?_)
    ·replace h:=AD h; obtain⟨b,d,h⟩:=h
     refine AH (OT _ _ _ d) (Z ?_)
     refine AF ?_
     refine AB h (fun h=>Z ?_) (fun h=>Z ?_)
     ·cases h
      simp only [go_sem]
     ·exact AR (ih1 a0 a1 _ h) [] []
    ·exact AR (ih1 a0 a1 _ h) [] []
  ·intro a0 a1 r h
   rw [CL] at h
   refine AK rfl rfl (Z ?_)
   exact loF (ih2 a0 a1 0 _ h) [] []
  ·intro a0 a1 u r h
   rw [A6] at h
   refine AK rfl rfl (Z ?_)
   refine AS (Z ?_)
   refine AB h (fun h=>Z ?_) (fun h=>Z ?_)
   ·refine AF ?_
    replace h:=AD h; obtain⟨c,e,h⟩:=h
    refine AL e (Term.ds_len _) (Z ?_)
    replace h:=AD h; obtain⟨i,l,h⟩:=h
    refine AH (ih0 _ _ _ l) (Z ?_)
    refine AF ?_
    refine AB h (fun h=>Z ?_) (fun h=>Z ?_)
    ·cases h
     simp only [go_sem]
    ·refine AF ?_
     exact lpF (ih2 a0 a1 (IntKind.i64.wrap (u+1)) _ h) [] []
   ·refine AF ?_
    cases h
    simp only [go_sem]
def NX (n:Nat):=(Mh n).1
theorem NY (n:Nat):(∀a0 u r,BN n a0 u=some r→AY Tryz.prog Tryz.f29 [1,1,1,0,1,0] (.int .i64 r) ⟨[(0,.rop [.ro (a0.datas.map Data.ds),.ro (a0.defs.map Def.ds)] 0),(7,.int .i64 u)],[],[]⟩):=by
 induction n with
 |zero=>exact((fun _ _ _ h=>by rw [BN] at h; cases h))
 | succ n ih=>
  have ih0:=ih
  ·intro a0 u r h
   rw [BN] at h
   refine AK rfl rfl (Z ?_)
   refine AS (Z ?_)
   refine AB h (fun h=>Z ?_) (fun h=>Z ?_)
   ·refine AF ?_
    refine AX [] .fin (by kernel_rfl) (Z ?_)
    replace h:=AD h; obtain⟨w,y,h⟩:=h
    refine AL y (Def.ds_len _) (Z ?_)
    replace h:=AD h; obtain⟨q,g,h⟩:=h
    refine AH (VP (NX fuel _ _ _ g) (.cons (.refl _) (.cons (.rop rfl) .nil))) (Z ?_)
    refine AF ?_
    refine AB h (fun h=>Z ?_) (fun h=>Z ?_)
    ·cases h
     simp only [go_sem]
    ·refine AF ?_
     exact lpF (ih0 a0 (IntKind.i64.wrap (u+1)) _ h) [] []
   ·refine AF ?_
    cases h
    simp only [go_sem]
theorem Mi (n:Nat):(∀a0 u r,BO n a0 u=some r→AY Tryz.prog Tryz.f29 [1,1,0,1,0] (.int .i64 r) ⟨[(0,.rop [.ro (a0.datas.map Data.ds),.ro (a0.defs.map Def.ds)] 0),(3,.int .i64 u)],[],[]⟩)∧
    (∀a0 u w y q r,Bc n a0 u w y q=some r→AY Tryz.prog Tryz.f29 [1,1,0,1,0,0,1,0,0,1,1,0,1,0] (.int .i64 r) ⟨[(0,.rop [.ro (a0.datas.map Data.ds),.ro (a0.defs.map Def.ds)] 0),(3,.int .i64 u),(4,.rop [.str w.name,.int .i64 w.typ.kind,.str w.typ.name,.ro (w.typ.kids.map TType.ds),.int .i64 w.body.kind,.int .i64 w.body.num,.str w.body.name,.int .i64 w.body.typ.kind,.str w.body.typ.name,.ro (w.body.typ.kids.map TType.ds),.ro (w.body.names.map strD),.ro (w.body.kids.map Term.ds)] 0),(5,.own 1000009000),(6,.int .i64 q)],[(1000009000,some ⟨List.map strD y,some 1,0,false⟩)],[]⟩)∧
    (∀a0 u g r,D0 n a0 u g=some r→AY Tryz.prog Tryz.f29 [1,1,0,1,0,0,1,0,0,1,1,1,1] (.int .i64 r) ⟨[(0,.rop [.ro (a0.datas.map Data.ds),.ro (a0.defs.map Def.ds)] 0),(3,.int .i64 u),(66,.bool g)],[],[]⟩):=by
 induction n with
 |zero=>exact⟨(fun _ _ _ h=>by rw [BO] at h; cases h),(fun _ _ _ _ _ _ h=>by rw [Bc] at h; cases h),(fun _ _ _ _ h=>by rw [D0] at h; cases h)⟩
 | succ n ih=>
  obtain⟨ih0,ih1,ih2⟩:=ih
  refine⟨?_,?_,?_⟩
  ·intro a0 u r h
   rw [BO] at h
   refine AK rfl rfl (Z ?_)
   refine AS (Z ?_)
   refine AB h (fun h=>Z ?_) (fun h=>Z ?_)
   ·refine AF ?_
    replace h:=AD h; obtain⟨w,j,h⟩:=h
    refine AL j (Def.ds_len _) (Z ?_)
    replace h:=AD h; obtain⟨y,k,h⟩:=h
    refine caG ⟨[(3000128048,.nils,some 1)],[(1001,3000128048)],[],[(1501,128048)],[],true⟩ (Sy fuel _ _ _ _ k) (Z ?_)
    refine AF ?_
    exact loF (ih1 a0 u w y 0 _ h) [(1000009000,128048)] []
   ·refine AF ?_
    exact loF (NY fuel a0 0 _ h) [] []
  ·intro a0 u w y q r h
   rw [Bc] at h
   refine AK rfl rfl (Z ?_)
   refine AS (Z ?_)
   refine AB h (fun h=>Z ?_) (fun h=>Z ?_)
   ·refine AF ?_
    refine AX [] .fin (by kernel_rfl) (Z ?_)
    replace h:=AD h; obtain⟨b,d,h⟩:=h
    refine AL d rfl (Z ?_)
    refine Bb (Cy d) (Z ?_)
    replace h:=AD h; obtain⟨c,e,h⟩:=h
    refine AH (Iy _ _ _ e) (Z ?_)
    refine AF ?_
    refine AB h (fun h=>Z ?_) (fun h=>Z ?_)
    ·cases h
     simp only [go_sem]
    ·refine AF ?_
     exact lpF (ih1 a0 u w y (IntKind.i64.wrap (q+1)) _ h) [(1000009000,1000009000)] []
   ·refine AF ?_
    refine AX [] .fin (by kernel_rfl) (Z ?_)
    replace h:=AD h; obtain⟨i,l,h⟩:=h
    refine AH (Iz fuel _ _ _ l) (Z ?_)
    refine AB h (fun h=>Z ?_) (fun h=>Z ?_)
    ·exact AR (ih2 a0 u true _ h) [] []
    ·replace h:=AD h; obtain⟨t,s,h⟩:=h
     refine AH (VP (OS fuel _ _ _ s) (.cons (.refl _) (.cons (.rop rfl) .nil))) (Z ?_)
     exact AR (ih2 a0 u (!t) _ h) [] []
  ·intro a0 u g r h
   rw [D0] at h
   refine AK rfl rfl (Z ?_)
   refine AB h (fun h=>Z ?_) (fun h=>Z ?_)
   ·cases h
    simp only [go_sem]
   ·refine AF ?_
    exact lpF (ih0 a0 (IntKind.i64.wrap (u+1)) _ h) [] []
def NZ (n:Nat):=(Mi n).1
theorem RI (a0 r) (h:IC a0=some r):AC Tryz.prog 29 [.rop (TProgram.avs a0) 0] (.int .i64 r):=by
 unfold IC at h
 refine acF Tryz.func29 mixed (h:=Z ?_)
 replace h:=AD h; obtain⟨u,w,h⟩:=h
 refine AH (O8 _ _ w) (Z ?_)
 refine AF ?_
 refine AB h (fun h=>Z ?_) (fun h=>Z ?_)
 ·cases h
  simp only [go_sem]
 ·refine AF ?_
  exact loF (NZ fuel a0 0 _ h) [] []
theorem Na (a0 r) (h:JK a0=some r):AC Tryz.prog 168 [.int .u8 a0] (.bool r):=by
 unfold JK at h
 refine acF Tryz.func168 mixed (h:=Z ?_)
 refine AB h (fun h=>Z ?_) (fun h=>Z ?_)
 ·refine AF ?_
  cases h
  simp only [go_sem]
 ·refine AF ?_
  cases h
  simp only [go_sem]
theorem KQ (n:Nat):(∀a0 a1 u r,Bd n a0 a1 u=some r→AY Tryz.prog Tryz.f184 [1,0,1,0] (.int .i64 r) ⟨[(0,.ro (a0.map strD)),(1,.str a1),(7,.int .i64 (a0.length:Int)),(8,.int .i64 u)],[],[]⟩):=by
 induction n with
 |zero=>exact((fun _ _ _ _ h=>by rw [Bd] at h; cases h))
 | succ n ih=>
  have ih0:=ih
  ·intro a0 a1 u r h
   rw [Bd] at h
   refine AK rfl rfl (Z ?_)
   refine AS (Z ?_)
   refine AB h (fun h=>Z ?_) (fun h=>Z ?_)
   ·refine AF ?_
    replace h:=AD h; obtain⟨w,y,h⟩:=h
    refine AL y rfl (Z ?_)
    refine AB h (fun h=>Z ?_) (fun h=>Z ?_)
    ·cases h
     simp only [go_sem]
    ·refine AF ?_
     exact lpF (ih0 a0 a1 (IntKind.i64.wrap (u+1)) _ h) [] []
   ·refine AF ?_
    cases h
    simp only [go_sem]
theorem Mj (a0 a1 r) (h:EY a0 a1=some r):AC Tryz.prog 184 [.ro (a0.map strD),.str a1] (.int .i64 r):=by
 unfold EY at h
 refine acF Tryz.func184 mixed (h:=Z ?_)
 exact loF (KQ fuel a0 a1 0 _ h) [] []
theorem DS (a0 a1 r) (h:BM a0 a1=some r):AC Tryz.prog 173 [.ro (a0.map strD),.str a1] (.bool r):=by
 unfold BM at h
 refine acF Tryz.func173 mixed (h:=Z ?_)
 replace h:=AD h; obtain⟨u,w,h⟩:=h
 refine AH (Mj _ _ _ w) (Z ?_)
 refine AF ?_
 cases h
 simp only [go_sem]
theorem Qm (a0 r) (h:G0 a0=some r):AC Tryz.prog 169 [.str a0] (.bool r):=by
 unfold G0 at h
 refine acF Tryz.func169 mixed (h:=Z ?_)
 replace h:=AD h; obtain⟨u,w,h⟩:=h
 refine AH (DS _ _ _ w) (Z ?_)
 refine AF ?_
 cases h
 simp only [go_sem]
theorem Nb (a0 r) (h:Hq a0=some r):AC Tryz.prog 147 [.int .u8 a0] (.bool r):=by
 unfold Hq at h
 refine acF Tryz.func147 mixed (h:=Z ?_)
 refine AB h (fun h=>Z ?_) (fun h=>Z ?_)
 ·refine AF ?_
  cases h
  simp only [go_sem]
 ·refine AF ?_
  cases h
  simp only [go_sem]
theorem LG (a0 r) (h:F7 a0=some r):AC Tryz.prog 164 [.int .u8 a0] (.bool r):=by
 unfold F7 at h
 refine acF Tryz.func164 mixed (h:=Z ?_)
 refine AB h (fun h=>Z ?_) (fun h=>Z ?_)
 ·refine AF ?_
  cases h
  simp only [go_sem]
 ·refine AF ?_
  cases h
  simp only [go_sem]
theorem O9 (a0 r) (h:GK a0=some r):AC Tryz.prog 170 [.int .u8 a0] (.bool r):=by
 unfold GK at h
 refine acF Tryz.func170 mixed (h:=Z ?_)
 replace h:=AD h; obtain⟨u,w,h⟩:=h
 refine AH (Nb _ _ w) (Z ?_)
 refine AB h (fun h=>Z ?_) (fun h=>Z ?_)
 ·refine AF ?_
  cases h
  simp only [go_sem]
 ·replace h:=AD h; obtain⟨y,q,h⟩:=h
  refine AH (LG _ _ q) (Z ?_)
  refine AB h (fun h=>Z ?_) (fun h=>Z ?_)
  ·refine AF ?_
   cases h
   simp only [go_sem]
  ·replace h:=AD h; obtain⟨g,j,h⟩:=h
   refine AH (Na _ _ j) (Z ?_)
   refine AF ?_
   cases h
   simp only [go_sem]
theorem Qn (n:Nat):(∀a0 u r,EB n a0 u=some r→AY Tryz.prog Tryz.f146 [1,1,0,1,0] (.bool r) ⟨[(0,.str a0),(22,.int .i64 (a0.size:Int)),(23,.int .i64 u)],[],[]⟩):=by
 induction n with
 |zero=>exact((fun _ _ _ h=>by rw [EB] at h; cases h))
 | succ n ih=>
  have ih0:=ih
  ·intro a0 u r h
   rw [EB] at h
   refine AK rfl rfl (Z ?_)
   refine AS (Z ?_)
   refine AB h (fun h=>Z ?_) (fun h=>Z ?_)
   ·refine AF ?_
    replace h:=AD h; obtain⟨w,y,h⟩:=h
    refine Bb y (Z ?_)
    replace h:=AD h; obtain⟨q,g,h⟩:=h
    refine AH (O9 _ _ g) (Z ?_)
    refine AF ?_
    refine AB h (fun h=>Z ?_) (fun h=>Z ?_)
    ·cases h
     simp only [go_sem]
    ·refine AF ?_
     exact lpF (ih0 a0 (IntKind.i64.wrap (u+1)) _ h) [] []
   ·refine AF ?_
    cases h
    simp only [go_sem]
theorem GY (a0:ByteArray) (u:Bool) (r:Bool) (h:E4 a0 u=some r):AY Tryz.prog Tryz.f146 [1,0,1] (.bool r) ⟨[(0,.str a0),(20,.bool u)],[],[]⟩:=by
 unfold E4 at h
 refine AK rfl rfl (Z ?_)
 refine AB h (fun h=>Z ?_) (fun h=>Z ?_)
 ·cases h
  simp only [go_sem]
 ·refine AF ?_
  exact loF (Qn fuel a0 0 _ h) [] []
theorem Ou (a0 r) (h:JL a0=some r):AC Tryz.prog 146 [.str a0] (.bool r):=by
 unfold JL at h
 refine acF Tryz.func146 mixed (h:=Z ?_)
 refine AB h (fun h=>Z ?_) (fun h=>Z ?_)
 ·exact AR (GY a0 true _ h) [] []
 ·refine AB h (fun h=>Z ?_) (fun h=>Z ?_)
  ·exact AR (GY a0 true _ h) [] []
  ·replace h:=AD h; obtain⟨u,w,h⟩:=h
   refine Bb w (Z ?_)
   replace h:=AD h; obtain⟨y,q,h⟩:=h
   refine AH (Na _ _ q) (Z ?_)
   refine AB h (fun h=>Z ?_) (fun h=>Z ?_)
   ·exact AR (GY a0 true _ h) [] []
   ·replace h:=AD h; obtain⟨g,j,h⟩:=h
    refine AH (Qm _ _ j) (Z ?_)
    exact AR (GY a0 g _ h) [] []
theorem Hf (a0 r) (h:F8 a0=some r):AC Tryz.prog 143 [.str a0] (.bool r):=by
 unfold F8 at h
 refine acF Tryz.func143 mixed (h:=Z ?_)
 replace h:=AD h; obtain⟨u,w,h⟩:=h
 refine AH (Ou _ _ w) (Z ?_)
 refine AB h (fun h=>Z ?_) (fun h=>Z ?_)
 ·replace h:=AD h; obtain⟨y,q,h⟩:=h
  refine Bb q (Z ?_)
  replace h:=AD h; obtain⟨g,j,h⟩:=h
  refine AH (LG _ _ j) (Z ?_)
  refine AF ?_
  cases h
  simp only [go_sem]
 ·refine AF ?_
  cases h
  simp only [go_sem]
theorem HJ (n:Nat):(∀ (a0:List Data) (u:Int) (f1:(Data→Option Bool)) (g1:FuncId) (c1:List AV) (s1:Still c1) (h1:∀ (y0:Data) (q:Bool),f1 y0=some q→AC Tryz.prog g1 (fnA c1 [.agg (Data.avs y0)]) (.bool q)) (r:Int),As n a0 u f1=some r→AY Tryz.prog Tryz.f165 [1,0,1,0] (.int .i64 r) ⟨[(0,.ro (a0.map Data.ds)),(1,.fn g1 c1),(7,.int .i64 (a0.length:Int)),(8,.int .i64 u)],[],[]⟩):=by
 induction n with
 |zero=>exact((fun _ _ _ _ _ _ _ _ h=>by rw [As] at h; cases h))
 | succ n ih=>
  have ih0:=ih
  ·intro a0 u f1 g1 c1 s1 h1 r h
   rw [As] at h
   refine AK rfl rfl ?_
   try simp only [go_sem,s1.k,s1.r,s1.c,s1.p,s1.o,s1.f]
   refine AS ?_
   try simp only [go_sem,s1.k,s1.r,s1.c,s1.p,s1.o,s1.f]
   refine AB h (fun h=>?_) (fun h=>?_)
   ·try simp only [go_sem,s1.k,s1.r,s1.c,s1.p,s1.o,s1.f]
    refine BA ?_
    try simp only [go_sem,s1.k,s1.r,s1.c,s1.p,s1.o,s1.f]
    replace h:=AD h; obtain⟨w,y,h⟩:=h
    refine AL y (Data.ds_len _) ?_
    try simp only [go_sem,s1.k,s1.r,s1.c,s1.p,s1.o,s1.f]
    replace h:=AD h; obtain⟨g,j,h⟩:=h
    refine AH (h1 _ _ j) ?_
    try simp only [go_sem,s1.k,s1.r,s1.c,s1.p,s1.o,s1.f]
    refine BA ?_
    try simp only [go_sem,s1.k,s1.r,s1.c,s1.p,s1.o,s1.f]
    refine AB h (fun h=>?_) (fun h=>?_)
    ·try simp only [go_sem,s1.k,s1.r,s1.c,s1.p,s1.o,s1.f]
     cases h
     simp only [go_sem,s1.k,s1.r,s1.c,s1.p,s1.o,s1.f]
    ·try simp only [go_sem,s1.k,s1.r,s1.c,s1.p,s1.o,s1.f]
     refine BA ?_
     try simp only [go_sem,s1.k,s1.r,s1.c,s1.p,s1.o,s1.f]
     refine M7 (DR rfl rfl (ih0 a0 (IntKind.i64.wrap (u+1)) f1 g1 c1 s1 h1 _ h):) (.one ⟨_,.done _,[],[],?_⟩)
     try simp only [go_sem,s1.k,s1.r,s1.c,s1.p,s1.o,s1.f]
   ·try simp only [go_sem,s1.k,s1.r,s1.c,s1.p,s1.o,s1.f]
    refine BA ?_
    try simp only [go_sem,s1.k,s1.r,s1.c,s1.p,s1.o,s1.f]
    cases h
    simp only [go_sem,s1.k,s1.r,s1.c,s1.p,s1.o,s1.f]
theorem IX (a0:List Data) (f1:(Data→Option Bool)) (g1:FuncId) (c1:List AV) (s1:Still c1) (h1:∀ (y0:Data) (q:Bool),f1 y0=some q→AC Tryz.prog g1 (fnA c1 [.agg (Data.avs y0)]) (.bool q)) (r:Int) (h:CM a0 f1=some r):AC Tryz.prog 165 [.ro (a0.map Data.ds),.fn g1 c1] (.int .i64 r):=by
 unfold CM at h
 refine acF Tryz.func165 mixed (h:=?_)
 try simp only [go_sem,s1.k,s1.r,s1.c,s1.p,s1.o,s1.f]
 refine EH (DR rfl rfl (HJ fuel a0 0 f1 g1 c1 s1 h1 _ h):) (.one ⟨_,.done _,[],[],?_⟩)
 try simp only [go_sem,s1.k,s1.r,s1.c,s1.p,s1.o,s1.f]
theorem PA (a0 a1 r) (h:HY a0 a1=some r):AC Tryz.prog 166 [.agg (Data.avs a0),.rop [.str a1] 0] (.bool r):=by
 unfold HY at h
 refine acF Tryz.func166 mixed (h:=Z ?_)
 cases h
 simp only [go_sem]
theorem L8 (a0 a1 r) (h:Gj a0 a1=some r):AC Tryz.prog 144 [.ro (a0.map Data.ds),.str a1] (.int .i64 r):=by
 unfold Gj at h
 refine acF Tryz.func144 mixed (h:=Z ?_)
 replace h:=AD h; obtain⟨u,w,h⟩:=h
 refine AH (IX _ _ 166 [.agg [],.rop [.str a1] 0] (Still.of (by simp only [CH,Cv,Bool.and_true,Bool.true_and,Bool.and_self])) (fun y0 q hq=>PA y0 _ q hq) _ w) (Z ?_)
 refine AF ?_
 cases h
 simp only [go_sem]
theorem HK (n:Nat):(∀ (a0:List TType) (u:Int) (f1:(TType→Option Bool)) (g1:FuncId) (c1:List AV) (s1:Still c1) (h1:∀ (y0:TType) (q:Bool),f1 y0=some q→AC Tryz.prog g1 (fnA c1 [.agg (TType.avs y0)]) (.bool q)) (r:Int),Au n a0 u f1=some r→AY Tryz.prog Tryz.f172 [1,0,1,0] (.int .i64 r) ⟨[(0,.ro (a0.map TType.ds)),(1,.fn g1 c1),(7,.int .i64 (a0.length:Int)),(8,.int .i64 u)],[],[]⟩):=by
 induction n with
 |zero=>exact((fun _ _ _ _ _ _ _ _ h=>by rw [Au] at h; cases h))
 | succ n ih=>
  have ih0:=ih
  ·intro a0 u f1 g1 c1 s1 h1 r h
   rw [Au] at h
   refine AK rfl rfl ?_
   try simp only [go_sem,s1.k,s1.r,s1.c,s1.p,s1.o,s1.f]
   refine AS ?_
   try simp only [go_sem,s1.k,s1.r,s1.c,s1.p,s1.o,s1.f]
   refine AB h (fun h=>?_) (fun h=>?_)
   ·try simp only [go_sem,s1.k,s1.r,s1.c,s1.p,s1.o,s1.f]
    refine BA ?_
    try simp only [go_sem,s1.k,s1.r,s1.c,s1.p,s1.o,s1.f]
    replace h:=AD h; obtain⟨w,y,h⟩:=h
    refine AL y (TType.ds_len _) ?_
    try simp only [go_sem,s1.k,s1.r,s1.c,s1.p,s1.o,s1.f]
    replace h:=AD h; obtain⟨g,j,h⟩:=h
    refine AH (h1 _ _ j) ?_
    try simp only [go_sem,s1.k,s1.r,s1.c,s1.p,s1.o,s1.f]
    refine BA ?_
    try simp only [go_sem,s1.k,s1.r,s1.c,s1.p,s1.o,s1.f]
    refine AB h (fun h=>?_) (fun h=>?_)
    ·try simp only [go_sem,s1.k,s1.r,s1.c,s1.p,s1.o,s1.f]
     cases h
     simp only [go_sem,s1.k,s1.r,s1.c,s1.p,s1.o,s1.f]
    ·try simp only [go_sem,s1.k,s1.r,s1.c,s1.p,s1.o,s1.f]
     refine BA ?_
     try simp only [go_sem,s1.k,s1.r,s1.c,s1.p,s1.o,s1.f]
     refine M7 (DR rfl rfl (ih0 a0 (IntKind.i64.wrap (u+1)) f1 g1 c1 s1 h1 _ h):) (.one ⟨_,.done _,[],[],?_⟩)
     try simp only [go_sem,s1.k,s1.r,s1.c,s1.p,s1.o,s1.f]
   ·try simp only [go_sem,s1.k,s1.r,s1.c,s1.p,s1.o,s1.f]
    refine BA ?_
    try simp only [go_sem,s1.k,s1.r,s1.c,s1.p,s1.o,s1.f]
    cases h
    simp only [go_sem,s1.k,s1.r,s1.c,s1.p,s1.o,s1.f]
theorem IY (a0:List TType) (f1:(TType→Option Bool)) (g1:FuncId) (c1:List AV) (s1:Still c1) (h1:∀ (y0:TType) (q:Bool),f1 y0=some q→AC Tryz.prog g1 (fnA c1 [.agg (TType.avs y0)]) (.bool q)) (r:Int) (h:CN a0 f1=some r):AC Tryz.prog 172 [.ro (a0.map TType.ds),.fn g1 c1] (.int .i64 r):=by
 unfold CN at h
 refine acF Tryz.func172 mixed (h:=?_)
 try simp only [go_sem,s1.k,s1.r,s1.c,s1.p,s1.o,s1.f]
 refine EH (DR rfl rfl (HK fuel a0 0 f1 g1 c1 s1 h1 _ h):) (.one ⟨_,.done _,[],[],?_⟩)
 try simp only [go_sem,s1.k,s1.r,s1.c,s1.p,s1.o,s1.f]
theorem Ea (a0:List TType) (f1:(TType→Option Bool)) (g1:FuncId) (c1:List AV) (s1:Still c1) (h1:∀ (y0:TType) (q:Bool),f1 y0=some q→AC Tryz.prog g1 (fnA c1 [.agg (TType.avs y0)]) (.bool q)) (r:Bool) (h:Av a0 f1=some r):AC Tryz.prog 151 [.ro (a0.map TType.ds),.fn g1 c1] (.bool r):=by
 unfold Av at h
 refine acF Tryz.func151 mixed (h:=?_)
 try simp only [go_sem,s1.k,s1.r,s1.c,s1.p,s1.o,s1.f]
 replace h:=AD h; obtain⟨u,w,h⟩:=h
 refine AH (IY _ _ g1 c1 s1 h1 _ w) ?_
 try simp only [go_sem,s1.k,s1.r,s1.c,s1.p,s1.o,s1.f]
 refine BA ?_
 try simp only [go_sem,s1.k,s1.r,s1.c,s1.p,s1.o,s1.f]
 cases h
 simp only [go_sem,s1.k,s1.r,s1.c,s1.p,s1.o,s1.f]
theorem BJ (u:Int) (w:Int) (y:Bool) (r:Int × Int × Bool) (h:BH u w y=some r):AY Tryz.prog Tryz.f149 [1,1,1,1] (.tup [.int .i64 r.1,.int .i64 r.2.1,.bool r.2.2]) ⟨[(2,.int .i64 u),(3,.int .i64 w),(4,.bool y)],[],[]⟩:=by
 unfold BH at h
 refine AK rfl rfl (Z ?_)
 cases h
 simp only [go_sem]
theorem PB (n:Nat):(∀a0 r,EC n a0=some r→AC Tryz.prog 149 [.agg (TType.avs a0)] (.tup [.int .i64 r.1,.int .i64 r.2.1,.bool r.2.2]))∧
    (∀a0 u w y r,Be n a0 u w y=some r→AY Tryz.prog Tryz.f149 [1,1,0,1,0] (.tup [.int .i64 r.1,.int .i64 r.2.1,.bool r.2.2]) ⟨[(1,.box 1000001500 0),(2,.int .i64 u),(3,.int .i64 w),(4,.bool false),(11,.ro (a0.kids.map TType.ds)),(12,.int .i64 (a0.kids.length:Int)),(13,.int .i64 y)],[],[(1000001500,some [.int .i64 a0.kind,.str a0.name,.ro (a0.kids.map TType.ds)])]⟩):=by
 induction n with
 |zero=>exact⟨(fun _ _ h=>by rw [EC] at h; cases h),(fun _ _ _ _ _ h=>by rw [Be] at h; cases h)⟩
 | succ n ih=>
  obtain⟨ih0,ih1⟩:=ih
  refine⟨?_,?_⟩
  ·intro a0 r h
   rw [EC] at h
   refine acF Tryz.func149 mixed (h:=Z ?_)
   exact loF (ih1 a0 1 1 0 _ h) [] [(1000001500,1000)]
  ·intro a0 u w y r h
   rw [Be] at h
   refine AK rfl rfl (Z ?_)
   refine AS (Z ?_)
   refine AB h (fun h=>Z ?_) (fun h=>Z ?_)
   ·refine AF ?_
    replace h:=AD h; obtain⟨q,g,h⟩:=h
    refine AL g (TType.ds_len _) (Z ?_)
    refine AF ?_
    replace h:=AD h; obtain⟨j,k,h⟩:=h
    refine AH (ih0 _ _ k) (Z ?_)
    refine AF ?_
    refine AB h (fun h=>Z ?_) (fun h=>Z ?_)
    ·cases h
     simp only [go_sem]
    ·refine AF ?_
     refine AF ?_
     exact lpF (ih1 a0 (if u<(IntKind.i64.wrap (j.1 +1)) then (IntKind.i64.wrap (j.1 +1)) else u) (IntKind.i64.wrap (w+j.2.1)) (IntKind.i64.wrap (y+1)) _ h) [] [(1000001500,1000001500)]
   ·refine AF ?_
    refine AB h (fun h=>Z ?_) (fun h=>Z ?_)
    ·refine AB h (fun h=>Z ?_) (fun h=>Z ?_)
     ·exact AR (BJ u w (decide ((a0.kids.length:Int)=0)) _ h) [] []
     ·exact AR (BJ u w false _ h) [] []
    ·refine AB h (fun h=>Z ?_) (fun h=>Z ?_)
     ·replace h:=AD h; obtain⟨b,d,h⟩:=h
      refine AH (Hf _ _ d) (Z ?_)
      refine AB h (fun h=>Z ?_) (fun h=>Z ?_)
      ·refine AB h (fun h=>Z ?_) (fun h=>Z ?_)
       ·exact AR (BJ u w (decide ((a0.kids.length:Int)=0)) _ h) [] []
       ·exact AR (BJ u w false _ h) [] []
      ·exact AR (BJ u w false _ h) [] []
     ·refine AB h (fun h=>Z ?_) (fun h=>Z ?_)
      ·refine AB h (fun h=>Z ?_) (fun h=>Z ?_)
       ·exact AR (BJ u w (decide ((a0.kids.length:Int)=2)) _ h) [] []
       ·exact AR (BJ u w false _ h) [] []
      ·refine AB h (fun h=>Z ?_) (fun h=>Z ?_)
       ·refine AB h (fun h=>Z ?_) (fun h=>Z ?_)
        ·exact AR (BJ u w (decide ((a0.kids.length:Int)=1)) _ h) [] []
        ·exact AR (BJ u w false _ h) [] []
       ·exact AR (BJ u w false _ h) [] []
def Qo (n:Nat):=(PB n).1
theorem IP (a0 r) (h:E5 a0=some r):AC Tryz.prog 112 [.agg (TType.avs a0)] (.bool r):=by
 unfold E5 at h
 refine acF Tryz.func112 mixed (h:=Z ?_)
 replace h:=AD h; obtain⟨u,w,h⟩:=h
 refine AH (Qo fuel _ _ w) (Z ?_)
 refine AF ?_
 refine AB h (fun h=>Z ?_) (fun h=>Z ?_)
 ·refine AB h (fun h=>Z ?_) (fun h=>Z ?_)
  ·refine AF ?_
   cases h
   simp only [go_sem]
  ·refine AF ?_
   cases h
   simp only [go_sem]
 ·refine AF ?_
  cases h
  simp only [go_sem]
theorem OU (n:Nat):(∀a0 a1 r,FQ n a0 a1=some r→AC Tryz.prog 152 [.agg (TType.avs a0),.rop [.ro (a1.map Data.ds)] 0] (.bool r))∧
    (∀a0 a1 r,Do n a0 a1=some r→AC Tryz.prog 115 [.ro (a0.map Data.ds),.agg (TType.avs a1)] (.bool r))∧
    (∀a0 a1 u r,Dp n a0 a1 u=some r→AY Tryz.prog Tryz.f115 [1,0,1] (.bool r) ⟨[(2,.box 1000000500 0),(3,.box 1000000501 0),(14,.bool u)],[],[(1000000500,some [.ro (a0.map Data.ds)]),(1000000501,some [.int .i64 a1.kind,.str a1.name,.ro (a1.kids.map TType.ds)])]⟩):=by
 induction n with
 |zero=>exact⟨(fun _ _ _ h=>by rw [FQ] at h; cases h),(fun _ _ _ h=>by rw [Do] at h; cases h),(fun _ _ _ _ h=>by rw [Dp] at h; cases h)⟩
 | succ n ih=>
  obtain⟨ih0,ih1,ih2⟩:=ih
  refine⟨?_,?_,?_⟩
  ·intro a0 a1 r h
   rw [FQ] at h
   refine acF Tryz.func152 mixed (h:=Z ?_)
   replace h:=AD h; obtain⟨w,y,h⟩:=h
   refine AH (ih1 _ _ _ y) (Z ?_)
   refine AF ?_
   cases h
   simp only [go_sem]
  ·intro a0 a1 r h
   rw [Do] at h
   refine acF Tryz.func115 mixed (h:=Z ?_)
   refine AB h (fun h=>Z ?_) (fun h=>Z ?_)
   ·replace h:=AD h; obtain⟨g,j,h⟩:=h
    refine AH (L8 _ _ _ j) (Z ?_)
    exact AR (ih2 a0 a1 (decide (g<0)) _ h) [] [(1000000500,1000),(1000000501,1001)]
   ·exact AR (ih2 a0 a1 false _ h) [] [(1000000500,1000),(1000000501,1001)]
  ·intro a0 a1 u r h
   rw [Dp] at h
   refine AK rfl rfl (Z ?_)
   refine AB h (fun h=>Z ?_) (fun h=>Z ?_)
   ·cases h
    simp only [go_sem]
   ·refine AF ?_
    replace h:=AD h; obtain⟨k,b,h⟩:=h
    refine AH (Ea _ _ 152 [.agg [],.rop [.ro (a0.map Data.ds)] 0] (Still.of (by simp only [CH,Cv,Bool.and_true,Bool.true_and,Bool.and_self])) (fun y0 q hq=>ih0 y0 _ q hq) _ b) (Z ?_)
    refine AF ?_
    cases h
    simp only [go_sem]
def I0 (n:Nat):=(OU n).2.1
theorem Jb (a0 a1 r) (h:Ch a0 a1=some r):AC Tryz.prog 167 [.agg (TType.avs a0),.rop [.ro (a1.map Data.ds)] 0] (.bool r):=by
 unfold Ch at h
 refine acF Tryz.func167 mixed (h:=Z ?_)
 replace h:=AD h; obtain⟨u,w,h⟩:=h
 refine AH (IP _ _ w) (Z ?_)
 refine AB h (fun h=>Z ?_) (fun h=>Z ?_)
 ·refine AF ?_
  cases h
  simp only [go_sem]
 ·replace h:=AD h; obtain⟨y,q,h⟩:=h
  refine AH (I0 fuel _ _ _ q) (Z ?_)
  refine AF ?_
  cases h
  simp only [go_sem]
theorem Fl (a0:List Data) (a1:Constructor) (u:Bool) (r:Bool) (h:Ca a0 a1 u=some r):AY Tryz.prog Tryz.f145 [1,0,1] (.bool r) ⟨[(2,.box 1000000500 0),(3,.box 1000000501 0),(14,.bool u)],[],[(1000000500,some [.ro (a0.map Data.ds)]),(1000000501,some [.str a1.name,.ro (a1.fields.map TType.ds)])]⟩:=by
 unfold Ca at h
 refine AK rfl rfl (Z ?_)
 refine AB h (fun h=>Z ?_) (fun h=>Z ?_)
 ·cases h
  simp only [go_sem]
 ·refine AF ?_
  replace h:=AD h; obtain⟨w,y,h⟩:=h
  refine AH (Ea _ _ 167 [.agg [],.rop [.ro (a0.map Data.ds)] 0] (Still.of (by simp only [CH,Cv,Bool.and_true,Bool.true_and,Bool.and_self])) (fun y0 q hq=>Jb y0 _ q hq) _ y) (Z ?_)
  refine AF ?_
  cases h
  simp only [go_sem]
theorem KR (a0 a1 r) (h:DO a0 a1=some r):AC Tryz.prog 145 [.ro (a0.map Data.ds),.agg (Constructor.avs a1)] (.bool r):=by
 unfold DO at h
 refine acF Tryz.func145 mixed (h:=Z ?_)
 replace h:=AD h; obtain⟨u,w,h⟩:=h
 refine AH (Hf _ _ w) (Z ?_)
 refine AB h (fun h=>Z ?_) (fun h=>Z ?_)
 ·exact AR (Fl a0 a1 true _ h) [] [(1000000500,1000),(1000000501,1001)]
 ·exact AR (Fl a0 a1 (decide (3<(a1.fields.length:Int))) _ h) [] [(1000000500,1000),(1000000501,1001)]
theorem LH (n:Nat):(∀a0 u w r,A1 n a0 u w=some r→AY Tryz.prog Tryz.f109 [1,1,1,0,1,0] (.bool r) ⟨[(0,.ro (a0.map Data.ds)),(3,.mpr 1000006500),(12,.ro (a0.map Data.ds)),(13,.int .i64 (a0.length:Int)),(14,.int .i64 w)],[],[(1000006500,some [.mpc .str (u.map QN)])]⟩)∧
    (∀a0 u w y q r,Bo n a0 u w y q=some r→AY Tryz.prog Tryz.f109 [1,1,1,0,1,0,0,1,1,0,0,1,0,1] (.bool r) ⟨[(0,.ro (a0.map Data.ds)),(3,.mpr 1000007500),(5,.box 1000007501 0),(12,.ro (a0.map Data.ds)),(13,.int .i64 (a0.length:Int)),(14,.int .i64 w),(48,.bool q)],[],[(1000007500,some [.mpc .str (u.map QN)]),(1000007501,some [.str y.name,.ro (y.cons.map Constructor.ds)])]⟩)∧
    (∀a0 w y g j r,A5 n a0 w y g j=some r→AY Tryz.prog Tryz.f109 [1,1,1,0,1,0,0,1,1,0,0,1,1,1,0] (.bool r) ⟨[(0,.ro (a0.map Data.ds)),(3,.mpr 1000010500),(12,.ro (a0.map Data.ds)),(13,.int .i64 (a0.length:Int)),(14,.int .i64 w),(50,.ro (y.cons.map Constructor.ds)),(51,.int .i64 (y.cons.length:Int)),(52,.int .i64 j)],[],[(1000010500,some [.mpc .str (g.map QN)])]⟩)∧
    (∀a0 w g j y k b r,DH n a0 w g j y k b=some r→AY Tryz.prog Tryz.f109 [1,1,1,0,1,0,0,1,1,0,0,1,1,1,0,0,1,1,0,0,1,0,1] (.bool r) ⟨[(0,.ro (a0.map Data.ds)),(3,.mpr 1000011500),(7,.box 1000011501 0),(12,.ro (a0.map Data.ds)),(13,.int .i64 (a0.length:Int)),(14,.int .i64 w),(50,.ro (y.cons.map Constructor.ds)),(51,.int .i64 (y.cons.length:Int)),(52,.int .i64 j),(65,.bool b)],[],[(1000011500,some [.mpc .str (g.map QN)]),(1000011501,some [.str k.name,.ro (k.fields.map TType.ds)])]⟩):=by
 induction n with
 |zero=>exact⟨(fun _ _ _ _ h=>by rw [A1] at h; cases h),(fun _ _ _ _ _ _ h=>by rw [Bo] at h; cases h),(fun _ _ _ _ _ _ h=>by rw [A5] at h; cases h),(fun _ _ _ _ _ _ _ _ h=>by rw [DH] at h; cases h)⟩
 | succ n ih=>
  obtain⟨ih0,ih1,ih2,ih3⟩:=ih
  refine⟨?_,?_,?_,?_⟩
  ·intro a0 u w r h
   rw [A1] at h
   refine AK rfl rfl (Z ?_)
   refine AS (Z ?_)
   refine AB h (fun h=>Z ?_) (fun h=>Z ?_)
   ·refine AF ?_
    replace h:=AD h; obtain⟨y,d,h⟩:=h
    refine AL d (Data.ds_len _) (Z ?_)
    refine AF ?_
    refine AX [] .fin (by kernel_rfl) (Z ?_)
    replace h:=AD h; obtain⟨c,e,h⟩:=h
    refine AH (Hf _ _ e) (Z ?_)
    refine AB h (fun h=>Z ?_) (fun h=>Z ?_)
    ·exact AR (ih1 a0 u w y true _ h) [] [(1000007500,1000006500),(1000007501,7003)]
    ·refine AB h (fun h=>Z ?_) (fun h=>Z ?_)
     ·exact AR (ih1 a0 u w y true _ h) [] [(1000007500,1000006500),(1000007501,7003)]
     ·replace h:=AD h; obtain⟨i,l,h⟩:=h
      refine Cd (Gw (by intro x; exact(Data.ds_len _)) _) (Z ?_)
      refine Bb (ND l) (Z ?_)
      replace h:=AD h; obtain⟨t,s,h⟩:=h
      refine AH (L8 _ _ _ s) (Z ?_)
      refine AB h (fun h=>Z ?_) (fun h=>Z ?_)
      ·exact AR (ih1 a0 u w y true _ h) [] [(1000007500,1000006500),(1000007501,7003)]
      ·refine AB h (fun h=>Z ?_) (fun h=>Z ?_)
       ·exact AR (ih1 a0 u w y true _ h) [] [(1000007500,1000006500),(1000007501,7003)]
       ·exact AR (ih1 a0 u w y (decide (4<(y.cons.length:Int))) _ h) [] [(1000007500,1000006500),(1000007501,7003)]
   ·refine AF ?_
    cases h
    simp only [go_sem]
  ·intro a0 u w y q r h
   rw [Bo] at h
   refine AK rfl rfl (Z ?_)
   refine AB h (fun h=>Z ?_) (fun h=>Z ?_)
   ·cases h
    simp only [go_sem]
   ·refine AF ?_
    exact loF (ih2 a0 w y u 0 _ h) [] [(1000010500,1000007500)]
  ·intro a0 w y g j r h
   rw [A5] at h
   refine AK rfl rfl (Z ?_)
   refine AS (Z ?_)
   refine AB h (fun h=>Z ?_) (fun h=>Z ?_)
   ·refine AF ?_
    replace h:=AD h; obtain⟨k,o,h⟩:=h
    refine AL o (Constructor.ds_len _) (Z ?_)
    refine AF ?_
    replace h:=AD h; obtain⟨z,u1,h⟩:=h
    refine AH (KR _ _ _ u1) (Z ?_)
    refine AB h (fun h=>Z ?_) (fun h=>Z ?_)
    ·exact AR (ih3 a0 w g j y k true _ h) [] [(1000011500,1000010500),(1000011501,12002)]
    ·exact AR (ih3 a0 w g j y k ((Fa g k.name).getD false) _ h) [] [(1000011500,1000010500),(1000011501,12002)]
   ·refine AF ?_
    exact lpF (ih0 a0 g (IntKind.i64.wrap (w+1)) _ h) [] [(1000006500,1000010500)]
  ·intro a0 w g j y k b r h
   rw [DH] at h
   refine AK rfl rfl (Z ?_)
   refine AB h (fun h=>Z ?_) (fun h=>Z ?_)
   ·cases h
    simp only [go_sem]
   ·refine AF ?_
    replace h:=AD h; obtain⟨u2,u3,h⟩:=h
    have hq_:=VQ u3
    obtain⟨hv15003_72a,hv15003_72b⟩:=hq_
    refine Cd (by first|exact hv15003_72a|(rw [List.length_map]; exact hv15003_72a)) (Z ?_)
    refine C5 (u2.map QN) (by rw [← hv15003_72b]; exact Xj) (Z ?_)
    refine AF ?_
    exact lpF (ih2 a0 w y u2 (IntKind.i64.wrap (j+1)) _ h) [] [(1000010500,1000011500)]
def Lp (n:Nat):=(LH n).1
theorem PC (a0 r) (h:GL a0=some r):AC Tryz.prog 109 [.ro (a0.map Data.ds)] (.bool r):=by
 unfold GL at h
 refine acF Tryz.func109 mixed (h:=Z ?_)
 refine AB h (fun h=>Z ?_) (fun h=>Z ?_)
 ·cases h
  simp only [go_sem]
 ·refine AF ?_
  exact loF (Lp fuel a0 [] 0 _ h) [] [(1000006500,4000)]
theorem KB (a0 r) (h:Gk a0=some r):AC Tryz.prog 110 [.str a0] (.bool r):=by
 unfold Gk at h
 refine acF Tryz.func110 mixed (h:=Z ?_)
 replace h:=AD h; obtain⟨u,w,h⟩:=h
 refine AH (Ou _ _ w) (Z ?_)
 refine AB h (fun h=>Z ?_) (fun h=>Z ?_)
 ·replace h:=AD h; obtain⟨y,q,h⟩:=h
  refine Bb q (Z ?_)
  replace h:=AD h; obtain⟨g,j,h⟩:=h
  refine AH (Nb _ _ j) (Z ?_)
  refine AF ?_
  cases h
  simp only [go_sem]
 ·refine AF ?_
  cases h
  simp only [go_sem]
theorem Hg (n:Nat):(∀ (a0:List Def) (u:Int) (f1:(Def→Option Bool)) (g1:FuncId) (c1:List AV) (s1:Still c1) (h1:∀ (y0:Def) (q:Bool),f1 y0=some q→AC Tryz.prog g1 (fnA c1 [.agg (Def.avs y0)]) (.bool q)) (r:Int),Az n a0 u f1=some r→AY Tryz.prog Tryz.f114 [1,0,1,0] (.int .i64 r) ⟨[(0,.ro (a0.map Def.ds)),(1,.fn g1 c1),(7,.int .i64 (a0.length:Int)),(8,.int .i64 u)],[],[]⟩):=by
 induction n with
 |zero=>exact((fun _ _ _ _ _ _ _ _ h=>by rw [Az] at h; cases h))
 | succ n ih=>
  have ih0:=ih
  ·intro a0 u f1 g1 c1 s1 h1 r h
   rw [Az] at h
   refine AK rfl rfl ?_
   try simp only [go_sem,s1.k,s1.r,s1.c,s1.p,s1.o,s1.f]
   refine AS ?_
   try simp only [go_sem,s1.k,s1.r,s1.c,s1.p,s1.o,s1.f]
   refine AB h (fun h=>?_) (fun h=>?_)
   ·try simp only [go_sem,s1.k,s1.r,s1.c,s1.p,s1.o,s1.f]
    refine BA ?_
    try simp only [go_sem,s1.k,s1.r,s1.c,s1.p,s1.o,s1.f]
    replace h:=AD h; obtain⟨w,y,h⟩:=h
    refine AL y (Def.ds_len _) ?_
    try simp only [go_sem,s1.k,s1.r,s1.c,s1.p,s1.o,s1.f]
    replace h:=AD h; obtain⟨g,j,h⟩:=h
    refine AH (h1 _ _ j) ?_
    try simp only [go_sem,s1.k,s1.r,s1.c,s1.p,s1.o,s1.f]
    refine BA ?_
    try simp only [go_sem,s1.k,s1.r,s1.c,s1.p,s1.o,s1.f]
    refine AB h (fun h=>?_) (fun h=>?_)
    ·try simp only [go_sem,s1.k,s1.r,s1.c,s1.p,s1.o,s1.f]
     cases h
     simp only [go_sem,s1.k,s1.r,s1.c,s1.p,s1.o,s1.f]
    ·try simp only [go_sem,s1.k,s1.r,s1.c,s1.p,s1.o,s1.f]
     refine BA ?_
     try simp only [go_sem,s1.k,s1.r,s1.c,s1.p,s1.o,s1.f]
     refine M7 (DR rfl rfl (ih0 a0 (IntKind.i64.wrap (u+1)) f1 g1 c1 s1 h1 _ h):) (.one ⟨_,.done _,[],[],?_⟩)
     try simp only [go_sem,s1.k,s1.r,s1.c,s1.p,s1.o,s1.f]
   ·try simp only [go_sem,s1.k,s1.r,s1.c,s1.p,s1.o,s1.f]
    refine BA ?_
    try simp only [go_sem,s1.k,s1.r,s1.c,s1.p,s1.o,s1.f]
    cases h
    simp only [go_sem,s1.k,s1.r,s1.c,s1.p,s1.o,s1.f]
theorem Fm (a0:List Def) (f1:(Def→Option Bool)) (g1:FuncId) (c1:List AV) (s1:Still c1) (h1:∀ (y0:Def) (q:Bool),f1 y0=some q→AC Tryz.prog g1 (fnA c1 [.agg (Def.avs y0)]) (.bool q)) (r:Int) (h:Bz a0 f1=some r):AC Tryz.prog 114 [.ro (a0.map Def.ds),.fn g1 c1] (.int .i64 r):=by
 unfold Bz at h
 refine acF Tryz.func114 mixed (h:=?_)
 try simp only [go_sem,s1.k,s1.r,s1.c,s1.p,s1.o,s1.f]
 refine EH (DR rfl rfl (Hg fuel a0 0 f1 g1 c1 s1 h1 _ h):) (.one ⟨_,.done _,[],[],?_⟩)
 try simp only [go_sem,s1.k,s1.r,s1.c,s1.p,s1.o,s1.f]
theorem KC (a0 a1 r) (h:Du a0 a1=some r):AC Tryz.prog 148 [.agg (Def.avs a0),.rop [.str a1] 0] (.bool r):=by
 unfold Du at h
 refine acF Tryz.func148 mixed (h:=Z ?_)
 cases h
 simp only [go_sem]
theorem FG (a0 a1 r) (h:CO a0 a1=some r):AC Tryz.prog 111 [.agg (TProgram.avs a0),.str a1] (.int .i64 r):=by
 unfold CO at h
 refine acF Tryz.func111 mixed (h:=Z ?_)
 replace h:=AD h; obtain⟨u,w,h⟩:=h
 refine AH (Fm _ _ 148 [.agg [],.rop [.str a1] 0] (Still.of (by simp only [CH,Cv,Bool.and_true,Bool.true_and,Bool.and_self])) (fun y0 q hq=>KC y0 _ q hq) _ w) (Z ?_)
 refine AF ?_
 cases h
 simp only [go_sem]
theorem HL (n:Nat):(∀ (a0:List TType) (a1:List TType) (u:Int) (f2:(TType→TType→Option Bool)) (g2:FuncId) (c2:List AV) (s2:Still c2) (h2:∀ (y0:TType) (y1:TType) (q:Bool),f2 y0 y1=some q→AC Tryz.prog g2 (fnA c2 [.agg (TType.avs y0),.agg (TType.avs y1)]) (.bool q)) (r:Bool),BK n a0 a1 u f2=some r→AY Tryz.prog Tryz.f95 [1,1,0,1,0] (.bool r) ⟨[(1,.ro (a1.map TType.ds)),(2,.fn g2 c2),(15,.ro (a0.map TType.ds)),(16,.int .i64 (a0.length:Int)),(17,.int .i64 u)],[],[]⟩):=by
 induction n with
 |zero=>exact((fun _ _ _ _ _ _ _ _ _ h=>by rw [BK] at h; cases h))
 | succ n ih=>
  have ih0:=ih
  ·intro a0 a1 u f2 g2 c2 s2 h2 r h
   rw [BK] at h
   refine AK rfl rfl ?_
   try simp only [go_sem,s2.k,s2.r,s2.c,s2.p,s2.o,s2.f]
   refine AS ?_
   try simp only [go_sem,s2.k,s2.r,s2.c,s2.p,s2.o,s2.f]
   refine AB h (fun h=>?_) (fun h=>?_)
   ·try simp only [go_sem,s2.k,s2.r,s2.c,s2.p,s2.o,s2.f]
    refine BA ?_
    try simp only [go_sem,s2.k,s2.r,s2.c,s2.p,s2.o,s2.f]
    replace h:=AD h; obtain⟨w,y,h⟩:=h
    refine AL y (TType.ds_len _) ?_
    try simp only [go_sem,s2.k,s2.r,s2.c,s2.p,s2.o,s2.f]
    refine BA ?_
    try simp only [go_sem,s2.k,s2.r,s2.c,s2.p,s2.o,s2.f]
    replace h:=AD h; obtain⟨g,j,h⟩:=h
    refine AL j (TType.ds_len _) ?_
    try simp only [go_sem,s2.k,s2.r,s2.c,s2.p,s2.o,s2.f]
    refine BA ?_
    try simp only [go_sem,s2.k,s2.r,s2.c,s2.p,s2.o,s2.f]
    replace h:=AD h; obtain⟨b,d,h⟩:=h
    refine AH (h2 _ _ _ d) ?_
    try simp only [go_sem,s2.k,s2.r,s2.c,s2.p,s2.o,s2.f]
    refine BA ?_
    try simp only [go_sem,s2.k,s2.r,s2.c,s2.p,s2.o,s2.f]
    refine AB h (fun h=>?_) (fun h=>?_)
    ·try simp only [go_sem,s2.k,s2.r,s2.c,s2.p,s2.o,s2.f]
     cases h
     simp only [go_sem,s2.k,s2.r,s2.c,s2.p,s2.o,s2.f]
    ·try simp only [go_sem,s2.k,s2.r,s2.c,s2.p,s2.o,s2.f]
     refine BA ?_
     try simp only [go_sem,s2.k,s2.r,s2.c,s2.p,s2.o,s2.f]
     refine M7 (DR rfl rfl (ih0 a0 a1 (IntKind.i64.wrap (u+1)) f2 g2 c2 s2 h2 _ h):) (.one ⟨_,.done _,[],[],?_⟩)
     try simp only [go_sem,s2.k,s2.r,s2.c,s2.p,s2.o,s2.f]
   ·try simp only [go_sem,s2.k,s2.r,s2.c,s2.p,s2.o,s2.f]
    refine BA ?_
    try simp only [go_sem,s2.k,s2.r,s2.c,s2.p,s2.o,s2.f]
    cases h
    simp only [go_sem,s2.k,s2.r,s2.c,s2.p,s2.o,s2.f]
theorem FX (a0:List TType) (a1:List TType) (f2:(TType→TType→Option Bool)) (g2:FuncId) (c2:List AV) (s2:Still c2) (h2:∀ (y0:TType) (y1:TType) (q:Bool),f2 y0 y1=some q→AC Tryz.prog g2 (fnA c2 [.agg (TType.avs y0),.agg (TType.avs y1)]) (.bool q)) (r:Bool) (h:Bp a0 a1 f2=some r):AC Tryz.prog 95 [.ro (a0.map TType.ds),.ro (a1.map TType.ds),.fn g2 c2] (.bool r):=by
 unfold Bp at h
 refine acF Tryz.func95 mixed (h:=?_)
 try simp only [go_sem,s2.k,s2.r,s2.c,s2.p,s2.o,s2.f]
 refine AB h (fun h=>?_) (fun h=>?_)
 ·try simp only [go_sem,s2.k,s2.r,s2.c,s2.p,s2.o,s2.f]
  cases h
  simp only [go_sem,s2.k,s2.r,s2.c,s2.p,s2.o,s2.f]
 ·try simp only [go_sem,s2.k,s2.r,s2.c,s2.p,s2.o,s2.f]
  refine BA ?_
  try simp only [go_sem,s2.k,s2.r,s2.c,s2.p,s2.o,s2.f]
  refine EH (DR rfl rfl (HL fuel a0 a1 0 f2 g2 c2 s2 h2 _ h):) (.one ⟨_,.done _,[],[],?_⟩)
  try simp only [go_sem,s2.k,s2.r,s2.c,s2.p,s2.o,s2.f]
theorem Ds (n:Nat):(∀a0 a1 r,Cc n a0 a1=some r→AC Tryz.prog 47 [.agg (TType.avs a0),.agg (TType.avs a1)] (.bool r)):=by
 induction n with
 |zero=>exact((fun _ _ _ h=>by rw [Cc] at h; cases h))
 | succ n ih=>
  have ih0:=ih
  ·intro a0 a1 r h
   rw [Cc] at h
   refine acF Tryz.func47 mixed (h:=Z ?_)
   refine AB h (fun h=>Z ?_) (fun h=>Z ?_)
   ·refine AB h (fun h=>Z ?_) (fun h=>Z ?_)
    ·replace h:=AD h; obtain⟨u,w,h⟩:=h
     refine AH (FX _ _ _ 47 [] (Still.of rfl) (fun y0 y1 q hq=>ih0 y0 y1  q hq) _ w) (Z ?_)
     refine AF ?_
     cases h
     simp only [go_sem]
    ·refine AF ?_
     cases h
     simp only [go_sem]
   ·refine AF ?_
    cases h
    simp only [go_sem]
theorem PD (a0 r) (h:GM a0=some r):AC Tryz.prog 180 [.agg (TType.avs a0)] (.bool r):=by
 unfold GM at h
 refine acF Tryz.func180 mixed (h:=Z ?_)
 replace h:=AD h; obtain⟨u,w,h⟩:=h
 refine AH (Ds fuel _ _ _ w) (Z ?_)
 refine AF ?_
 cases h
 simp only [go_sem]
theorem V0 (a0 r) (h:PR a0=some r):AC Tryz.prog 181 [.int .i64 a0] (.bool r):=by
 unfold PR at h
 refine acF Tryz.func181 mixed (h:=Z ?_)
 refine AB h (fun h=>Z ?_) (fun h=>Z ?_)
 ·refine AF ?_
  cases h
  simp only [go_sem]
 ·refine AF ?_
  cases h
  simp only [go_sem]
theorem PE (a0 r) (h:HZ a0=some r):AC Tryz.prog 182 [.int .i64 a0] (.bool r):=by
 unfold HZ at h
 refine acF Tryz.func182 mixed (h:=Z ?_)
 refine AB h (fun h=>Z ?_) (fun h=>Z ?_)
 ·refine AF ?_
  cases h
  simp only [go_sem]
 ·refine AF ?_
  cases h
  simp only [go_sem]
theorem I1 (n:Nat):(∀a0 u r,Ag n a0 u=some r→AY Tryz.prog Tryz.f183 [1,0,1,0] (.bool r) ⟨[(0,.ro (a0.map strD)),(5,.ro (a0.map strD)),(6,.int .i64 (a0.length:Int)),(7,.int .i64 u)],[],[]⟩)∧
    (∀a0 u w r,CB n a0 u w=some r→AY Tryz.prog Tryz.f183 [1,0,1,0,0,1,1,0,0,1,1] (.bool r) ⟨[(0,.ro (a0.map strD)),(5,.ro (a0.map strD)),(6,.int .i64 (a0.length:Int)),(7,.int .i64 u),(21,.bool w)],[],[]⟩):=by
 induction n with
 |zero=>exact⟨(fun _ _ _ h=>by rw [Ag] at h; cases h),(fun _ _ _ _ h=>by rw [CB] at h; cases h)⟩
 | succ n ih=>
  obtain⟨ih0,ih1⟩:=ih
  refine⟨?_,?_⟩
  ·intro a0 u r h
   rw [Ag] at h
   refine AK rfl rfl (Z ?_)
   refine AS (Z ?_)
   refine AB h (fun h=>Z ?_) (fun h=>Z ?_)
   ·refine AF ?_
    replace h:=AD h; obtain⟨y,q,h⟩:=h
    refine AL q rfl (Z ?_)
    replace h:=AD h; obtain⟨g,j,h⟩:=h
    refine AH (KB _ _ j) (Z ?_)
    refine AB h (fun h=>Z ?_) (fun h=>Z ?_)
    ·exact AR (ih1 a0 u true _ h) [] []
    ·replace h:=AD h; obtain⟨k,b,h⟩:=h
     refine Cd (Gw (by intro x; exact rfl) _) (Z ?_)
     refine Bb (ND b) (Z ?_)
     replace h:=AD h; obtain⟨d,c,h⟩:=h
     refine AH (DS _ _ _ c) (Z ?_)
     exact AR (ih1 a0 u d _ h) [] []
   ·refine AF ?_
    cases h
    simp only [go_sem]
  ·intro a0 u w r h
   rw [CB] at h
   refine AK rfl rfl (Z ?_)
   refine AB h (fun h=>Z ?_) (fun h=>Z ?_)
   ·cases h
    simp only [go_sem]
   ·refine AF ?_
    exact lpF (ih0 a0 (IntKind.i64.wrap (u+1)) _ h) [] []
def Jc (n:Nat):=(I1 n).1
theorem LI (a0 r) (h:Dd a0=some r):AC Tryz.prog 183 [.ro (a0.map strD)] (.bool r):=by
 unfold Dd at h
 refine acF Tryz.func183 mixed (h:=Z ?_)
 exact loF (Jc fuel a0 0 _ h) [] []
theorem Ae (a0:Term) (u:Bool) (r:Bool) (h:Al a0 u=some r):AY Tryz.prog Tryz.f171 [1,1,0,1] (.bool r) ⟨[(1,.box 1000000500 0),(43,.bool u)],[],[(1000000500,some [.int .i64 a0.kind,.int .i64 a0.num,.str a0.name,.int .i64 a0.typ.kind,.str a0.typ.name,.ro (a0.typ.kids.map TType.ds),.ro (a0.names.map strD),.ro (a0.kids.map Term.ds)])]⟩:=by
 unfold Al at h
 refine AK rfl rfl (Z ?_)
 refine AB h (fun h=>Z ?_) (fun h=>Z ?_)
 ·cases h
  simp only [go_sem]
 ·refine AF ?_
  refine AX [] .fin (by kernel_rfl) (Z ?_)
  replace h:=AD h; obtain⟨w,y,h⟩:=h
  refine AH (KB _ _ y) (Z ?_)
  replace h:=AD h; obtain⟨q,g,h⟩:=h
  refine AH (Hf _ _ g) (Z ?_)
  refine AF ?_
  refine AB h (fun h=>Z ?_) (fun h=>Z ?_)
  ·refine AB h (fun h=>Z ?_) (fun h=>Z ?_)
   ·refine AF ?_
    cases h
    simp only [go_sem]
   ·refine AF ?_
    cases h
    simp only [go_sem]
  ·refine AB h (fun h=>Z ?_) (fun h=>Z ?_)
   ·refine AB h (fun h=>Z ?_) (fun h=>Z ?_)
    ·refine AB h (fun h=>Z ?_) (fun h=>Z ?_)
     ·replace h:=AD h; obtain⟨j,k,h⟩:=h
      refine AH (V0 _ _ k) (Z ?_)
      refine AF ?_
      cases h
      simp only [go_sem]
     ·refine AF ?_
      cases h
      simp only [go_sem]
    ·refine AF ?_
     cases h
     simp only [go_sem]
   ·refine AB h (fun h=>Z ?_) (fun h=>Z ?_)
    ·refine AB h (fun h=>Z ?_) (fun h=>Z ?_)
     ·refine AB h (fun h=>Z ?_) (fun h=>Z ?_)
      ·replace h:=AD h; obtain⟨b,d,h⟩:=h
       refine AH (PE _ _ d) (Z ?_)
       refine AF ?_
       cases h
       simp only [go_sem]
      ·refine AF ?_
       cases h
       simp only [go_sem]
     ·refine AF ?_
      cases h
      simp only [go_sem]
    ·refine AB h (fun h=>Z ?_) (fun h=>Z ?_)
     ·refine AB h (fun h=>Z ?_) (fun h=>Z ?_)
      ·refine AB h (fun h=>Z ?_) (fun h=>Z ?_)
       ·replace h:=AD h; obtain⟨c,e,h⟩:=h
        refine AH (IP _ _ e) (Z ?_)
        refine AF ?_
        cases h
        simp only [go_sem]
       ·refine AF ?_
        cases h
        simp only [go_sem]
      ·refine AF ?_
       cases h
       simp only [go_sem]
     ·refine AB h (fun h=>Z ?_) (fun h=>Z ?_)
      ·refine AB h (fun h=>Z ?_) (fun h=>Z ?_)
       ·refine AF ?_
        cases h
        simp only [go_sem]
       ·refine AF ?_
        cases h
        simp only [go_sem]
      ·refine AB h (fun h=>Z ?_) (fun h=>Z ?_)
       ·refine AB h (fun h=>Z ?_) (fun h=>Z ?_)
        ·refine AF ?_
         cases h
         simp only [go_sem]
        ·refine AF ?_
         cases h
         simp only [go_sem]
       ·refine AB h (fun h=>Z ?_) (fun h=>Z ?_)
        ·refine AB h (fun h=>Z ?_) (fun h=>Z ?_)
         ·refine AF ?_
          cases h
          simp only [go_sem]
         ·refine AF ?_
          cases h
          simp only [go_sem]
        ·refine AB h (fun h=>Z ?_) (fun h=>Z ?_)
         ·refine AB h (fun h=>Z ?_) (fun h=>Z ?_)
          ·refine AF ?_
           cases h
           simp only [go_sem]
          ·refine AF ?_
           cases h
           simp only [go_sem]
         ·refine AB h (fun h=>Z ?_) (fun h=>Z ?_)
          ·refine AB h (fun h=>Z ?_) (fun h=>Z ?_)
           ·refine AB h (fun h=>Z ?_) (fun h=>Z ?_)
            ·refine AF ?_
             cases h
             simp only [go_sem]
            ·refine AF ?_
             cases h
             simp only [go_sem]
           ·refine AF ?_
            cases h
            simp only [go_sem]
          ·refine AB h (fun h=>Z ?_) (fun h=>Z ?_)
           ·refine AB h (fun h=>Z ?_) (fun h=>Z ?_)
            ·refine AB h (fun h=>Z ?_) (fun h=>Z ?_)
             ·replace h:=AD h; obtain⟨i,l,h⟩:=h
              refine AH (LI _ _ l) (Z ?_)
              refine AF ?_
              cases h
              simp only [go_sem]
             ·refine AF ?_
              cases h
              simp only [go_sem]
            ·refine AF ?_
             cases h
             simp only [go_sem]
           ·refine AB h (fun h=>Z ?_) (fun h=>Z ?_)
            ·refine AB h (fun h=>Z ?_) (fun h=>Z ?_)
             ·refine AF ?_
              cases h
              simp only [go_sem]
             ·refine AF ?_
              cases h
              simp only [go_sem]
            ·refine AF ?_
             cases h
             simp only [go_sem]
theorem Qp (a0 r) (h:G1 a0=some r):AC Tryz.prog 171 [.agg (Term.avs a0)] (.bool r):=by
 unfold G1 at h
 refine acF Tryz.func171 mixed (h:=Z ?_)
 replace h:=AD h; obtain⟨u,w,h⟩:=h
 refine AH (PD _ _ w) (Z ?_)
 refine AF ?_
 refine AB h (fun h=>Z ?_) (fun h=>Z ?_)
 ·refine AB h (fun h=>Z ?_) (fun h=>Z ?_)
  ·exact AR (Ae a0 true _ h) [] [(1000000500,1000)]
  ·refine AB h (fun h=>Z ?_) (fun h=>Z ?_)
   ·refine AB h (fun h=>Z ?_) (fun h=>Z ?_)
    ·exact AR (Ae a0 true _ h) [] [(1000000500,1000)]
    ·refine AB h (fun h=>Z ?_) (fun h=>Z ?_)
     ·refine AB h (fun h=>Z ?_) (fun h=>Z ?_)
      ·exact AR (Ae a0 (!decide (a0.num=0)) _ h) [] [(1000000500,1000)]
      ·exact AR (Ae a0 false _ h) [] [(1000000500,1000)]
     ·exact AR (Ae a0 false _ h) [] [(1000000500,1000)]
   ·refine AB h (fun h=>Z ?_) (fun h=>Z ?_)
    ·refine AB h (fun h=>Z ?_) (fun h=>Z ?_)
     ·exact AR (Ae a0 (!decide (a0.num=0)) _ h) [] [(1000000500,1000)]
     ·exact AR (Ae a0 false _ h) [] [(1000000500,1000)]
    ·exact AR (Ae a0 false _ h) [] [(1000000500,1000)]
 ·refine AB h (fun h=>Z ?_) (fun h=>Z ?_)
  ·refine AB h (fun h=>Z ?_) (fun h=>Z ?_)
   ·exact AR (Ae a0 true _ h) [] [(1000000500,1000)]
   ·refine AB h (fun h=>Z ?_) (fun h=>Z ?_)
    ·refine AB h (fun h=>Z ?_) (fun h=>Z ?_)
     ·exact AR (Ae a0 (!decide (a0.num=0)) _ h) [] [(1000000500,1000)]
     ·exact AR (Ae a0 false _ h) [] [(1000000500,1000)]
    ·exact AR (Ae a0 false _ h) [] [(1000000500,1000)]
  ·refine AB h (fun h=>Z ?_) (fun h=>Z ?_)
   ·refine AB h (fun h=>Z ?_) (fun h=>Z ?_)
    ·exact AR (Ae a0 (!decide (a0.num=0)) _ h) [] [(1000000500,1000)]
    ·exact AR (Ae a0 false _ h) [] [(1000000500,1000)]
   ·exact AR (Ae a0 false _ h) [] [(1000000500,1000)]
theorem PF (n:Nat):(∀a0 r,ED n a0=some r→AC Tryz.prog 150 [.agg (Term.avs a0)] (.tup [.int .i64 r.1,.int .i64 r.2.1,.bool r.2.2]))∧
    (∀a0 u w y r,Bf n a0 u w y=some r→AY Tryz.prog Tryz.f150 [1,1,1,0,1,0] (.tup [.int .i64 r.1,.int .i64 r.2.1,.bool r.2.2]) ⟨[(1,.box 1000002500 0),(2,.int .i64 u),(3,.int .i64 w),(14,.ro (a0.kids.map Term.ds)),(15,.int .i64 (a0.kids.length:Int)),(16,.int .i64 y)],[],[(1000002500,some [.int .i64 a0.kind,.int .i64 a0.num,.str a0.name,.int .i64 a0.typ.kind,.str a0.typ.name,.ro (a0.typ.kids.map TType.ds),.ro (a0.names.map strD),.ro (a0.kids.map Term.ds)])]⟩)∧
    (∀a0 u w y q g r,D1 n a0 u w y q g=some r→AY Tryz.prog Tryz.f150 [1,1,1,0,1,0,0,1,1,0,0,1,0,1] (.tup [.int .i64 r.1,.int .i64 r.2.1,.bool r.2.2]) ⟨[(1,.box 1000003500 0),(2,.int .i64 u),(3,.int .i64 w),(6,.box 1000003501 0),(14,.ro (a0.kids.map Term.ds)),(15,.int .i64 (a0.kids.length:Int)),(16,.int .i64 y),(31,.bool g)],[],[(1000003500,some [.int .i64 a0.kind,.int .i64 a0.num,.str a0.name,.int .i64 a0.typ.kind,.str a0.typ.name,.ro (a0.typ.kids.map TType.ds),.ro (a0.names.map strD),.ro (a0.kids.map Term.ds)]),(1000003501,some [.int .i64 q.kind,.int .i64 q.num,.str q.name,.int .i64 q.typ.kind,.str q.typ.name,.ro (q.typ.kids.map TType.ds),.ro (q.names.map strD),.ro (q.kids.map Term.ds)])]⟩):=by
 induction n with
 |zero=>exact⟨(fun _ _ h=>by rw [ED] at h; cases h),(fun _ _ _ _ _ h=>by rw [Bf] at h; cases h),(fun _ _ _ _ _ _ _ h=>by rw [D1] at h; cases h)⟩
 | succ n ih=>
  obtain⟨ih0,ih1,ih2⟩:=ih
  refine⟨?_,?_,?_⟩
  ·intro a0 r h
   rw [ED] at h
   refine acF Tryz.func150 mixed (h:=Z ?_)
   replace h:=AD h; obtain⟨j,k,h⟩:=h
   refine AH (Qp _ _ k) (Z ?_)
   refine AF ?_
   refine AB h (fun h=>Z ?_) (fun h=>Z ?_)
   ·cases h
    simp only [go_sem]
   ·refine AF ?_
    exact loF (ih1 a0 1 1 0 _ h) [] [(1000002500,1000)]
  ·intro a0 u w y r h
   rw [Bf] at h
   refine AK rfl rfl (Z ?_)
   refine AS (Z ?_)
   refine AB h (fun h=>Z ?_) (fun h=>Z ?_)
   ·refine AF ?_
    replace h:=AD h; obtain⟨q,b,h⟩:=h
    refine AL b (Term.ds_len _) (Z ?_)
    refine AF ?_
    refine AB h (fun h=>Z ?_) (fun h=>Z ?_)
    ·exact AR (ih2 a0 u w y q (!((decide (q.kind=10)) == (decide (0<y)))) _ h) [] [(1000003500,1000002500),(1000003501,7003)]
    ·exact AR (ih2 a0 u w y q (!((decide (q.kind=10)) == false)) _ h) [] [(1000003500,1000002500),(1000003501,7003)]
   ·refine AF ?_
    cases h
    simp only [go_sem]
  ·intro a0 u w y q g r h
   rw [D1] at h
   refine AK rfl rfl (Z ?_)
   refine AB h (fun h=>Z ?_) (fun h=>Z ?_)
   ·cases h
    simp only [go_sem]
   ·refine AF ?_
    replace h:=AD h; obtain⟨d,c,h⟩:=h
    refine AH (ih0 _ _ c) (Z ?_)
    refine AF ?_
    refine AB h (fun h=>Z ?_) (fun h=>Z ?_)
    ·cases h
     simp only [go_sem]
    ·refine AF ?_
     refine AF ?_
     exact lpF (ih1 a0 (if u<(IntKind.i64.wrap (d.1 +1)) then (IntKind.i64.wrap (d.1 +1)) else u) (IntKind.i64.wrap (w+d.2.1)) (IntKind.i64.wrap (y+1)) _ h) [] [(1000002500,1000003500)]
def Qq (n:Nat):=(PF n).1
theorem Qr (a0 r) (h:G2 a0=some r):AC Tryz.prog 113 [.agg (Term.avs a0)] (.bool r):=by
 unfold G2 at h
 refine acF Tryz.func113 mixed (h:=Z ?_)
 replace h:=AD h; obtain⟨u,w,h⟩:=h
 refine AH (Qq fuel _ _ w) (Z ?_)
 refine AF ?_
 refine AB h (fun h=>Z ?_) (fun h=>Z ?_)
 ·refine AB h (fun h=>Z ?_) (fun h=>Z ?_)
  ·refine AB h (fun h=>Z ?_) (fun h=>Z ?_)
   ·refine AF ?_
    cases h
    simp only [go_sem]
   ·refine AF ?_
    cases h
    simp only [go_sem]
  ·refine AF ?_
   cases h
   simp only [go_sem]
 ·refine AF ?_
  cases h
  simp only [go_sem]
theorem KS (n:Nat):(∀a0 u r,A2 n a0 u=some r→AY Tryz.prog Tryz.f70 [1,1,0,1,0] (.bool r) ⟨[(1,.box 1000003500 0),(22,.ro (a0.defs.map Def.ds)),(23,.int .i64 (a0.defs.length:Int)),(24,.int .i64 u)],[],[(1000003500,some [.ro (a0.datas.map Data.ds),.ro (a0.defs.map Def.ds)])]⟩)∧
    (∀a0 u w r,Bx n a0 u w=some r→AY Tryz.prog Tryz.f70 [1,1,0,1,0,0,1,1,0,0,1,1] (.bool r) ⟨[(1,.box 1000004500 0),(22,.ro (a0.defs.map Def.ds)),(23,.int .i64 (a0.defs.length:Int)),(24,.int .i64 u),(52,.bool w)],[],[(1000004500,some [.ro (a0.datas.map Data.ds),.ro (a0.defs.map Def.ds)])]⟩):=by
 induction n with
 |zero=>exact⟨(fun _ _ _ h=>by rw [A2] at h; cases h),(fun _ _ _ _ h=>by rw [Bx] at h; cases h)⟩
 | succ n ih=>
  obtain⟨ih0,ih1⟩:=ih
  refine⟨?_,?_⟩
  ·intro a0 u r h
   rw [A2] at h
   refine AK rfl rfl (Z ?_)
   refine AS (Z ?_)
   refine AB h (fun h=>Z ?_) (fun h=>Z ?_)
   ·refine AF ?_
    replace h:=AD h; obtain⟨y,q,h⟩:=h
    refine AL q (Def.ds_len _) (Z ?_)
    refine AF ?_
    replace h:=AD h; obtain⟨g,j,h⟩:=h
    refine AH (KB _ _ j) (Z ?_)
    refine AB h (fun h=>Z ?_) (fun h=>Z ?_)
    ·exact AR (ih1 a0 u true _ h) [] [(1000004500,1000003500)]
    ·replace h:=AD h; obtain⟨k,b,h⟩:=h
     refine AH (FG _ _ _ b) (Z ?_)
     refine AB h (fun h=>Z ?_) (fun h=>Z ?_)
     ·exact AR (ih1 a0 u true _ h) [] [(1000004500,1000003500)]
     ·replace h:=AD h; obtain⟨d,c,h⟩:=h
      refine AH (IP _ _ c) (Z ?_)
      refine AB h (fun h=>Z ?_) (fun h=>Z ?_)
      ·exact AR (ih1 a0 u true _ h) [] [(1000004500,1000003500)]
      ·replace h:=AD h; obtain⟨e,i,h⟩:=h
       refine AH (Qr _ _ i) (Z ?_)
       exact AR (ih1 a0 u (!e) _ h) [] [(1000004500,1000003500)]
   ·refine AF ?_
    cases h
    simp only [go_sem]
  ·intro a0 u w r h
   rw [Bx] at h
   refine AK rfl rfl (Z ?_)
   refine AB h (fun h=>Z ?_) (fun h=>Z ?_)
   ·cases h
    simp only [go_sem]
   ·refine AF ?_
    exact lpF (ih0 a0 (IntKind.i64.wrap (u+1)) _ h) [] [(1000003500,1000004500)]
def LJ (n:Nat):=(KS n).1
theorem FH (a0:TProgram) (u:Bool) (r:Bool) (h:Co a0 u=some r):AY Tryz.prog Tryz.f70 [1,0,1] (.bool r) ⟨[(1,.box 1000000500 0),(20,.bool u)],[],[(1000000500,some [.ro (a0.datas.map Data.ds),.ro (a0.defs.map Def.ds)])]⟩:=by
 unfold Co at h
 refine AK rfl rfl (Z ?_)
 refine AB h (fun h=>Z ?_) (fun h=>Z ?_)
 ·cases h
  simp only [go_sem]
 ·refine AF ?_
  exact loF (LJ fuel a0 0 _ h) [] [(1000003500,1000000500)]
theorem Nc (a0 r) (h:E6 a0=some r):AC Tryz.prog 70 [.agg (TProgram.avs a0)] (.bool r):=by
 unfold E6 at h
 refine acF Tryz.func70 mixed (h:=Z ?_)
 replace h:=AD h; obtain⟨u,w,h⟩:=h
 refine AH (PC _ _ w) (Z ?_)
 refine AB h (fun h=>Z ?_) (fun h=>Z ?_)
 ·exact AR (FH a0 true _ h) [] [(1000000500,1000)]
 ·refine AB h (fun h=>Z ?_) (fun h=>Z ?_)
  ·exact AR (FH a0 true _ h) [] [(1000000500,1000)]
  ·exact AR (FH a0 (decide (8<(a0.defs.length:Int))) _ h) [] [(1000000500,1000)]
theorem El (a0:List Def) (f1:(Def→Option Bool)) (g1:FuncId) (c1:List AV) (s1:Still c1) (h1:∀ (y0:Def) (q:Bool),f1 y0=some q→AC Tryz.prog g1 (fnA c1 [.agg (Def.avs y0)]) (.bool q)) (r:Bool) (h:BQ a0 f1=some r):AC Tryz.prog 71 [.ro (a0.map Def.ds),.fn g1 c1] (.bool r):=by
 unfold BQ at h
 refine acF Tryz.func71 mixed (h:=?_)
 try simp only [go_sem,s1.k,s1.r,s1.c,s1.p,s1.o,s1.f]
 replace h:=AD h; obtain⟨u,w,h⟩:=h
 refine AH (Fm _ _ g1 c1 s1 h1 _ w) ?_
 try simp only [go_sem,s1.k,s1.r,s1.c,s1.p,s1.o,s1.f]
 refine BA ?_
 try simp only [go_sem,s1.k,s1.r,s1.c,s1.p,s1.o,s1.f]
 cases h
 simp only [go_sem,s1.k,s1.r,s1.c,s1.p,s1.o,s1.f]
theorem HM (n:Nat):(∀ (a0:List Term) (u:Int) (f1:(Term→Option Bool)) (g1:FuncId) (c1:List AV) (s1:Still c1) (h1:∀ (y0:Term) (q:Bool),f1 y0=some q→AC Tryz.prog g1 (fnA c1 [.agg (Term.avs y0)]) (.bool q)) (r:Int),Aw n a0 u f1=some r→AY Tryz.prog Tryz.f155 [1,0,1,0] (.int .i64 r) ⟨[(0,.ro (a0.map Term.ds)),(1,.fn g1 c1),(7,.int .i64 (a0.length:Int)),(8,.int .i64 u)],[],[]⟩):=by
 induction n with
 |zero=>exact((fun _ _ _ _ _ _ _ _ h=>by rw [Aw] at h; cases h))
 | succ n ih=>
  have ih0:=ih
  ·intro a0 u f1 g1 c1 s1 h1 r h
   rw [Aw] at h
   refine AK rfl rfl ?_
   try simp only [go_sem,s1.k,s1.r,s1.c,s1.p,s1.o,s1.f]
   refine AS ?_
   try simp only [go_sem,s1.k,s1.r,s1.c,s1.p,s1.o,s1.f]
   refine AB h (fun h=>?_) (fun h=>?_)
   ·try simp only [go_sem,s1.k,s1.r,s1.c,s1.p,s1.o,s1.f]
    refine BA ?_
    try simp only [go_sem,s1.k,s1.r,s1.c,s1.p,s1.o,s1.f]
    replace h:=AD h; obtain⟨w,y,h⟩:=h
    refine AL y (Term.ds_len _) ?_
    try simp only [go_sem,s1.k,s1.r,s1.c,s1.p,s1.o,s1.f]
    replace h:=AD h; obtain⟨g,j,h⟩:=h
    refine AH (h1 _ _ j) ?_
    try simp only [go_sem,s1.k,s1.r,s1.c,s1.p,s1.o,s1.f]
    refine BA ?_
    try simp only [go_sem,s1.k,s1.r,s1.c,s1.p,s1.o,s1.f]
    refine AB h (fun h=>?_) (fun h=>?_)
    ·try simp only [go_sem,s1.k,s1.r,s1.c,s1.p,s1.o,s1.f]
     cases h
     simp only [go_sem,s1.k,s1.r,s1.c,s1.p,s1.o,s1.f]
    ·try simp only [go_sem,s1.k,s1.r,s1.c,s1.p,s1.o,s1.f]
     refine BA ?_
     try simp only [go_sem,s1.k,s1.r,s1.c,s1.p,s1.o,s1.f]
     refine M7 (DR rfl rfl (ih0 a0 (IntKind.i64.wrap (u+1)) f1 g1 c1 s1 h1 _ h):) (.one ⟨_,.done _,[],[],?_⟩)
     try simp only [go_sem,s1.k,s1.r,s1.c,s1.p,s1.o,s1.f]
   ·try simp only [go_sem,s1.k,s1.r,s1.c,s1.p,s1.o,s1.f]
    refine BA ?_
    try simp only [go_sem,s1.k,s1.r,s1.c,s1.p,s1.o,s1.f]
    cases h
    simp only [go_sem,s1.k,s1.r,s1.c,s1.p,s1.o,s1.f]
theorem IZ (a0:List Term) (f1:(Term→Option Bool)) (g1:FuncId) (c1:List AV) (s1:Still c1) (h1:∀ (y0:Term) (q:Bool),f1 y0=some q→AC Tryz.prog g1 (fnA c1 [.agg (Term.avs y0)]) (.bool q)) (r:Int) (h:CP a0 f1=some r):AC Tryz.prog 155 [.ro (a0.map Term.ds),.fn g1 c1] (.int .i64 r):=by
 unfold CP at h
 refine acF Tryz.func155 mixed (h:=?_)
 try simp only [go_sem,s1.k,s1.r,s1.c,s1.p,s1.o,s1.f]
 refine EH (DR rfl rfl (HM fuel a0 0 f1 g1 c1 s1 h1 _ h):) (.one ⟨_,.done _,[],[],?_⟩)
 try simp only [go_sem,s1.k,s1.r,s1.c,s1.p,s1.o,s1.f]
theorem HN (a0:List Term) (f1:(Term→Option Bool)) (g1:FuncId) (c1:List AV) (s1:Still c1) (h1:∀ (y0:Term) (q:Bool),f1 y0=some q→AC Tryz.prog g1 (fnA c1 [.agg (Term.avs y0)]) (.bool q)) (r:Bool) (h:Br a0 f1=some r):AC Tryz.prog 121 [.ro (a0.map Term.ds),.fn g1 c1] (.bool r):=by
 unfold Br at h
 refine acF Tryz.func121 mixed (h:=?_)
 try simp only [go_sem,s1.k,s1.r,s1.c,s1.p,s1.o,s1.f]
 replace h:=AD h; obtain⟨u,w,h⟩:=h
 refine AH (IZ _ _ g1 c1 s1 h1 _ w) ?_
 try simp only [go_sem,s1.k,s1.r,s1.c,s1.p,s1.o,s1.f]
 refine BA ?_
 try simp only [go_sem,s1.k,s1.r,s1.c,s1.p,s1.o,s1.f]
 cases h
 simp only [go_sem,s1.k,s1.r,s1.c,s1.p,s1.o,s1.f]
theorem PG (n:Nat):(∀ (a0:Term) (f1:(Term→Option Bool)) (g1:FuncId) (c1:List AV) (s1:Still c1) (h1:∀ (y0:Term) (q:Bool),f1 y0=some q→AC Tryz.prog g1 (fnA c1 [.agg (Term.avs y0)]) (.bool q)) (r:Bool),G3 n a0 f1=some r→AC Tryz.prog 122 [.agg (Term.avs a0),.rop [.fn g1 c1] 0] (.bool r))∧
    (∀ (a0:Term) (f1:(Term→Option Bool)) (g1:FuncId) (c1:List AV) (s1:Still c1) (h1:∀ (y0:Term) (q:Bool),f1 y0=some q→AC Tryz.prog g1 (fnA c1 [.agg (Term.avs y0)]) (.bool q)) (r:Bool),FR n a0 f1=some r→AC Tryz.prog 74 [.agg (Term.avs a0),.fn g1 c1] (.bool r)):=by
 induction n with
 |zero=>exact⟨(fun _ _ _ _ _ _ _ h=>by rw [G3] at h; cases h),(fun _ _ _ _ _ _ _ h=>by rw [FR] at h; cases h)⟩
 | succ n ih=>
  obtain⟨ih0,ih1⟩:=ih
  refine⟨?_,?_⟩
  ·intro a0 f1 g1 c1 s1 h1 r h
   rw [G3] at h
   refine acF Tryz.func122 mixed (h:=?_)
   try simp only [go_sem,s1.k,s1.r,s1.c,s1.p,s1.o,s1.f]
   replace h:=AD h; obtain⟨u,w,h⟩:=h
   refine AH (ih1 _ _ g1 c1 s1 h1 _ w) ?_
   try simp only [go_sem,s1.k,s1.r,s1.c,s1.p,s1.o,s1.f]
   refine BA ?_
   try simp only [go_sem,s1.k,s1.r,s1.c,s1.p,s1.o,s1.f]
   cases h
   simp only [go_sem,s1.k,s1.r,s1.c,s1.p,s1.o,s1.f]
  ·intro a0 f1 g1 c1 s1 h1 r h
   rw [FR] at h
   refine acF Tryz.func74 mixed (h:=?_)
   try simp only [go_sem,s1.k,s1.r,s1.c,s1.p,s1.o,s1.f]
   replace h:=AD h; obtain⟨u,w,h⟩:=h
   refine AH (h1 _ _ w) ?_
   try simp only [go_sem,s1.k,s1.r,s1.c,s1.p,s1.o,s1.f]
   refine AB h (fun h=>?_) (fun h=>?_)
   ·try simp only [go_sem,s1.k,s1.r,s1.c,s1.p,s1.o,s1.f]
    refine BA ?_
    try simp only [go_sem,s1.k,s1.r,s1.c,s1.p,s1.o,s1.f]
    cases h
    simp only [go_sem,s1.k,s1.r,s1.c,s1.p,s1.o,s1.f]
   ·try simp only [go_sem,s1.k,s1.r,s1.c,s1.p,s1.o,s1.f]
    replace h:=AD h; obtain⟨y,g,h⟩:=h
    refine AH (HN _ _ 122 [.agg [],.rop [.fn g1 c1] 0] (Still.of (by simp only [CH,Cv,Bool.and_true,Bool.true_and,Bool.and_self,s1.p])) (fun y0 q hq=>ih0 y0 _ g1 c1 s1 h1 q hq) _ g) ?_
    try simp only [go_sem,s1.k,s1.r,s1.c,s1.p,s1.o,s1.f]
    refine BA ?_
    try simp only [go_sem,s1.k,s1.r,s1.c,s1.p,s1.o,s1.f]
    cases h
    simp only [go_sem,s1.k,s1.r,s1.c,s1.p,s1.o,s1.f]
def Nd (n:Nat):=(PG n).2
theorem Ia (n:Nat):(∀ (a0:List ByteArray) (u:Int) (f1:(ByteArray→Option Bool)) (g1:FuncId) (c1:List AV) (s1:Still c1) (h1:∀ (y0:ByteArray) (q:Bool),f1 y0=some q→AC Tryz.prog g1 (fnA c1 [.str y0]) (.bool q)) (r:Int),A7 n a0 u f1=some r→AY Tryz.prog Tryz.f153 [1,0,1,0] (.int .i64 r) ⟨[(0,.ro (a0.map strD)),(1,.fn g1 c1),(7,.int .i64 (a0.length:Int)),(8,.int .i64 u)],[],[]⟩):=by
 induction n with
 |zero=>exact((fun _ _ _ _ _ _ _ _ h=>by rw [A7] at h; cases h))
 | succ n ih=>
  have ih0:=ih
  ·intro a0 u f1 g1 c1 s1 h1 r h
   rw [A7] at h
   refine AK rfl rfl ?_
   try simp only [go_sem,s1.k,s1.r,s1.c,s1.p,s1.o,s1.f]
   refine AS ?_
   try simp only [go_sem,s1.k,s1.r,s1.c,s1.p,s1.o,s1.f]
   refine AB h (fun h=>?_) (fun h=>?_)
   ·try simp only [go_sem,s1.k,s1.r,s1.c,s1.p,s1.o,s1.f]
    refine BA ?_
    try simp only [go_sem,s1.k,s1.r,s1.c,s1.p,s1.o,s1.f]
    replace h:=AD h; obtain⟨w,y,h⟩:=h
    refine AL y rfl ?_
    try simp only [go_sem,s1.k,s1.r,s1.c,s1.p,s1.o,s1.f]
    replace h:=AD h; obtain⟨g,j,h⟩:=h
    refine AH (h1 _ _ j) ?_
    try simp only [go_sem,s1.k,s1.r,s1.c,s1.p,s1.o,s1.f]
    refine BA ?_
    try simp only [go_sem,s1.k,s1.r,s1.c,s1.p,s1.o,s1.f]
    refine AB h (fun h=>?_) (fun h=>?_)
    ·try simp only [go_sem,s1.k,s1.r,s1.c,s1.p,s1.o,s1.f]
     cases h
     simp only [go_sem,s1.k,s1.r,s1.c,s1.p,s1.o,s1.f]
    ·try simp only [go_sem,s1.k,s1.r,s1.c,s1.p,s1.o,s1.f]
     refine BA ?_
     try simp only [go_sem,s1.k,s1.r,s1.c,s1.p,s1.o,s1.f]
     refine M7 (DR rfl rfl (ih0 a0 (IntKind.i64.wrap (u+1)) f1 g1 c1 s1 h1 _ h):) (.one ⟨_,.done _,[],[],?_⟩)
     try simp only [go_sem,s1.k,s1.r,s1.c,s1.p,s1.o,s1.f]
   ·try simp only [go_sem,s1.k,s1.r,s1.c,s1.p,s1.o,s1.f]
    refine BA ?_
    try simp only [go_sem,s1.k,s1.r,s1.c,s1.p,s1.o,s1.f]
    cases h
    simp only [go_sem,s1.k,s1.r,s1.c,s1.p,s1.o,s1.f]
theorem KD (a0:List ByteArray) (f1:(ByteArray→Option Bool)) (g1:FuncId) (c1:List AV) (s1:Still c1) (h1:∀ (y0:ByteArray) (q:Bool),f1 y0=some q→AC Tryz.prog g1 (fnA c1 [.str y0]) (.bool q)) (r:Int) (h:Cz a0 f1=some r):AC Tryz.prog 153 [.ro (a0.map strD),.fn g1 c1] (.int .i64 r):=by
 unfold Cz at h
 refine acF Tryz.func153 mixed (h:=?_)
 try simp only [go_sem,s1.k,s1.r,s1.c,s1.p,s1.o,s1.f]
 refine EH (DR rfl rfl (Ia fuel a0 0 f1 g1 c1 s1 h1 _ h):) (.one ⟨_,.done _,[],[],?_⟩)
 try simp only [go_sem,s1.k,s1.r,s1.c,s1.p,s1.o,s1.f]
theorem Ib (a0:List ByteArray) (f1:(ByteArray→Option Bool)) (g1:FuncId) (c1:List AV) (s1:Still c1) (h1:∀ (y0:ByteArray) (q:Bool),f1 y0=some q→AC Tryz.prog g1 (fnA c1 [.str y0]) (.bool q)) (r:Bool) (h:CQ a0 f1=some r):AC Tryz.prog 116 [.ro (a0.map strD),.fn g1 c1] (.bool r):=by
 unfold CQ at h
 refine acF Tryz.func116 mixed (h:=?_)
 try simp only [go_sem,s1.k,s1.r,s1.c,s1.p,s1.o,s1.f]
 replace h:=AD h; obtain⟨u,w,h⟩:=h
 refine AH (KD _ _ g1 c1 s1 h1 _ w) ?_
 try simp only [go_sem,s1.k,s1.r,s1.c,s1.p,s1.o,s1.f]
 refine BA ?_
 try simp only [go_sem,s1.k,s1.r,s1.c,s1.p,s1.o,s1.f]
 cases h
 simp only [go_sem,s1.k,s1.r,s1.c,s1.p,s1.o,s1.f]
theorem KE (n:Nat):(∀a0 u w r,BC n a0 u w=some r→AY Tryz.prog Tryz.f174 [1,1,1,1,0,1,0] (.ow (some 1) (r.map strD)) ⟨[(6,.own 1000002000),(25,.ro (List.map (slD strD) a0)),(26,.int .i64 (a0.length:Int)),(27,.int .i64 w)],[(1000002000,some ⟨List.map strD u,some 1,0,false⟩)],[]⟩):=by
 induction n with
 |zero=>exact((fun _ _ _ _ h=>by rw [BC] at h; cases h))
 | succ n ih=>
  have ih0:=ih
  ·intro a0 u w r h
   rw [BC] at h
   refine AK rfl rfl (Z ?_)
   refine AS (Z ?_)
   refine AB h (fun h=>Z ?_) (fun h=>Z ?_)
   ·refine AF ?_
    replace h:=AD h; obtain⟨y,q,h⟩:=h
    refine AL q rfl (Z ?_)
    replace h:=AD h; obtain⟨g,j,h⟩:=h
    have hq_:=CZ j
    obtain⟨hv14002a,hv14002b⟩:=hq_
    refine Ga false (Z ?_)
    refine Cd (GG (by intro x; exact⟨rfl,by simp [go_sem,D.flat]⟩) _) (Z ?_)
    refine Cd (by refine⟨?_,?_⟩ <;> (try simp only [List.length_map,List.length_append,List.length_cons,List.length_nil] at*) <;> (try unfold maxLen) <;> omega) (Z ?_)
    refine C5 (g.map strD) (by rw [← hv14002b]; simp only [List.map_append,List.map_cons,List.map_nil,List.nil_append,List.append_nil,go_sem,slD]) (Z ?_)
    refine AF ?_
    exact lpF (ih0 a0 g (IntKind.i64.wrap (w+1)) _ h) [(1000002000,224032)] []
   ·refine AF ?_
    cases h
    simp only [go_sem]
theorem KF (n:Nat):(∀a0 u w r,BU n a0 u w=some r→AY Tryz.prog Tryz.f174 [1,1,0,1,0] (.ow (some 1) (r.map strD)) ⟨[(0,.ro (List.map (slD strD) a0)),(3,.int .i64 u),(9,.ro (List.map (slD strD) a0)),(10,.int .i64 (a0.length:Int)),(11,.int .i64 w)],[],[]⟩):=by
 induction n with
 |zero=>exact((fun _ _ _ _ h=>by rw [BU] at h; cases h))
 | succ n ih=>
  have ih0:=ih
  ·intro a0 u w r h
   rw [BU] at h
   refine AK rfl rfl (Z ?_)
   refine AS (Z ?_)
   refine AB h (fun h=>Z ?_) (fun h=>Z ?_)
   ·refine AF ?_
    replace h:=AD h; obtain⟨y,q,h⟩:=h
    refine AL q rfl (Z ?_)
    refine AB h (fun h=>Z ?_) (fun h=>Z ?_)
    ·cases h
    ·refine AF ?_
     exact lpF (ih0 a0 (IntKind.i64.wrap (u+(y.length:Int))) (IntKind.i64.wrap (w+1)) _ h) [] []
   ·refine AF ?_
    replace h:=AD h; obtain⟨g,j,h⟩:=h
    refine caG ⟨[(3000160016,.nils,some 1)],[(1001,3000160016)],[],[(1501,160016)],[],true⟩ (NE _ _ _ j) (Z ?_)
    refine AF ?_
    exact loF (KE fuel a0 g 0 _ h) [(1000002000,160016)] []
theorem Lq (a0 r) (h:D2 a0=some r):AC Tryz.prog 174 [.ro (List.map (slD strD) a0)] (.ow (some 1) (r.map strD)):=by
 unfold D2 at h
 refine acF Tryz.func174 mixed (h:=Z ?_)
 exact loF (KF fuel a0 0 0 _ h) [] []
theorem FI (a0:Term) (u:Bool) (r:(List ByteArray)) (h:De a0 u=some r):Ei Tryz.prog Tryz.f175 [1,0,0,1] (.ro (r.map strD)) [] [] ⟨[(2,.box 1000000500 0),(5,.bool u)],[],[(1000000500,some [.int .i64 a0.kind,.int .i64 a0.num,.str a0.name,.int .i64 a0.typ.kind,.str a0.typ.name,.ro (a0.typ.kids.map TType.ds),.ro (a0.names.map strD),.ro (a0.kids.map Term.ds)])]⟩:=by
 unfold De at h
 refine BV rfl rfl (Z ?_)
 refine AB h (fun h=>Z ?_) (fun h=>Z ?_)
 ·refine AF ?_
  cases h
  refine An (.frzB 3002 [(0,[])] [] _ _ _ (by (first|rfl|(simp only [go_sem]; rfl))) (by decide) (by rfl) (by (first|rfl|(simp only [go_sem]; rfl))) (by (first|rfl|(simp only [go_sem]; rfl))) (.done _)) [] [] ?_
  simp only [go_sem]
  all_goals try rfl
 ·refine AB h (fun h=>Z ?_) (fun h=>Z ?_)
  ·cases h
   refine An (.done _) [] [] ?_
   simp only [go_sem]
  ·refine AF ?_
   cases h
   refine An (.frzN [(0,[])] [] _ _ (by (first|rfl|(simp only [go_sem]; rfl))) (by (first|rfl|(simp only [go_sem]; rfl))) (.done _)) [] [] ?_
   simp only [go_sem]
   all_goals try rfl
theorem Nf (a0 a1 r) (h:GN a0 a1=some r):AG Tryz.prog 175 [.agg [.int .i64 a0.kind,.int .i64 a0.num,.str a0.name,.int .i64 a0.typ.kind,.str a0.typ.name,.ro (a0.typ.kids.map TType.ds),.ro (a0.names.map strD),.ro (a0.kids.map Term.ds)],.int .i64 a1] [] [] (.ro (r.map strD)) [] [] :=by
 unfold GN at h
 refine agF Tryz.func175 mixed (h:=Z ?_)
 refine AB h (fun h=>Z ?_) (fun h=>Z ?_)
 ·exact Aj (FI a0 true _ h) [] [(1000000500,1000)]
 ·refine AB h (fun h=>Z ?_) (fun h=>Z ?_)
  ·exact Aj (FI a0 (decide (a1=1)) _ h) [] [(1000000500,1000)]
  ·exact Aj (FI a0 false _ h) [] [(1000000500,1000)]
theorem RJ (n:Nat):(∀a0 a1 a2 r,F9 n a0 a1 a2=some r→AG Tryz.prog 154 [.agg [.int .i64 a0.kind,.int .i64 a0.num,.str a0.name,.int .i64 a0.typ.kind,.str a0.typ.name,.ro (a0.typ.kids.map TType.ds),.ro (a0.names.map strD),.ro (a0.kids.map Term.ds)],.ro (a1.map strD),.own 1001] [(1001,⟨List.map strD a2,some 1,0,false⟩)] [] (.own 1501) [(1501,⟨List.map strD r,some 1,0,false⟩)] [])∧
    (∀a0 a1 a2 u r,EM n a0 a1 a2 u=some r→Ei Tryz.prog Tryz.f154 [1,0,1] (.own 1501) [(1501,⟨List.map strD r,some 1,0,false⟩)] [] ⟨[(1,.ro (a1.map strD)),(2,.own 1000000000),(3,.box 1000000500 0),(25,.bool u)],[(1000000000,some ⟨List.map strD a2,some 1,0,false⟩)],[(1000000500,some [.int .i64 a0.kind,.int .i64 a0.num,.str a0.name,.int .i64 a0.typ.kind,.str a0.typ.name,.ro (a0.typ.kids.map TType.ds),.ro (a0.names.map strD),.ro (a0.kids.map Term.ds)])]⟩)∧
    (∀a0 a1 w y r,B7 n a0 a1 w y=some r→Ei Tryz.prog Tryz.f154 [1,1,0,1,0] (.own 1501) [(1501,⟨List.map strD r,some 1,0,false⟩)] [] ⟨[(1,.ro (a1.map strD)),(2,.own 1000002000),(3,.box 1000002500 0),(32,.ro (a0.kids.map Term.ds)),(33,.int .i64 (a0.kids.length:Int)),(34,.int .i64 y)],[(1000002000,some ⟨List.map strD w,some 1,0,false⟩)],[(1000002500,some [.int .i64 a0.kind,.int .i64 a0.num,.str a0.name,.int .i64 a0.typ.kind,.str a0.typ.name,.ro (a0.typ.kids.map TType.ds),.ro (a0.names.map strD),.ro (a0.kids.map Term.ds)])]⟩):=by
 induction n with
 |zero=>exact⟨(fun _ _ _ _ h=>by rw [F9] at h; cases h),(fun _ _ _ _ _ h=>by rw [EM] at h; cases h),(fun _ _ _ _ _ h=>by rw [B7] at h; cases h)⟩
 | succ n ih=>
  obtain⟨ih0,ih1,ih2⟩:=ih
  refine⟨?_,?_,?_⟩
  ·intro a0 a1 a2 r h
   rw [F9] at h
   refine agF Tryz.func154 mixed (h:=Z ?_)
   refine AB h (fun h=>Z ?_) (fun h=>Z ?_)
   ·replace h:=AD h; obtain⟨q,g,h⟩:=h
    refine AH (DS _ _ _ g) (Z ?_)
    refine AB h (fun h=>Z ?_) (fun h=>Z ?_)
    ·replace h:=AD h; obtain⟨j,k,h⟩:=h
     refine AH (DS _ _ _ k) (Z ?_)
     exact Aj (ih1 a0 a1 a2 (!j) _ h) [(1000000000,1001)] [(1000000500,1000)]
    ·exact Aj (ih1 a0 a1 a2 false _ h) [(1000000000,1001)] [(1000000500,1000)]
   ·exact Aj (ih1 a0 a1 a2 false _ h) [(1000000000,1001)] [(1000000500,1000)]
  ·intro a0 a1 a2 u r h
   rw [EM] at h
   refine BV rfl rfl (Z ?_)
   refine AB h (fun h=>Z ?_) (fun h=>Z ?_)
   ·replace h:=AD h; obtain⟨b,d,h⟩:=h
    have hq_:=CZ d
    obtain⟨hv3004a,hv3004b⟩:=hq_
    refine Ga false (Z ?_)
    refine Cd (by refine⟨?_,?_⟩ <;> (try simp only [List.length_map,List.length_append,List.length_cons,List.length_nil] at*) <;> (try unfold maxLen) <;> omega) (Z ?_)
    refine C5 (b.map strD) (by rw [← hv3004b]; simp only [List.map_append,List.map_cons,List.map_nil,List.nil_append,List.append_nil,go_sem,slD]) (Z ?_)
    refine AF ?_
    cases h
    refine An (.done _) [(1501,48064)] [] ?_
    simp only [go_sem]
   ·refine AF ?_
    exact loG (ih2 a0 a1 a2 0 _ h) [(1000002000,1000000000)] [(1000002500,1000000500)]
  ·intro a0 a1 w y r h
   rw [B7] at h
   refine BV rfl rfl (Z ?_)
   refine AS (Z ?_)
   refine AB h (fun h=>Z ?_) (fun h=>Z ?_)
   ·refine AF ?_
    replace h:=AD h; obtain⟨c,e,h⟩:=h
    refine AL e (Term.ds_len _) (Z ?_)
    refine AF ?_
    refine AX [false,false,false,false,false,false,false,false,true,true] (Tr.sq [8,9] .fin) (by kernel_rfl) (Z ?_)
    replace h:=AD h; obtain⟨i,l,h⟩:=h
    refine Ao (Nf _ _ _ l) (by (first|rfl|(simp only [go_sem]; rfl))) (by first|rfl|(simp only [go_sem])) (Z ?_)
    replace h:=AD h; obtain⟨t,s,h⟩:=h
    refine AH (Lq _ _ s) (Z ?_)
    replace h:=AD h; obtain⟨o,z,h⟩:=h
    refine caG ⟨[],[(1001,1000002000)],[],[(1501,112128)],[],false⟩ (ih0 _ _ _ _ z) (Z ?_)
    refine AF ?_
    exact lpG (ih2 a0 a1 o (IntKind.i64.wrap (y+1)) _ h) [(1000002000,112128)] [(1000002500,1000002500)]
   ·refine AF ?_
    cases h
    refine An (.done _) [(1501,1000002000)] [] ?_
    simp only [go_sem]
def Sz (n:Nat):=(RJ n).1
theorem Qs (a0 r) (h:Ij a0=some r):AC Tryz.prog 117 [.agg (Term.avs a0)] (.ow (some 1) (r.map strD)):=by
 unfold Ij at h
 refine acF Tryz.func117 mixed (h:=Z ?_)
 replace h:=AD h; obtain⟨u,w,h⟩:=h
 refine caG ⟨[(3000032016,.nils,some 1)],[(1001,3000032016)],[],[(1501,32016)],[],true⟩ (Sz fuel _ _ _ _ w) (Z ?_)
 refine AF ?_
 cases h
 simp only [go_sem]
theorem IQ (a0 a1 r) (h:Cp a0 a1=some r):AC Tryz.prog 118 [.str a0,.rop (TProgram.avs a1) 0] (.bool r):=by
 unfold Cp at h
 refine acF Tryz.func118 mixed (h:=Z ?_)
 replace h:=AD h; obtain⟨u,w,h⟩:=h
 refine AH (FG _ _ _ w) (Z ?_)
 refine AF ?_
 cases h
 simp only [go_sem]
theorem I2 (n:Nat):(∀a0 a1 u r,Ap n a0 a1 u=some r→AY Tryz.prog Tryz.f120 [1,0,1,0] (.tup [.int .i64 r.1,.int .i64 r.2]) ⟨[(1,.str a1),(10,.ro (a0.map Data.ds)),(11,.int .i64 (a0.length:Int)),(12,.int .i64 u)],[],[]⟩)∧
    (∀a0 a1 u w y r,A0 n a0 a1 u w y=some r→AY Tryz.prog Tryz.f120 [1,0,1,0,0,1,1,0,0,1,1,0] (.tup [.int .i64 r.1,.int .i64 r.2]) ⟨[(1,.str a1),(6,.int .i64 u),(10,.ro (a0.map Data.ds)),(11,.int .i64 (a0.length:Int)),(12,.int .i64 u),(18,.ro (w.cons.map Constructor.ds)),(19,.int .i64 (w.cons.length:Int)),(20,.int .i64 y)],[],[]⟩):=by
 induction n with
 |zero=>exact⟨(fun _ _ _ _ h=>by rw [Ap] at h; cases h),(fun _ _ _ _ _ _ h=>by rw [A0] at h; cases h)⟩
 | succ n ih=>
  obtain⟨ih0,ih1⟩:=ih
  refine⟨?_,?_⟩
  ·intro a0 a1 u r h
   rw [Ap] at h
   refine AK rfl rfl (Z ?_)
   refine AS (Z ?_)
   refine AB h (fun h=>Z ?_) (fun h=>Z ?_)
   ·refine AF ?_
    replace h:=AD h; obtain⟨w,q,h⟩:=h
    refine AL q (Data.ds_len _) (Z ?_)
    refine AF ?_
    exact loF (ih1 a0 a1 u w 0 _ h) [] []
   ·refine AF ?_
    cases h
    simp only [go_sem]
  ·intro a0 a1 u w y r h
   rw [A0] at h
   refine AK rfl rfl (Z ?_)
   refine AS (Z ?_)
   refine AB h (fun h=>Z ?_) (fun h=>Z ?_)
   ·refine AF ?_
    replace h:=AD h; obtain⟨g,j,h⟩:=h
    refine AL j (Constructor.ds_len _) (Z ?_)
    refine AF ?_
    refine AB h (fun h=>Z ?_) (fun h=>Z ?_)
    ·cases h
     simp only [go_sem]
    ·refine AF ?_
     exact lpF (ih1 a0 a1 u w (IntKind.i64.wrap (y+1)) _ h) [] []
   ·refine AF ?_
    exact lpF (ih0 a0 a1 (IntKind.i64.wrap (u+1)) _ h) [] []
def Jd (n:Nat):=(I2 n).1
theorem Cm (a0 a1 r) (h:BW a0 a1=some r):AC Tryz.prog 120 [.ro (a0.map Data.ds),.str a1] (.tup [.int .i64 r.1,.int .i64 r.2]):=by
 unfold BW at h
 refine acF Tryz.func120 mixed (h:=Z ?_)
 exact loF (Jd fuel a0 a1 0 _ h) [] []
theorem EF (a0:Term) (a1:TProgram) (u:Bool) (r:Bool) (h:Bg a0 a1 u=some r):AY Tryz.prog Tryz.f119 [1,0,1,0,1,1,1] (.bool r) ⟨[(1,.rop [.ro (a1.datas.map Data.ds),.ro (a1.defs.map Def.ds)] 0),(2,.box 1000000500 0),(16,.bool u)],[],[(1000000500,some [.int .i64 a0.kind,.int .i64 a0.num,.str a0.name,.int .i64 a0.typ.kind,.str a0.typ.name,.ro (a0.typ.kids.map TType.ds),.ro (a0.names.map strD),.ro (a0.kids.map Term.ds)])]⟩:=by
 unfold Bg at h
 refine AK rfl rfl (Z ?_)
 refine AB h (fun h=>Z ?_) (fun h=>Z ?_)
 ·replace h:=AD h; obtain⟨w,y,h⟩:=h
  refine AH (Cm _ _ _ y) (Z ?_)
  refine AF ?_
  cases h
  simp only [go_sem]
 ·refine AF ?_
  cases h
  simp only [go_sem]
theorem IR (a0 a1 r) (h:Cq a0 a1=some r):AC Tryz.prog 119 [.agg (Term.avs a0),.rop (TProgram.avs a1) 0] (.bool r):=by
 unfold Cq at h
 refine acF Tryz.func119 mixed (h:=Z ?_)
 refine AB h (fun h=>Z ?_) (fun h=>Z ?_)
 ·replace h:=AD h; obtain⟨u,w,h⟩:=h
  refine AH (I0 fuel _ _ _ w) (Z ?_)
  refine AF ?_
  cases h
  simp only [go_sem]
 ·refine AB h (fun h=>Z ?_) (fun h=>Z ?_)
  ·exact AR (EF a0 a1 (decide (a0.kind=8)) _ h) [] [(1000000500,1000)]
  ·exact AR (EF a0 a1 (decide (a0.kind=10)) _ h) [] [(1000000500,1000)]
theorem Em (a0:TProgram) (a1:Def) (u:Bool) (r:Bool) (h:B2 a0 a1 u=some r):AY Tryz.prog Tryz.f72 [1,0,1] (.bool r) ⟨[(2,.box 1000000500 0),(3,.box 1000000501 0),(17,.bool u)],[],[(1000000500,some [.ro (a0.datas.map Data.ds),.ro (a0.defs.map Def.ds)]),(1000000501,some [.str a1.name,.int .i64 a1.typ.kind,.str a1.typ.name,.ro (a1.typ.kids.map TType.ds),.int .i64 a1.body.kind,.int .i64 a1.body.num,.str a1.body.name,.int .i64 a1.body.typ.kind,.str a1.body.typ.name,.ro (a1.body.typ.kids.map TType.ds),.ro (a1.body.names.map strD),.ro (a1.body.kids.map Term.ds)])]⟩:=by
 unfold B2 at h
 refine AK rfl rfl (Z ?_)
 refine AB h (fun h=>Z ?_) (fun h=>Z ?_)
 ·cases h
  simp only [go_sem]
 ·refine AF ?_
  replace h:=AD h; obtain⟨w,y,h⟩:=h
  refine AH (Nd fuel _ _ 119 [.agg [],.rop [.ro (a0.datas.map Data.ds),.ro (a0.defs.map Def.ds)] 0] (Still.of (by simp only [CH,Cv,Bool.and_true,Bool.true_and,Bool.and_self])) (fun y0 q hq=>IR y0 _ q hq) _ y) (Z ?_)
  refine AF ?_
  cases h
  simp only [go_sem]
theorem I3 (a0 a1 r) (h:Cb a0 a1=some r):AC Tryz.prog 72 [.agg (TProgram.avs a0),.agg (Def.avs a1)] (.bool r):=by
 unfold Cb at h
 refine acF Tryz.func72 mixed (h:=Z ?_)
 replace h:=AD h; obtain⟨u,w,h⟩:=h
 refine AH (I0 fuel _ _ _ w) (Z ?_)
 refine AB h (fun h=>Z ?_) (fun h=>Z ?_)
 ·exact AR (Em a0 a1 true _ h) [] [(1000000500,1000),(1000000501,1001)]
 ·replace h:=AD h; obtain⟨y,g,h⟩:=h
  refine AH (Qs _ _ g) (Z ?_)
  replace h:=AD h; obtain⟨j,k,h⟩:=h
  refine AH (Ib _ _ 118 [.agg [],.rop [.ro (a0.datas.map Data.ds),.ro (a0.defs.map Def.ds)] 0] (Still.of (by simp only [CH,Cv,Bool.and_true,Bool.true_and,Bool.and_self])) (fun y0 q hq=>IQ y0 _ q hq) _ k) (Z ?_)
  exact AR (Em a0 a1 j _ h) [] [(1000000500,1000),(1000000501,1001)]
theorem HO (n:Nat):(∀ (a0:List Term) (a1:List Constructor) (u:Int) (f2:(Term→Constructor→Option Bool)) (g2:FuncId) (c2:List AV) (s2:Still c2) (h2:∀ (y0:Term) (y1:Constructor) (q:Bool),f2 y0 y1=some q→AC Tryz.prog g2 (fnA c2 [.agg (Term.avs y0),.agg (Constructor.avs y1)]) (.bool q)) (r:Bool),AU n a0 a1 u f2=some r→AY Tryz.prog Tryz.f156 [1,1,0,1,0] (.bool r) ⟨[(1,.ro (a1.map Constructor.ds)),(2,.fn g2 c2),(15,.ro (a0.map Term.ds)),(16,.int .i64 (a0.length:Int)),(17,.int .i64 u)],[],[]⟩):=by
 induction n with
 |zero=>exact((fun _ _ _ _ _ _ _ _ _ h=>by rw [AU] at h; cases h))
 | succ n ih=>
  have ih0:=ih
  ·intro a0 a1 u f2 g2 c2 s2 h2 r h
   rw [AU] at h
   refine AK rfl rfl ?_
   try simp only [go_sem,s2.k,s2.r,s2.c,s2.p,s2.o,s2.f]
   refine AS ?_
   try simp only [go_sem,s2.k,s2.r,s2.c,s2.p,s2.o,s2.f]
   refine AB h (fun h=>?_) (fun h=>?_)
   ·try simp only [go_sem,s2.k,s2.r,s2.c,s2.p,s2.o,s2.f]
    refine BA ?_
    try simp only [go_sem,s2.k,s2.r,s2.c,s2.p,s2.o,s2.f]
    replace h:=AD h; obtain⟨w,y,h⟩:=h
    refine AL y (Term.ds_len _) ?_
    try simp only [go_sem,s2.k,s2.r,s2.c,s2.p,s2.o,s2.f]
    refine BA ?_
    try simp only [go_sem,s2.k,s2.r,s2.c,s2.p,s2.o,s2.f]
    replace h:=AD h; obtain⟨g,j,h⟩:=h
    refine AL j (Constructor.ds_len _) ?_
    try simp only [go_sem,s2.k,s2.r,s2.c,s2.p,s2.o,s2.f]
    refine BA ?_
    try simp only [go_sem,s2.k,s2.r,s2.c,s2.p,s2.o,s2.f]
    replace h:=AD h; obtain⟨b,d,h⟩:=h
    refine AH (h2 _ _ _ d) ?_
    try simp only [go_sem,s2.k,s2.r,s2.c,s2.p,s2.o,s2.f]
    refine BA ?_
    try simp only [go_sem,s2.k,s2.r,s2.c,s2.p,s2.o,s2.f]
    refine AB h (fun h=>?_) (fun h=>?_)
    ·try simp only [go_sem,s2.k,s2.r,s2.c,s2.p,s2.o,s2.f]
     cases h
     simp only [go_sem,s2.k,s2.r,s2.c,s2.p,s2.o,s2.f]
    ·try simp only [go_sem,s2.k,s2.r,s2.c,s2.p,s2.o,s2.f]
     refine BA ?_
     try simp only [go_sem,s2.k,s2.r,s2.c,s2.p,s2.o,s2.f]
     refine M7 (DR rfl rfl (ih0 a0 a1 (IntKind.i64.wrap (u+1)) f2 g2 c2 s2 h2 _ h):) (.one ⟨_,.done _,[],[],?_⟩)
     try simp only [go_sem,s2.k,s2.r,s2.c,s2.p,s2.o,s2.f]
   ·try simp only [go_sem,s2.k,s2.r,s2.c,s2.p,s2.o,s2.f]
    refine BA ?_
    try simp only [go_sem,s2.k,s2.r,s2.c,s2.p,s2.o,s2.f]
    cases h
    simp only [go_sem,s2.k,s2.r,s2.c,s2.p,s2.o,s2.f]
theorem Ic (a0:List Term) (a1:List Constructor) (f2:(Term→Constructor→Option Bool)) (g2:FuncId) (c2:List AV) (s2:Still c2) (h2:∀ (y0:Term) (y1:Constructor) (q:Bool),f2 y0 y1=some q→AC Tryz.prog g2 (fnA c2 [.agg (Term.avs y0),.agg (Constructor.avs y1)]) (.bool q)) (r:Bool) (h:C3 a0 a1 f2=some r):AC Tryz.prog 156 [.ro (a0.map Term.ds),.ro (a1.map Constructor.ds),.fn g2 c2] (.bool r):=by
 unfold C3 at h
 refine acF Tryz.func156 mixed (h:=?_)
 try simp only [go_sem,s2.k,s2.r,s2.c,s2.p,s2.o,s2.f]
 refine AB h (fun h=>?_) (fun h=>?_)
 ·try simp only [go_sem,s2.k,s2.r,s2.c,s2.p,s2.o,s2.f]
  cases h
  simp only [go_sem,s2.k,s2.r,s2.c,s2.p,s2.o,s2.f]
 ·try simp only [go_sem,s2.k,s2.r,s2.c,s2.p,s2.o,s2.f]
  refine BA ?_
  try simp only [go_sem,s2.k,s2.r,s2.c,s2.p,s2.o,s2.f]
  refine EH (DR rfl rfl (HO fuel a0 a1 0 f2 g2 c2 s2 h2 _ h):) (.one ⟨_,.done _,[],[],?_⟩)
  try simp only [go_sem,s2.k,s2.r,s2.c,s2.p,s2.o,s2.f]
theorem Id (a0 a1 r) (h:Bq a0 a1=some r):AC Tryz.prog 157 [.agg (Term.avs a0),.agg (Constructor.avs a1)] (.bool r):=by
 unfold Bq at h
 refine acF Tryz.func157 mixed (h:=Z ?_)
 refine AB h (fun h=>Z ?_) (fun h=>Z ?_)
 ·refine AF ?_
  cases h
  simp only [go_sem]
 ·refine AF ?_
  cases h
  simp only [go_sem]
theorem Je (a0 a1 r) (h:Df a0 a1=some r):AC Tryz.prog 123 [.agg (TProgram.avs a0),.ro (a1.map Term.ds)] (.bool r):=by
 unfold Df at h
 refine acF Tryz.func123 mixed (h:=Z ?_)
 refine AX [] .fin (by kernel_rfl) (Z ?_)
 replace h:=AD h; obtain⟨u,w,h⟩:=h
 refine AL w (Term.ds_len _) (Z ?_)
 replace h:=AD h; obtain⟨y,g,h⟩:=h
 refine AH (Cm _ _ _ g) (Z ?_)
 refine AF ?_
 replace h:=AD h; obtain⟨j,k,h⟩:=h
 refine AL k (Data.ds_len _) (Z ?_)
 replace h:=AD h; obtain⟨b,d,h⟩:=h
 refine AH (Ic _ _ _ 157 [] (Still.of rfl) (fun y0 y1 q hq=>Id y0 y1  q hq) _ d) (Z ?_)
 refine AF ?_
 cases h
 simp only [go_sem]
theorem Jf (a0 a1 r) (h:Ci a0 a1=some r):AC Tryz.prog 75 [.agg (TProgram.avs a0),.agg (Term.avs a1)] (.bool r):=by
 unfold Ci at h
 refine acF Tryz.func75 mixed (h:=Z ?_)
 refine AB h (fun h=>Z ?_) (fun h=>Z ?_)
 ·replace h:=AD h; obtain⟨u,w,h⟩:=h
  refine AH (Cm _ _ _ w) (Z ?_)
  refine AF ?_
  refine AX [] .fin (by kernel_rfl) (Z ?_)
  replace h:=AD h; obtain⟨y,q,h⟩:=h
  refine AL q (Data.ds_len _) (Z ?_)
  replace h:=AD h; obtain⟨g,j,h⟩:=h
  refine AL j (Constructor.ds_len _) (Z ?_)
  refine AF ?_
  cases h
  simp only [go_sem]
 ·refine AB h (fun h=>Z ?_) (fun h=>Z ?_)
  ·refine AX [] .fin (by kernel_rfl) (Z ?_)
   replace h:=AD h; obtain⟨k,b,h⟩:=h
   refine Cd (Gw (by intro x; exact(Term.ds_len _)) _) (Z ?_)
   refine Bb (ND b) (Z ?_)
   replace h:=AD h; obtain⟨d,c,h⟩:=h
   refine AH (Je _ _ _ c) (Z ?_)
   refine AF ?_
   cases h
   simp only [go_sem]
  ·refine AF ?_
   cases h
   simp only [go_sem]
theorem Ng (a0 a1 r) (h:GO a0 a1=some r):AC Tryz.prog 73 [.agg (Def.avs a0),.rop (TProgram.avs a1) 0] (.bool r):=by
 unfold GO at h
 refine acF Tryz.func73 mixed (h:=Z ?_)
 replace h:=AD h; obtain⟨u,w,h⟩:=h
 refine AH (Nd fuel _ _ 75 [.agg [.agg [.ro (a1.datas.map Data.ds),.ro (a1.defs.map Def.ds)]]] (Still.of (by simp only [CH,Cv,Bool.and_true,Bool.true_and,Bool.and_self])) (fun y0 q hq=>Jf _ y0  q hq) _ w) (Z ?_)
 refine AF ?_
 cases h
 simp only [go_sem]
theorem PH (a0 r) (h:GP a0=some r):AC Tryz.prog 33 [.agg (TProgram.avs a0)] (.int .i64 r):=by
 unfold GP at h
 refine acF Tryz.func33 mixed (h:=Z ?_)
 replace h:=AD h; obtain⟨u,w,h⟩:=h
 refine AH (Nc _ _ w) (Z ?_)
 refine AF ?_
 refine AB h (fun h=>Z ?_) (fun h=>Z ?_)
 ·cases h
  simp only [go_sem]
 ·replace h:=AD h; obtain⟨y,g,h⟩:=h
  refine AH (El _ _ 72 [.agg [.agg [.ro (a0.datas.map Data.ds),.ro (a0.defs.map Def.ds)]]] (Still.of (by simp only [CH,Cv,Bool.and_true,Bool.true_and,Bool.and_self])) (fun y0 q hq=>I3 _ y0  q hq) _ g) (Z ?_)
  refine AF ?_
  refine AB h (fun h=>Z ?_) (fun h=>Z ?_)
  ·cases h
   simp only [go_sem]
  ·replace h:=AD h; obtain⟨j,k,h⟩:=h
   refine AH (El _ _ 73 [.agg [],.rop [.ro (a0.datas.map Data.ds),.ro (a0.defs.map Def.ds)] 0] (Still.of (by simp only [CH,Cv,Bool.and_true,Bool.true_and,Bool.and_self])) (fun y0 q hq=>Ng y0 _ q hq) _ k) (Z ?_)
   refine AF ?_
   refine AB h (fun h=>Z ?_) (fun h=>Z ?_)
   ·cases h
    simp only [go_sem]
   ·refine AF ?_
    cases h
    simp only [go_sem]
end Go.Proofs.YtaedfiifhjlmlaaGreat.Ab
