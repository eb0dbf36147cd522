/- The functions do what their models say. -/
import Derived.Test.YtjnifengdhcojaaGreatDoorModD
import Derived.Test.YtjnifengdhcojaaGreatDoorTi2
import Derived.Test.YtjnifengdhcojaaGreatDoorWlkE
namespace Go.Proofs.YtjnifengdhcojaaGreatDoor.Ab
set_option linter.defProp false
set_option linter.unusedVariables false
set_option linter.unusedSimpArgs false
set_option maxRecDepth 20000
set_option maxHeartbeats 4000000
open Go.RowKit _root_.Go.Proofs.Tryz
theorem Ss (a0 r) (h:Iq a0=some r):AC prog 242 [.agg (Core.avs a0)] (.bool r):=by
 unfold Iq at h
 refine acF func242 mixed (h:=Z ?_)
 exact AF trivial h
theorem N5 (a0 r) (h:Hu a0=some r):AC prog 209 [.agg (Core.avs a0)] (.bool r):=by
 unfold Hu at h
 refine acF func209 mixed (h:=Z ?_)
 replace h:=AB h; obtain⟨u,w,h⟩:=h
 refine AK (M1 _ _ w) (Z ?_)
 refine AJ h (fun h=>Z ?_) (fun h=>Z ?_)
 ·replace h:=AB h; obtain⟨y,g,h⟩:=h
  refine AK (QF fuel _ _ 242 [] (Still.of rfl) (fun p q j=>Ss p  q j) _ g) (Z ?_)
  exact AF trivial h
 ·exact AF trivial h
theorem Na (a0 r) (h:EY a0=some r):AC prog 208 [.agg (Core.avs a0)] (.bool r):=by
 unfold EY at h
 refine acF func208 mixed (h:=Z ?_)
 exact AF (k1 N5) h
theorem QI (a0 r) (h:G3 a0=some r):AC prog 158 [.agg (Book.avs a0)] (.bool r):=by
 unfold G3 at h
 refine acF func158 mixed (h:=Z ?_)
 replace h:=AB h; obtain⟨u,w,h⟩:=h
 refine AK (VI _ _ w) (Z ?_)
 refine AJ h (fun h=>Z ?_) (fun h=>Z ?_)
 ·replace h:=AB h; obtain⟨y,g,h⟩:=h
  refine AK (Cw _ _ 208 [] (Still.of rfl) (fun p q j=>Na p  q j) _ g) (Z ?_)
  exact AF trivial h
 ·exact AF trivial h
theorem QJ (a0 a1 r) (h:G4 a0 a1=some r):AC prog 159 [.agg (Book.avs a0),.agg (Core.avs a1)] (.bool r):=by
 unfold G4 at h
 refine acF func159 mixed (h:=Z ?_)
 exact AF (k3 N4 N5 M2) h
theorem Nb (a0 a1 r) (h:EZ a0 a1=some r):AC prog 104 [.agg (Book.avs a0),.agg (Core.avs a1)] (.bool r):=by
 unfold EZ at h
 refine acF func104 mixed (h:=Z ?_)
 exact AF (k2 QI QJ) h
theorem QK (u:Bool) (r:Int) (h:Ea u=some r):AR prog f160 [1,1,1,0,1,0,1,1,1,0,1,0,1,1,1] (.int .i64 r) ⟨[(38,.bool u)],[],[]⟩:=by
 unfold Ea at h
 exact AF trivial h
theorem QL (u:Core) (w:Core) (y:Bool) (r:Int) (h:Fp u w y=some r):AR prog f160 [1,1,1,0,1,0,1,1,1,0,1,0,1] (.int .i64 r) ⟨[(3,.box 1000000500 0),(4,.box 1000000501 0),(29,.bool y)],[],[(1000000500,some (Core.avs u)),(1000000501,some (Core.avs w))]⟩:=by
 unfold Fp at h
 exact AF (k1 QK) h
theorem QM (u:Bool) (r:Int) (h:DV u=some r):AR prog f160 [1,1,1,0,1,0,1,1,1,1,1,0,0,1,1,1] (.int .i64 r) ⟨[(59,.bool u)],[],[]⟩:=by
 unfold DV at h
 exact AF trivial h
theorem QN (a0:Core) (u:Core) (w:Bool) (r:Int) (h:DW a0 u w=some r):AR prog f160 [1,1,1,0,1,0,1,1,1,1,1,0,0,1,1,0,1] (.int .i64 r) ⟨[(1,.box 1000003500 0),(3,.box 1000003501 0),(59,.bool w)],[],[(1000003500,some (Core.avs a0)),(1000003501,some (Core.avs u))]⟩:=by
 unfold DW at h
 exact AF (k1 QM) h
theorem QO (a0:Core) (u:Core) (w:Bool) (r:Int) (h:Eb a0 u w=some r):AR prog f160 [1,1,1,0,1,0,1,1,1,1,1] (.int .i64 r) ⟨[(1,.box 1000002500 0),(3,.box 1000002501 0),(52,.bool w)],[],[(1000002500,some (Core.avs a0)),(1000002501,some (Core.avs u))]⟩:=by
 unfold Eb at h
 exact AF (k1 QN) h
theorem M4 (a0 r) (h:Gp a0=some r):AC prog 160 [.agg (Core.avs a0)] (.int .i64 r):=by
 unfold Gp at h
 refine acF func160 mixed (h:=Z ?_)
 exact AF (k2 QL QO) h
theorem M5 (n:Nat):(∀p C U r,BZ n p C U=some r→AG prog 105 [.agg (Core.avs p),.box 1 0,.own 1001] [(1001,⟨List.map AD U,some 1,0,.no⟩)] [(1,[.int .i64 C])] (.own 1501) [(1501,⟨List.map AD r.1,some 1,0,.no⟩)] [(1,[.int .i64 r.2])])∧
    (∀p C u r,Bb n p C u=some r→B2 prog f105 [1,1] (.own 1501) [(1501,⟨List.map AD r.1,some 1,0,.no⟩)] [(1,[.int .i64 r.2])] ⟨[(1,.box 1 0),(2,.own 1000000000),(3,.box 1000000500 0)],[(1000000000,some ⟨List.map AD u,some 1,0,.no⟩)],[(1,some [.int .i64 C]),(1000000500,some (Core.avs p))]⟩)∧
    (∀p w y q r,BG n p w y q=some r→B2 prog f105 [1,1,1,0,1,0] (.own 1501) [(1501,⟨List.map AD r.1,some 1,0,.no⟩)] [(1,[.int .i64 r.2])] ⟨[(1,.box 1 0),(2,.own 1000002000),(24,.ro (p.kids.map Core.ds)),(25,.int .i64 (p.kids.length:Int)),(26,.int .i64 q)],[(1000002000,some ⟨List.map AD y,some 1,0,.no⟩)],[(1,some [.int .i64 w])]⟩):=by
 induction n with
 |zero=>exact⟨(fun _ _ _ _ h=>by rw [BZ] at h; cases h),(fun _ _ _ _ h=>by rw [Bb] at h; cases h),(fun _ _ _ _ _ h=>by rw [BG] at h; cases h)⟩
 | succ n ih=>
  obtain⟨J,G,I⟩:=ih
  refine⟨?_,?_,?_⟩
  ·intro p C U r h
   rw [BZ] at h
   refine agF func105 mixed (h:=Z ?_)
   replace h:=AB h; obtain⟨g,j,h⟩:=h
   refine AK (M4 _ _ j) (Z ?_)
   refine AL ?_
   refine AJ h (fun h=>Z ?_) (fun h=>Z ?_)
   ·replace h:=AB h; obtain⟨k,b,h⟩:=h
    have O:=Ad b
    obtain⟨F,v⟩:=O
    refine Bp .no (Z ?_)
    refine CN (Z ?_)
    refine Hf AD v (Z ?_)
    exact AF (k1 G) h
   ·exact AF (k1 G) h
  ·intro p C u r h
   rw [Bb] at h
   exact AF (k1 I) h
  ·intro p w y q r h
   rw [BG] at h
   refine Ae rfl rfl (Z ?_)
   refine A5 (Z ?_)
   refine AJ h (fun h=>Z ?_) (fun h=>Z ?_)
   ·refine AL ?_
    replace h:=AB h; obtain⟨d,c,h⟩:=h
    refine AS c (Core.ds_len _) (Z ?_)
    refine AL ?_
    replace h:=AB h; obtain⟨e,i,h⟩:=h
    refine caG ⟨[],[(1001,1000002000)],[(1,1,0)],[(1501,128048)],[],true⟩ (J _ _ _ _ i) (Z ?_)
    exact AF (k1 I) h
   ·exact AF trivial h
def Nc (n:Nat):=(M5 n).1
theorem M6 (n:Nat):(∀j u r,BO n j u=some r→AR prog f106 [1,0,1,0] (.bool r) ⟨[(0,.ro (j.map AD)),(3,.int .i64 u)],[],[]⟩):=by
 induction n with
 |zero=>exact((fun _ _ _ h=>by rw [BO] at h; cases h))
 | succ n ih=>
  have p:=ih
  ·intro j u r h
   rw [BO] at h
   exact AF (k1 p) h
theorem QP (a0 r) (h:Fq a0=some r):AC prog 106 [.ro (a0.map AD)] (.bool r):=by
 unfold Fq at h
 refine acF func106 mixed (h:=Z ?_)
 exact AF (k1 M6) h
theorem M7 (n:Nat):(∀j p u r,Bd n j p u=some r→AR prog f162 [1,0,1,0] (.int .i64 r) ⟨[(0,.ro (j.map AD)),(1,.int .i64 p),(7,.int .i64 (j.length:Int)),(8,.int .i64 u)],[],[]⟩):=by
 induction n with
 |zero=>exact((fun _ _ _ _ h=>by rw [Bd] at h; cases h))
 | succ n ih=>
  have q:=ih
  ·intro j p u r h
   rw [Bd] at h
   exact AF (k1 q) h
theorem QQ (a0 a1 r) (h:G5 a0 a1=some r):AC prog 162 [.ro (a0.map AD),.int .i64 a1] (.int .i64 r):=by
 unfold G5 at h
 refine acF func162 mixed (h:=Z ?_)
 exact AF (k1 M7) h
theorem IW (a0 a1 r) (h:Co a0 a1=some r):AC prog 109 [.ro (a0.map AD),.int .i64 a1] (.bool r):=by
 unfold Co at h
 refine acF func109 mixed (h:=Z ?_)
 exact AF (k1 QQ) h
theorem L3 (a0 a1 r) (h:DX a0 a1=some r):AC prog 108 [.int .i64 a0,.rop [.ro (a1.map AD)] 0] (.bool r):=by
 unfold DX at h
 refine acF func108 mixed (h:=Z ?_)
 exact AF (k1 IW) h
theorem Gw (a0 r) (h:G6 a0=some r):AC prog 193 [.int .i64 a0] (.int .i64 r):=by
 unfold G6 at h
 refine acF func193 mixed (h:=Z ?_)
 exact AF trivial h
theorem YN (a0 a1 a2 r) (h:Kj a0 a1 a2=some r):AC prog 144 [.int .i64 a0,.int .i64 a1,.int .i64 a2] (.int .i64 r):=by
 unfold Kj at h
 refine acF func144 mixed (h:=Z ?_)
 replace h:=AB h; obtain⟨u,w,h⟩:=h
 refine AK (Gw _ _ w) (Z ?_)
 replace h:=AB h; obtain⟨y,q,h⟩:=h
 refine AK (Gw _ _ q) (Z ?_)
 refine AL ?_
 refine AJ h (fun h=>Z ?_) (fun h=>Z ?_)
 ·exact AF (k1 Gw) h
 ·refine AJ h (fun h=>Z ?_) (fun h=>Z ?_)
  ·exact AF (k1 Gw) h
  ·refine AJ h (fun h=>Z ?_) (fun h=>Z ?_)
   ·exact AF (k1 Gw) h
   ·refine AJ h (fun h=>Z ?_) (fun h=>Z ?_)
    ·refine AJ h (fun h=>Z ?_) (fun h=>Z ?_)
     ·exact AF trivial h
     ·refine AL ?_
      replace h:=AB h; obtain⟨e,i,h⟩:=h
      refine Bu (di i) (Z ?_)
      exact AF (k1 Gw) h
    ·exact AF (k1 Lj) h
theorem YO (a0 a1 r) (h:NR a0 a1=some r):AG prog 249 [.agg (Core.avs a0),.agg (Core.avs a1)] [] [] (.agg (Core.avs r)) [] [] :=by
 unfold NR at h
 refine agF func249 mixed (h:=Z ?_)
 refine AL ?_
 refine AL ?_
 cases h
 exact Bv (.fN [(0,[2])] [] (k:=.frzB 2002 [(0,[3])] [(1002,3)] _ _ _ (by (first|rfl|(simp only [go_sem]; rfl))) (by decide) (by rfl) (by (first|rfl|(simp only [go_sem]; rfl))) (by (first|rfl|(simp only [go_sem]; rfl))) (.done _))) [] []
theorem VL (n:Nat):(∀p u w y q g r,En n p u w y q g=some r→B2 prog f213 [1,1,0,1,0] (.agg (Core.avs r)) [] [] ⟨[(4,.box 1000001500 0),(5,.box 1000001501 0),(10,.ro (p.map Core.ds)),(11,.int .i64 (p.length:Int)),(12,.int .i64 g)],[],[(1000001500,some [.int .i64 0,.int .i64 0,.nils,.nils]),(1000001501,some [.int .i64 u,.int .i64 w,.ro (y.map AD),.ro (q.map Core.ds)])]⟩):=by
 induction n with
 |zero=>exact((fun _ _ _ _ _ _ _ h=>by rw [En] at h; cases h))
 | succ n ih=>
  have v:=ih
  ·intro p u w y q g r h
   rw [En] at h
   refine Ae rfl rfl (Z ?_)
   refine A5 (Z ?_)
   refine AJ h (fun h=>Z ?_) (fun h=>Z ?_)
   ·refine AL ?_
    replace h:=AB h; obtain⟨j,k,h⟩:=h
    refine AS k (Core.ds_len _) (Z ?_)
    refine AL ?_
    replace h:=AB h; obtain⟨b,d,h⟩:=h
    refine DR (YO _ _ _ d) (by (first|rfl|(simp only [go_sem]; rfl))) (by first|rfl|(simp only [go_sem])) (Z ?_)
    exact AF (k1 v) h
   ·exact AF trivial h
theorem aa (a0 a1 r) (h:Ml a0 a1=some r):AG prog 213 [.int .i64 a0,.ro (a1.map Core.ds)] [] [] (.agg (Core.avs r)) [] [] :=by
 unfold Ml at h
 refine agF func213 mixed (h:=Z ?_)
 refine AL ?_
 replace h:=AB h; obtain⟨u,w,h⟩:=h
 refine DR (Lk _ _ w) (by (first|rfl|(simp only [go_sem]; rfl))) (by first|rfl|(simp only [go_sem])) (Z ?_)
 refine AL ?_
 refine CL (Ds rfl rfl (VL fuel a1 u.kind u.value [] [] 0 _ h):) (.one ⟨_,.fN [] [(2002,2),(2002,3)] (k:=.done _),[],[(1000001500,1000),(1000001501,2002)],?_⟩)
 simp only [go_sem]
 all_goals try rfl
theorem L4 (a0 r) (h:Ez a0=some r):AG prog 215 [.ro (a0.map Core.ds)] [] [] (.own 1501) [(1501,⟨List.map Core.dz r,some 4,0,.yes⟩)] [] :=by
 unfold Ez at h
 refine agF func215 mixed (h:=Z ?_)
 refine nC (by simp only [go_sem]) (fun h0=>?_) ?_
 ·try simp only [go_sem]
  have p:=List.map_eq_nil_iff.1 h0
  obtain rfl:=p
  obtain rfl:r=[] :=by cases h; rfl
  simp only [go_sem]
  exact Bv (.dp 0 2000000000 (some 4) .yes [] (k:=.done _)) [(1501,2000000000)] []
 ·try simp only [go_sem]
  refine AL ?_
  replace h:=AB h; obtain⟨u,w,h⟩:=h
  have p:=Ad w
  obtain⟨q,j⟩:=p
  refine Bp .yes (Z ?_)
  refine Bu (LQ (by intro x; exact⟨(Core.ds_len _),Core.dz_ng x⟩) _) (Z ?_)
  refine A4 (a0.map Core.dz) (TY Core.dz_fz _) (Z ?_)
  refine CN (Z ?_)
  refine A4 (u.map Core.dz) (by rw [← j]; simp only [List.map_append,List.map_cons,List.map_nil,List.nil_append,List.append_nil,go_sem,Core.ds_eq,Core.dz_eq]) (Z ?_)
  exact AF trivial h
theorem V3 (a0 a1 a2 r) (h:JU a0 a1 a2=some r):AG prog 163 [.agg [.ro (a0.defs.map Core.ds)],.int .i64 a1,.agg (Core.avs a2)] [] [] (.agg (Core.avs r)) [] [] :=by
 unfold JU at h
 refine agF func163 mixed (h:=Z ?_)
 refine AL ?_
 refine AJ h (fun h=>Z ?_) (fun h=>Z ?_)
 ·refine AY [false,false,false,false,false,false,false,false,false,false,false,false,true] (Tr.sq [12] .fin) (by kernel_rfl) (Z ?_)
  replace h:=AB h; obtain⟨u,w,h⟩:=h
  refine AS w (Core.ds_len _) (Z ?_)
  replace h:=AB h; obtain⟨y,q,h⟩:=h
  refine AS q (Core.ds_len _) (Z ?_)
  replace h:=AB h; obtain⟨g,j,h⟩:=h
  refine AS j (Core.ds_len _) (Z ?_)
  replace h:=AB h; obtain⟨k,b,h⟩:=h
  refine AK (RY _ _ _ b) (Z ?_)
  refine AL ?_
  cases h
  exact Bv (.fT 64176 [(0,[2])] [(1002,2)] (k:=.fT 64177 [(0,[3])] [(1002,3)] (k:=.done _))) [] []
 ·refine AJ h (fun h=>Z ?_) (fun h=>Z ?_)
  ·refine AY [false,false,false,false,false,false,false,false,false,false,false,false,false,false,true] (Tr.sq [14] .fin) (by kernel_rfl) (Z ?_)
   replace h:=AB h; obtain⟨d,c,h⟩:=h
   refine AS c (Core.ds_len _) (Z ?_)
   replace h:=AB h; obtain⟨e,i,h⟩:=h
   refine AS i (Core.ds_len _) (Z ?_)
   replace h:=AB h; obtain⟨l,t,h⟩:=h
   refine AK (YN _ _ _ _ t) (Z ?_)
   replace h:=AB h; obtain⟨s,o,h⟩:=h
   refine DR (Ll _ _ o) (by (first|rfl|(simp only [go_sem]; rfl))) (by first|rfl|(simp only [go_sem])) (Z ?_)
   refine AL ?_
   cases h
   exact Bv (.fN [(0,[2]),(0,[3])] [] (k:=.done _)) [] []
  ·refine AJ h (fun h=>Z ?_) (fun h=>Z ?_)
   ·refine AJ h (fun h=>Z ?_) (fun h=>Z ?_)
    ·refine AY [false,false,false,false,false,false,false,false,false,false,false,false,false,false,false,true] (Tr.sq [15] .fin) (by kernel_rfl) (Z ?_)
     replace h:=AB h; obtain⟨z,u1,h⟩:=h
     refine AS u1 (Core.ds_len _) (Z ?_)
     replace h:=AB h; obtain⟨u2,u3,h⟩:=h
     refine AS u3 rfl (Z ?_)
     replace h:=AB h; obtain⟨u4,u5,h⟩:=h
     refine AS u5 (Core.ds_len _) (Z ?_)
     replace h:=AB h; obtain⟨u6,u7,h⟩:=h
     refine DR (aa _ _ _ u7) (by (first|rfl|(simp only [go_sem]; rfl))) (by first|rfl|(simp only [go_sem])) (Z ?_)
     exact AF trivial h
    ·refine AL ?_
     refine AY [false,false,false,false,false,false,false,false,false,false,false,false,true] (Tr.sq [12] .fin) (by kernel_rfl) (Z ?_)
     replace h:=AB h; obtain⟨u8,u9,h⟩:=h
     refine AS u9 (Core.ds_len _) (Z ?_)
     replace h:=AB h; obtain⟨u10,G,h⟩:=h
     refine AK (Lj _ _ G) (Z ?_)
     replace h:=AB h; obtain⟨u12,F,h⟩:=h
     refine AS F rfl (Z ?_)
     replace h:=AB h; obtain⟨u14,I,h⟩:=h
     refine DR (Lk _ _ I) (by (first|rfl|(simp only [go_sem]; rfl))) (by first|rfl|(simp only [go_sem])) (Z ?_)
     refine AL ?_
     cases h
     exact Bv (.fN [(0,[2]),(0,[3])] [] (k:=.done _)) [] []
   ·refine AL ?_
    refine AY [false,false,false,false,false,false,false,false,false,false,false,true] (Tr.sq [11] .fin) (by kernel_rfl) (Z ?_)
    replace h:=AB h; obtain⟨u16,v,h⟩:=h
    refine mF (L4 _ _ v) (by (first|rfl|(simp only [go_sem]; rfl))) (Z ?_)
    refine AL ?_
    replace h:=AB h; obtain⟨u18,U,h⟩:=h
    refine AS U (Core.ds_len _) (Z ?_)
    replace h:=AB h; obtain⟨u20,O,h⟩:=h
    refine AK (Lj _ _ O) (Z ?_)
    refine AL ?_
    refine AY [false,false,false,false,false,false,false,false,false,false,false,false,false,false,true] (Tr.sq [14] .fin) (by kernel_rfl) (Z ?_)
    replace h:=AB h; obtain⟨u22,C,h⟩:=h
    refine AS C (Core.ds_len _) (Z ?_)
    replace h:=AB h; obtain⟨u24,Y,h⟩:=h
    refine AS Y (Core.ds_len _) (Z ?_)
    replace h:=AB h; obtain⟨u26,p,h⟩:=h
    refine AS p (Core.dz_len _) (Z ?_)
    replace h:=AB h; obtain⟨W,J,h⟩:=h
    refine CM (Bq p) (Z ?_)
    refine A4 (W.map Core.dz) (by rw [← BE J]; simp only [List.map_set,go_sem,Core.ds_eq,Core.dz_eq]) (Z ?_)
    refine AL ?_
    cases h
    exact Bv (.fT 176128 [(0,[3])] [(1002,3),(11010,3)] (k:=.done _)) [] []
theorem Gx (a0:Marker) (u:Int) (w:Int) (y:Int) (q:List Int) (g:List Core) (r:Core × Bool × Marker) (h:Bz a0 u w y q g=some r):B2 prog f110 [1,1,1,1,1,1] (.tup [.agg (Core.avs r.1),.bool r.2.1]) [] [(1,[.ro (a0.b.defs.map Core.ds),.ro (a0.marks.map AD),.int .i64 r.2.2.att])] ⟨[(4,.box 1000002500 0),(7,.box 1000002501 0)],[],[(1,some [.ro (a0.b.defs.map Core.ds),.ro (a0.marks.map AD),.int .i64 u]),(1000002500,some [.int .i64 0,.int .i64 0,.nils,.nils]),(1000002501,some [.int .i64 w,.int .i64 y,.ro (q.map AD),.ro (g.map Core.ds)])]⟩:=by
 unfold Bz at h
 refine Ae rfl rfl (Z ?_)
 refine AY [false,false,false,true,true] (Tr.sq [3,4] .fin) (by kernel_rfl) (Z ?_)
 exact AF (k1 N3) h
theorem L5 (n:Nat):(∀p C r,BP n p C=some r→AG prog 110 [.box 1 0,.agg (Core.avs C)] [] [(1,(Marker.avs p))] (.tup [.agg (Core.avs r.1),.bool r.2.1]) [] [(1,[.ro (p.b.defs.map Core.ds),.ro (p.marks.map AD),.int .i64 r.2.2.att])])∧
    (∀p C u w y q g r,Av n p C u w y q g=some r→B2 prog f110 [1,1,1,1,0,1,0] (.tup [.agg (Core.avs r.1),.bool r.2.1]) [] [(1,[.ro (p.b.defs.map Core.ds),.ro (p.marks.map AD),.int .i64 r.2.2.att])] ⟨[(0,.box 1 0),(3,.box 1000001500 0),(4,.box 1000001501 0),(6,.bool u),(7,.box 1000001502 0),(37,.ro (C.kids.map Core.ds)),(38,.int .i64 (C.kids.length:Int)),(39,.int .i64 g)],[(1000001000,some ⟨List.map AD w,some 1,0,.no⟩),(1000001001,some ⟨List.map Core.dz q,some 4,0,.yes⟩)],[(1,some [.ro (p.b.defs.map Core.ds),.ro (p.marks.map AD),.int .i64 y]),(1000001500,some (Core.avs C)),(1000001501,some [.int .i64 0,.int .i64 0,.nils,.nils]),(1000001502,some [.int .i64 C.kind,.int .i64 C.value,.own 1000001000,.own 1000001001])]⟩):=by
 induction n with
 |zero=>exact⟨(fun _ _ _ h=>by rw [BP] at h; cases h),(fun _ _ _ _ _ _ _ _ h=>by rw [Av] at h; cases h)⟩
 | succ n ih=>
  obtain⟨I,G⟩:=ih
  refine⟨?_,?_⟩
  ·intro p C r h
   rw [BP] at h
   refine agF func110 mixed (h:=Z ?_)
   refine AL ?_
   refine AY [] .fin (by kernel_rfl) (Z ?_)
   replace h:=AB h; obtain⟨u,j,h⟩:=h
   refine AK (IW _ _ _ j) (Z ?_)
   refine AL ?_
   refine AY [false,false,false,false,false,false,false,false,false,true] (Tr.sq [9] .fin) (by kernel_rfl) (Z ?_)
   replace h:=AB h; obtain⟨w,k,h⟩:=h
   refine AK (D9 _ _ k) (Z ?_)
   refine AL ?_
   refine CL (Ds rfl rfl (G p C u w (IntKind.i64.wrap (p.att+1)) [] 0 _ h):) (.one ⟨_,.ce 4008 3 2000000000 (some 4) .yes (k:=.done _),[(1000001000,64096),(1000001001,2000000000)],[(1,1),(1000001500,1000),(1000001501,1001),(1000001502,4008)],?_⟩)
   simp only [go_sem]
   all_goals try rfl
  ·intro p C u w y q g r h
   rw [Av] at h
   refine Ae rfl rfl (Z ?_)
   refine A5 (Z ?_)
   refine AJ h (fun h=>Z ?_) (fun h=>Z ?_)
   ·refine AL ?_
    replace h:=AB h; obtain⟨d,c,h⟩:=h
    refine AS c (Core.ds_len _) (Z ?_)
    refine AL ?_
    replace h:=AB h; obtain⟨e,i,h⟩:=h
    refine caG ⟨[],[],[(1,1,0)],[],[],true⟩ (I _ _ _ i) (Z ?_)
    refine AL ?_
    refine AJ h (fun h=>Z ?_) (fun h=>Z ?_)
    ·cases h
     exact Bv (.fN [(0,[0,2]),(0,[0,3])] [] (k:=.done _)) [] [(1,1)]
    ·refine AL ?_
     replace h:=AB h; obtain⟨l,t,h⟩:=h
     have J:=Ad t
     obtain⟨F,v⟩:=J
     refine Bp .yes (Z ?_)
     refine CN (Z ?_)
     refine A4 (l.map Core.dz) (by rw [← v]; simp only [List.map_append,List.map_cons,List.map_nil,List.nil_append,List.append_nil,go_sem,Core.ds_eq,Core.dz_eq]) (Z ?_)
     exact AF (k1 G) h
   ·refine bf (.fT 1000001000 [] [(1000001502,2)] (k:=.fT 1000001001 [] [(1000001502,3)] (k:=.done _))) (Z ?_)
    all_goals try rfl
    refine AJ h (fun h=>Z ?_) (fun h=>Z ?_)
    ·refine AY [false,false,false,false,false,false,false,false,true] (Tr.sq [8] .fin) (by kernel_rfl) (Z ?_)
     replace h:=AB h; obtain⟨s,o,h⟩:=h
     refine AK (M4 _ _ o) (Z ?_)
     replace h:=AB h; obtain⟨z,O,h⟩:=h
     refine DR (V3 _ _ _ _ O) (by (first|rfl|(simp only [go_sem]; rfl))) (by first|rfl|(simp only [go_sem])) (Z ?_)
     exact AF (k1 Gx) h
    ·exact AF (k1 Gx) h
def M8 (n:Nat):=(L5 n).1
theorem VM (n:Nat):(∀p r,Fr n p=some r→AC prog 111 [.agg (Core.avs p)] (.agg (Core.rv r)))∧
    (∀p u w y r,DE n p u w y=some r→AR prog f111 [1,1,0,1,0] (.agg (Core.rv r)) ⟨[(2,.box 1000001500 0),(3,.box 1000001501 0),(15,.ro (p.kids.map Core.ds)),(16,.int .i64 (p.kids.length:Int)),(17,.int .i64 y)],[(1000001000,some ⟨List.map AD u,some 1,0,.no⟩),(1000001001,some ⟨List.map Core.ds w,some 4,0,.no⟩)],[(1000001500,some [.int .i64 0,.int .i64 0,.nils,.nils]),(1000001501,some [.int .i64 p.kind,.int .i64 p.value,.own 1000001000,.own 1000001001])]⟩):=by
 induction n with
 |zero=>exact⟨(fun _ _ h=>by rw [Fr] at h; cases h),(fun _ _ _ _ _ h=>by rw [DE] at h; cases h)⟩
 | succ n ih=>
  obtain⟨G,F⟩:=ih
  refine⟨?_,?_⟩
  ·intro p r h
   rw [Fr] at h
   refine acF func111 mixed (h:=Z ?_)
   refine AL ?_
   refine AY [false,false,false,false,false,false,false,false,false,true] (Tr.sq [9] .fin) (by kernel_rfl) (Z ?_)
   replace h:=AB h; obtain⟨u,q,h⟩:=h
   refine AK (D9 _ _ q) (Z ?_)
   refine AL ?_
   refine CL (CS rfl rfl (F p u [] 0 _ h):) (.one ⟨_,.ce 2008 3 2000000000 (some 4) .no (k:=.done _),[(1000001000,32096),(1000001001,2000000000)],[(1000001500,1001),(1000001501,2008)],?_⟩)
   simp only [go_sem]
   all_goals try rfl
  ·intro p u w y r h
   rw [DE] at h
   refine Am rfl rfl (Z ?_)
   refine A5 (Z ?_)
   refine AJ h (fun h=>Z ?_) (fun h=>Z ?_)
   ·refine AL ?_
    replace h:=AB h; obtain⟨g,j,h⟩:=h
    refine AS j (Core.ds_len _) (Z ?_)
    refine AL ?_
    refine AY [false,false,false,false,false,true,true,true] (Tr.sq [5,6,7] .fin) (by kernel_rfl) (Z ?_)
    replace h:=AB h; obtain⟨k,b,h⟩:=h
    refine AK (G _ _ b) (Z ?_)
    replace h:=AB h; obtain⟨d,c,h⟩:=h
    have I:=Ad c
    obtain⟨C,v⟩:=I
    refine Bp .no (Z ?_)
    refine CN (Z ?_)
    refine A4 (d.map Core.ds) (by rw [← v]; simp only [List.map_append,List.map_cons,List.map_nil,List.nil_append,List.append_nil,go_sem,Core.ds_eq]) (Z ?_)
    exact AF (k1 F) h
   ·exact AF trivial h
def V4 (n:Nat):=(VM n).1
theorem Ha (a0:Book) (a1:Core) (a2:List Int) (u:Bool) (r:Core × Int) (h:CB a0 a1 a2 u=some r):AR prog f51 [1,1,1,1,0,1] (.tup [.agg (Core.rv r.1),.int .i64 r.2]) ⟨[(2,.ro (a2.map AD)),(3,.box 1000000500 0),(4,.box 1000000501 0),(6,.box 1000000502 0),(26,.bool u)],[],[(1000000500,some [.ro (a0.defs.map Core.ds)]),(1000000501,some (Core.avs a1)),(1000000502,some [.int .i64 0,.int .i64 0,.nils,.nils])]⟩:=by
 unfold CB at h
 refine Am rfl rfl (Z ?_)
 refine AJ h (fun h=>Z ?_) (fun h=>Z ?_)
 ·exact AF trivial h
 ·refine AL ?_
  replace h:=AB h; obtain⟨w,y,h⟩:=h
  refine caG ⟨[],[],[(1,8003,0)],[],[],true⟩ (M8 fuel _ _ _ y) (Z ?_)
  refine AL ?_
  refine AJ h (fun h=>Z ?_) (fun h=>Z ?_)
  ·exact AF trivial h
  ·refine AL ?_
   replace h:=AB h; obtain⟨q,g,h⟩:=h
   refine AK (V4 fuel _ _ g) (Z ?_)
   exact AF trivial h
theorem Nd (a0 a1 a2 r) (h:Ec a0 a1 a2=some r):AC prog 51 [.agg (Book.avs a0),.agg (Core.avs a1),.ro (a2.map AD)] (.tup [.agg (Core.rv r.1),.int .i64 r.2]):=by
 unfold Ec at h
 refine acF func51 mixed (h:=Z ?_)
 refine AL ?_
 replace h:=AB h; obtain⟨u,w,h⟩:=h
 refine AK (Nb _ _ _ w) (Z ?_)
 refine AL ?_
 refine AJ h (fun h=>Z ?_) (fun h=>Z ?_)
 ·exact AF trivial h
 ·refine AL ?_
  refine AL ?_
  replace h:=AB h; obtain⟨y,g,h⟩:=h
  refine caG ⟨[(3000080016,.nils,some 1)],[(1001,3000080016)],[(1,4000,0)],[(1501,80016)],[],true⟩ (Nc fuel _ _ _ _ g) (Z ?_)
  refine AL ?_
  replace h:=AB h; obtain⟨j,k,h⟩:=h
  refine AK (QP _ _ k) (Z ?_)
  refine AJ h (fun h=>Z ?_) (fun h=>Z ?_)
  ·exact AF (k1 Ha) h
  ·replace h:=AB h; obtain⟨b,d,h⟩:=h
   refine AK (Bm _ _ 108 [.agg [],.rop [.ro (y.1.map AD)] 0] (Still.of (by simp only [BR,BC,Bool.and_true,Bool.true_and,Bool.and_self])) (fun v q p=>L3 v _ q p) _ d) (Z ?_)
   exact AF (k1 Ha) h
theorem Su (n:Nat):(∀j r,D3 n j=some r→AC prog 149 [.rop (Core.avs j) 0] (.bool r))∧
    (∀j u r,DY n j u=some r→AR prog f149 [1,0,1] (.bool r) ⟨[(0,.rop (Core.avs j) 0),(15,.bool u)],[],[]⟩)∧
    (∀j w r,Cd n j w=some r→AR prog f149 [1,1,0,1,0] (.bool r) ⟨[(0,.rop (Core.avs j) 0),(3,.int .i64 w)],[],[]⟩):=by
 induction n with
 |zero=>exact⟨(fun _ _ h=>by rw [D3] at h; cases h),(fun _ _ _ h=>by rw [DY] at h; cases h),(fun _ _ _ h=>by rw [Cd] at h; cases h)⟩
 | succ n ih=>
  obtain⟨v,q,p⟩:=ih
  refine⟨?_,?_,?_⟩
  ·intro j r h
   rw [D3] at h
   refine acF func149 mixed (h:=Z ?_)
   exact AF (k1 q) h
  ·intro j u r h
   rw [DY] at h
   exact AF (k1 p) h
  ·intro j w r h
   rw [Cd] at h
   exact AF (k2 v p) h
def M9 (n:Nat):=(Su n).1
theorem RZ (n:Nat):(∀j u r,DF n j u=some r→AR prog f98 [1,1,0,1,0] (.bool r) ⟨[(0,.rop [.ro (j.defs.map Core.ds)] 0),(5,.int .i64 u)],[],[]⟩):=by
 induction n with
 |zero=>exact((fun _ _ _ h=>by rw [DF] at h; cases h))
 | succ n ih=>
  have p:=ih
  ·intro j u r h
   rw [DF] at h
   refine Am rfl rfl (Z ?_)
   refine A5 (Z ?_)
   refine AJ h (fun h=>Z ?_) (fun h=>Z ?_)
   ·refine AL ?_
    replace h:=AB h; obtain⟨w,y,h⟩:=h
    refine AS y (Core.ds_len _) (Z ?_)
    replace h:=AB h; obtain⟨q,g,h⟩:=h
    refine AK (M9 fuel _ _ g) (Z ?_)
    exact AF (k1 p) h
   ·exact AF trivial h
theorem GE (a0:Book) (u:Bool) (r:Bool) (h:CT a0 u=some r):AR prog f98 [1,0,1] (.bool r) ⟨[(0,.rop [.ro (a0.defs.map Core.ds)] 0),(28,.bool u)],[],[]⟩:=by
 unfold CT at h
 exact AF (k1 RZ) h
theorem V5 (a0 a1 r) (h:JV a0 a1=some r):AC prog 98 [.rop (Book.avs a0) 0,.rop (Core.avs a1) 0] (.bool r):=by
 unfold JV at h
 refine acF func98 mixed (h:=Z ?_)
 replace h:=AB h; obtain⟨u,w,h⟩:=h
 refine AK (YM _ _ w) (Z ?_)
 refine AJ h (fun h=>Z ?_) (fun h=>Z ?_)
 ·exact AF (k1 GE) h
 ·replace h:=AB h; obtain⟨y,q,h⟩:=h
  refine AK (M3 _ _ q) (Z ?_)
  refine AJ h (fun h=>Z ?_) (fun h=>Z ?_)
  ·exact AF (k1 GE) h
  ·replace h:=AB h; obtain⟨g,j,h⟩:=h
   refine AK (M9 fuel _ _ j) (Z ?_)
   refine AJ h (fun h=>Z ?_) (fun h=>Z ?_)
   ·exact AF (k1 GE) h
   ·replace h:=AB h; obtain⟨k,b,h⟩:=h
    refine AK (QH fuel _ _ _ b) (Z ?_)
    exact AF (k1 GE) h
theorem Sv (a0:Core) (u:Bool) (r:Int) (h:G7 a0 u=some r):AR prog f151 [1,0,1,0,1,1,1,1,1,0,0,1] (.int .i64 r) ⟨[(0,.rop (Core.avs a0) 0),(73,.bool u)],[],[]⟩:=by
 unfold G7 at h
 exact AF trivial h
theorem QR (a0 r) (h:I0 a0=some r):AC prog 151 [.rop (Core.avs a0) 0] (.int .i64 r):=by
 unfold I0 at h
 refine acF func151 mixed (h:=Z ?_)
 exact AF (k1 Sv) h
theorem Ra (n:Nat):(∀v C U r,C3 n v C U=some r→AG prog 99 [.rop (Core.avs v) 0,.box 1 0,.own 1001] [(1001,⟨List.map AD U,some 1,0,.no⟩)] [(1,[.int .i64 C])] (.own 1501) [(1501,⟨List.map AD r.1,some 1,0,.no⟩)] [(1,[.int .i64 r.2])])∧
    (∀v C u r,Ct n v C u=some r→B2 prog f99 [1,1] (.own 1501) [(1501,⟨List.map AD r.1,some 1,0,.no⟩)] [(1,[.int .i64 r.2])] ⟨[(0,.rop (Core.avs v) 0),(1,.box 1 0),(2,.own 1000000000)],[(1000000000,some ⟨List.map AD u,some 1,0,.no⟩)],[(1,some [.int .i64 C])]⟩)∧
    (∀v w y q r,CF n v w y q=some r→B2 prog f99 [1,1,1,0,1,0] (.own 1501) [(1501,⟨List.map AD r.1,some 1,0,.no⟩)] [(1,[.int .i64 r.2])] ⟨[(0,.rop (Core.avs v) 0),(1,.box 1 0),(2,.own 1000002000),(7,.int .i64 q)],[(1000002000,some ⟨List.map AD y,some 1,0,.no⟩)],[(1,some [.int .i64 w])]⟩):=by
 induction n with
 |zero=>exact⟨(fun _ _ _ _ h=>by rw [C3] at h; cases h),(fun _ _ _ _ h=>by rw [Ct] at h; cases h),(fun _ _ _ _ _ h=>by rw [CF] at h; cases h)⟩
 | succ n ih=>
  obtain⟨J,G,I⟩:=ih
  refine⟨?_,?_,?_⟩
  ·intro v C U r h
   rw [C3] at h
   refine agF func99 mixed (h:=Z ?_)
   replace h:=AB h; obtain⟨g,j,h⟩:=h
   refine AK (QR _ _ j) (Z ?_)
   refine AL ?_
   refine AJ h (fun h=>Z ?_) (fun h=>Z ?_)
   ·replace h:=AB h; obtain⟨k,b,h⟩:=h
    have O:=Ad b
    obtain⟨F,p⟩:=O
    refine Bp .no (Z ?_)
    refine CN (Z ?_)
    refine Hf AD p (Z ?_)
    exact AF (k1 G) h
   ·exact AF (k1 G) h
  ·intro v C u r h
   rw [Ct] at h
   exact AF (k1 I) h
  ·intro v w y q r h
   rw [CF] at h
   refine Ae rfl rfl (Z ?_)
   refine A5 (Z ?_)
   refine AJ h (fun h=>Z ?_) (fun h=>Z ?_)
   ·refine AL ?_
    replace h:=AB h; obtain⟨d,c,h⟩:=h
    refine AS c (Core.ds_len _) (Z ?_)
    replace h:=AB h; obtain⟨e,i,h⟩:=h
    refine caG ⟨[],[(1001,1000002000)],[(1,1,0)],[(1501,128128)],[],true⟩ (J _ _ _ _ i) (Z ?_)
    exact AF (k1 I) h
   ·exact AF trivial h
def Sw (n:Nat):=(Ra n).1
theorem VN (n:Nat):(∀j p u r,Eo n j p u=some r→AR prog f100 [1,0,1,0] (.bool r) ⟨[(0,.ro (j.map AD)),(1,.int .i64 p),(5,.int .i64 u)],[],[]⟩):=by
 induction n with
 |zero=>exact((fun _ _ _ _ h=>by rw [Eo] at h; cases h))
 | succ n ih=>
  have q:=ih
  ·intro j p u r h
   rw [Eo] at h
   exact AF (k1 q) h
theorem Sd (a0 a1 r) (h:Kk a0 a1=some r):AC prog 100 [.ro (a0.map AD),.int .i64 a1] (.bool r):=by
 unfold Kk at h
 refine acF func100 mixed (h:=Z ?_)
 exact AF (k1 VN) h
theorem Gy (a0 r) (h:G8 a0=some r):AC prog 177 [.int .i64 a0] (.int .i64 r):=by
 unfold G8 at h
 refine acF func177 mixed (h:=Z ?_)
 exact AF trivial h
theorem YP (a0 r) (h:Kl a0=some r):AC prog 178 [.bool a0] (.int .i64 r):=by
 unfold Kl at h
 refine acF func178 mixed (h:=Z ?_)
 exact AF trivial h
theorem YQ (a0 a1 a2 r) (h:I1 a0 a1 a2=some r):AC prog 125 [.int .i64 a0,.int .i64 a1,.int .i64 a2] (.int .i64 r):=by
 unfold I1 at h
 refine acF func125 mixed (h:=Z ?_)
 replace h:=AB h; obtain⟨u,w,h⟩:=h
 refine AK (Gy _ _ w) (Z ?_)
 refine AL ?_
 replace h:=AB h; obtain⟨y,q,h⟩:=h
 refine AK (Gy _ _ q) (Z ?_)
 refine AL ?_
 refine AJ h (fun h=>Z ?_) (fun h=>Z ?_)
 ·exact AF (k1 Gy) h
 ·refine AJ h (fun h=>Z ?_) (fun h=>Z ?_)
  ·exact AF (k1 Gy) h
  ·refine AJ h (fun h=>Z ?_) (fun h=>Z ?_)
   ·exact AF (k1 Gy) h
   ·refine AJ h (fun h=>Z ?_) (fun h=>Z ?_)
    ·refine AJ h (fun h=>Z ?_) (fun h=>Z ?_)
     ·exact AF trivial h
     ·refine AL ?_
      replace h:=AB h; obtain⟨e,i,h⟩:=h
      refine Bu (di i) (Z ?_)
      exact AF (k1 Gy) h
    ·exact AF (k1 YP) h
theorem Rb (a0 r) (h:RB a0=some r):AG prog 202 [.int .i64 a0] [] [] (.agg (Core.avs r)) [] [] :=by
 unfold RB at h
 refine agF func202 mixed (h:=Z ?_)
 refine AL ?_
 cases h
 exact Bv (.fN [(0,[2]),(0,[3])] [] (k:=.done _)) [] []
theorem gh (a0 a1 a2 r) (h:Xt a0 a1 a2=some r):AG prog 237 [.int .i64 a0,.int .i64 a1,.ro (a2.map Core.ds)] [] [] (.agg (Core.avs r)) [] [] :=by
 unfold Xt at h
 refine agF func237 mixed (h:=Z ?_)
 refine AL ?_
 cases h
 exact Bv (.fN [(0,[2])] [] (k:=.done _)) [] []
theorem gi (a0 a1 r) (h:Xu a0 a1=some r):AG prog 203 [.agg (Core.avs a0),.agg (Core.avs a1)] [] [] (.agg (Core.avs r)) [] [] :=by
 unfold Xu at h
 refine agF func203 mixed (h:=Z ?_)
 refine AL ?_
 replace h:=AB h; obtain⟨u,w,h⟩:=h
 refine oc [2002] ⟨[],[],[],[],[],true⟩ (by kernel_rfl) (gh _ _ _ _ w) (by kernel_rfl) (Z ?_)
 exact AF trivial h
theorem QS (n:Nat):(∀p u w y q g r,B6 n p u w y q g=some r→B2 prog f154 [1,1,1,0,1,0] (.agg (Core.avs r)) [] [] ⟨[(1,.ro (p.map Core.ds)),(4,.box 1000001500 0),(5,.box 1000001501 0),(6,.int .i64 g)],[],[(1000001500,some [.int .i64 0,.int .i64 0,.nils,.nils]),(1000001501,some [.int .i64 u,.int .i64 w,.ro (y.map AD),.ro (q.map Core.ds)])]⟩):=by
 induction n with
 |zero=>exact((fun _ _ _ _ _ _ _ h=>by rw [B6] at h; cases h))
 | succ n ih=>
  have v:=ih
  ·intro p u w y q g r h
   rw [B6] at h
   refine Ae rfl rfl (Z ?_)
   refine A5 (Z ?_)
   refine AJ h (fun h=>Z ?_) (fun h=>Z ?_)
   ·refine AL ?_
    refine AY [false,false,false,false,false,false,true] (Tr.sq [6] .fin) (by kernel_rfl) (Z ?_)
    replace h:=AB h; obtain⟨j,k,h⟩:=h
    refine AS k (Core.ds_len _) (Z ?_)
    replace h:=AB h; obtain⟨b,d,h⟩:=h
    refine DR (gi _ _ _ d) (by (first|rfl|(simp only [go_sem]; rfl))) (by first|rfl|(simp only [go_sem])) (Z ?_)
    exact AF (k1 v) h
   ·exact AF trivial h
theorem VO (a0 a1 r) (h:Gr a0 a1=some r):AG prog 154 [.rop (Core.avs a0) 0,.ro (a1.map Core.ds)] [] [] (.agg (Core.avs r)) [] [] :=by
 unfold Gr at h
 refine agF func154 mixed (h:=Z ?_)
 refine AL ?_
 refine AJ h (fun h=>Z ?_) (fun h=>Z ?_)
 ·replace h:=AB h; obtain⟨u,w,h⟩:=h
  refine AS w (Core.ds_len _) (Z ?_)
  refine AJ h (fun h=>Z ?_) (fun h=>Z ?_)
  ·replace h:=AB h; obtain⟨y,q,h⟩:=h
   refine AS q rfl (Z ?_)
   replace h:=AB h; obtain⟨g,j,h⟩:=h
   refine DR (Rb _ _ j) (by (first|rfl|(simp only [go_sem]; rfl))) (by first|rfl|(simp only [go_sem])) (Z ?_)
   exact AF trivial h
  ·refine AL ?_
   replace h:=AB h; obtain⟨k,b,h⟩:=h
   refine AS b rfl (Z ?_)
   replace h:=AB h; obtain⟨d,c,h⟩:=h
   refine DR (Rb _ _ c) (by (first|rfl|(simp only [go_sem]; rfl))) (by first|rfl|(simp only [go_sem])) (Z ?_)
   exact AF trivial h
 ·refine AL ?_
  refine AY [false,false,false,false,false,false,false,false,false,false,false,false,false,false,false,true] (Tr.sq [15] .fin) (by kernel_rfl) (Z ?_)
  replace h:=AB h; obtain⟨e,i,h⟩:=h
  refine AS i (Core.ds_len _) (Z ?_)
  replace h:=AB h; obtain⟨l,t,h⟩:=h
  refine AS t rfl (Z ?_)
  replace h:=AB h; obtain⟨s,o,h⟩:=h
  refine DR (Rb _ _ o) (by (first|rfl|(simp only [go_sem]; rfl))) (by first|rfl|(simp only [go_sem])) (Z ?_)
  exact AF (k1 QS) h
theorem QT (a0:Book) (a1:Core) (u:List Core) (w:Int) (r:Core) (h:Ed a0 a1 u w=some r):B2 prog f155 [1,1,1,1] (.agg (Core.avs r)) [] [] ⟨[(0,.rop [.ro (a0.defs.map Core.ds)] 0),(1,.rop (Core.avs a1) 0),(6,.box 1000000500 0),(7,.box 1000000501 0),(8,.int .i64 w)],[(1000000000,some ⟨List.map Core.dz u,some 4,0,.yes⟩)],[(1000000500,some [.int .i64 0,.int .i64 0,.nils,.nils]),(1000000501,some [.int .i64 a1.kind,.int .i64 a1.value,.ro (a1.data.map AD),.own 1000000000])]⟩:=by
 unfold Ed at h
 refine Ae rfl rfl (Z ?_)
 refine AY [false,false,false,false,false,false,false,false,false,false,false,false,false,false,false,false,false,false,true] (Tr.sq [18] .fin) (by kernel_rfl) (Z ?_)
 replace h:=AB h; obtain⟨y,q,h⟩:=h
 refine AS q (Core.ds_len _) (Z ?_)
 replace h:=AB h; obtain⟨g,j,h⟩:=h
 refine AS j (Core.ds_len _) (Z ?_)
 replace h:=AB h; obtain⟨k,b,h⟩:=h
 refine AS b (Core.dz_len _) (Z ?_)
 replace h:=AB h; obtain⟨d,c,h⟩:=h
 refine CM (Bq b) (Z ?_)
 refine A4 (d.map Core.dz) (by rw [← BE c]; simp only [List.map_set,go_sem,Core.ds_eq,Core.dz_eq]) (Z ?_)
 refine AL ?_
 cases h
 exact Bv (.fT 1000000000 [(0,[3])] [(1000000500,3),(1000000501,3)] (k:=.done _)) [] []
theorem VP (a0 a1 a2 r) (h:Gs a0 a1 a2=some r):AG prog 155 [.rop [.ro (a0.defs.map Core.ds)] 0,.rop (Core.avs a1) 0,.ro (a2.map Core.ds)] [] [] (.agg (Core.avs r)) [] [] :=by
 unfold Gs at h
 refine agF func155 mixed (h:=Z ?_)
 refine AL ?_
 refine AY [false,false,false,false,false,false,false,false,false,false,false,false,false,false,false,false,false,true] (Tr.sq [17] .fin) (by kernel_rfl) (Z ?_)
 replace h:=AB h; obtain⟨u,w,h⟩:=h
 have q:=Ad w
 obtain⟨p,j⟩:=q
 refine Bu (by rfl) (Z ?_)
 refine Bp .yes (Z ?_)
 refine Bu (LQ (by intro x; exact⟨(Core.ds_len _),Core.dz_ng x⟩) _) (Z ?_)
 refine A4 (a2.map Core.dz) (TY Core.dz_fz _) (Z ?_)
 refine CN (Z ?_)
 refine A4 (u.map Core.dz) (by rw [← j]; simp only [List.nil_append]) (Z ?_)
 exact AF (k1 QT) h
theorem Nf (u:Int) (w:Int) (y:Int) (q:List Int) (g:List Core) (j:Int) (r:Core × Int × Int) (h:DK u w y q g j=some r):B2 prog f101 [1,1,1,1,1,1,1,1,1,1] (.tup [.agg (Core.avs r.1),.int .i64 r.2.1]) [] [(1,[.int .i64 r.2.2])] ⟨[(8,.box 1000005500 0),(15,.box 1000005501 0),(16,.int .i64 j)],[],[(1,some [.int .i64 u]),(1000005500,some [.int .i64 0,.int .i64 0,.nils,.nils]),(1000005501,some [.int .i64 w,.int .i64 y,.ro (q.map AD),.ro (g.map Core.ds)])]⟩:=by
 unfold DK at h
 exact AF trivial h
theorem Ng (u:Int) (w:Int) (y:Int) (q:List Int) (g:List Core) (j:Int) (k:Bool) (r:Core × Int × Int) (h:DL u w y q g j k=some r):B2 prog f101 [1,1,1,1,1,1,1,1,1,0,1] (.tup [.agg (Core.avs r.1),.int .i64 r.2.1]) [] [(1,[.int .i64 r.2.2])] ⟨[(8,.box 1000004500 0),(15,.box 1000004501 0),(16,.int .i64 j),(129,.bool k)],[],[(1,some [.int .i64 u]),(1000004500,some [.int .i64 0,.int .i64 0,.nils,.nils]),(1000004501,some [.int .i64 w,.int .i64 y,.ro (q.map AD),.ro (g.map Core.ds)])]⟩:=by
 unfold DL at h
 exact AF (k1 Nf) h
theorem C0 (u:Int) (w:Int) (y:Int) (q:List Int) (g:List Core) (j:Int) (r:Core × Int × Int) (h:AT u w y q g j=some r):B2 prog f101 [1,1,1,1,1,1,1,1,1] (.tup [.agg (Core.avs r.1),.int .i64 r.2.1]) [] [(1,[.int .i64 r.2.2])] ⟨[(8,.box 1000003500 0),(15,.box 1000003501 0),(16,.int .i64 j)],[],[(1,some [.int .i64 u]),(1000003500,some [.int .i64 0,.int .i64 0,.nils,.nils]),(1000003501,some [.int .i64 w,.int .i64 y,.ro (q.map AD),.ro (g.map Core.ds)])]⟩:=by
 unfold AT at h
 exact AF (k2 YR Ng) h
theorem QU (n:Nat):(∀v C F p r,Bj n v C F p=some r→AG prog 101 [.rop [.ro (v.defs.map Core.ds)] 0,.rop (Core.avs C) 0,.box 1 0,.ro (p.map AD)] [] [(1,[.int .i64 F])] (.tup [.agg (Core.avs r.1),.int .i64 r.2.1]) [] [(1,[.int .i64 r.2.2])])∧
    (∀v C F p u r,DM n v C F p u=some r→B2 prog f101 [1,1,1] (.tup [.agg (Core.avs r.1),.int .i64 r.2.1]) [] [(1,[.int .i64 r.2.2])] ⟨[(0,.rop [.ro (v.defs.map Core.ds)] 0),(1,.rop (Core.avs C) 0),(2,.box 1 0),(3,.ro (p.map AD)),(8,.box 1000000500 0),(10,.int .i64 u)],[],[(1,some [.int .i64 F]),(1000000500,some [.int .i64 0,.int .i64 0,.nils,.nils])]⟩)∧
    (∀v C p u w y q r,B0 n v C p u w y q=some r→B2 prog f101 [1,1,1,1,1,0,1,0] (.tup [.agg (Core.avs r.1),.int .i64 r.2.1]) [] [(1,[.int .i64 r.2.2])] ⟨[(0,.rop [.ro (v.defs.map Core.ds)] 0),(1,.rop (Core.avs C) 0),(2,.box 1 0),(3,.ro (p.map AD)),(8,.box 1000002500 0),(10,.int .i64 u),(11,.own 1000002000),(12,.int .i64 q)],[(1000002000,some ⟨List.map Core.dz y,some 4,0,.yes⟩)],[(1,some [.int .i64 w]),(1000002500,some [.int .i64 0,.int .i64 0,.nils,.nils])]⟩):=by
 induction n with
 |zero=>exact⟨(fun _ _ _ _ _ h=>by rw [Bj] at h; cases h),(fun _ _ _ _ _ _ h=>by rw [DM] at h; cases h),(fun _ _ _ _ _ _ _ _ h=>by rw [B0] at h; cases h)⟩
 | succ n ih=>
  obtain⟨W,ih1,J⟩:=ih
  refine⟨?_,?_,?_⟩
  ·intro v C F p r h
   rw [Bj] at h
   refine agF func101 mixed (h:=Z ?_)
   exact AF (k3 Sd QR ih1) h
  ·intro v C F p u r h
   rw [DM] at h
   refine Ae rfl rfl (Z ?_)
   refine AL ?_
   refine CL (Ds rfl rfl (J v C p u (IntKind.i64.wrap (F+1)) [] 0 _ h):) (.one ⟨_,.lt 11 2000000000 6000 0 4 .yes [] (k:=.done _),[(1000002000,2000000000)],[(1,1),(1000002500,1000000500)],?_⟩)
   simp only [go_sem]
   all_goals try rfl
  ·intro v C p u w y q r h
   rw [B0] at h
   refine Ae rfl rfl (Z ?_)
   refine A5 (Z ?_)
   refine AJ h (fun h=>Z ?_) (fun h=>Z ?_)
   ·refine AL ?_
    replace h:=AB h; obtain⟨d,c,h⟩:=h
    refine AS c (Core.ds_len _) (Z ?_)
    replace h:=AB h; obtain⟨e,i,h⟩:=h
    refine caG ⟨[],[],[(1,1,0)],[],[],true⟩ (W _ _ _ _ _ i) (Z ?_)
    refine AL ?_
    refine AJ h (fun h=>Z ?_) (fun h=>Z ?_)
    ·cases h
     exact Bv (.fN [(0,[0,2]),(0,[0,3])] [] (k:=.done _)) [] [(1,1)]
    ·refine AL ?_
     replace h:=AB h; obtain⟨l,t,h⟩:=h
     have Y:=Ad t
     obtain⟨G,j⟩:=Y
     refine Bp .yes (Z ?_)
     refine CN (Z ?_)
     refine A4 (l.map Core.dz) (by rw [← j]; simp only [List.map_append,List.map_cons,List.map_nil,List.nil_append,List.append_nil,go_sem,Core.ds_eq,Core.dz_eq]) (Z ?_)
     exact AF (k1 J) h
   ·refine AL ?_
    refine AY [false,false,false,false,false,false,false,false,false,false,false,false,false,false,false,true] (Tr.sq [15] .fin) (by kernel_rfl) (Z ?_)
    refine bf (.fT 1000002000 [(11,[])] [(14014,3)] (k:=.done _)) (Z ?_)
    all_goals try rfl
    refine AJ h (fun h=>Z ?_) (fun h=>Z ?_)
    ·refine AY [false,false,false,false,false,false,false,false,false,false,false,true,true] (Tr.sq [11,12] .fin) (by kernel_rfl) (Z ?_)
     replace h:=AB h; obtain⟨s,o,h⟩:=h
     refine AS o (Core.ds_len _) (Z ?_)
     replace h:=AB h; obtain⟨z,u1,h⟩:=h
     refine AS u1 (Core.ds_len _) (Z ?_)
     replace h:=AB h; obtain⟨u2,u3,h⟩:=h
     refine AS u3 (Core.ds_len _) (Z ?_)
     replace h:=AB h; obtain⟨I,u5,h⟩:=h
     refine AK (Rc _ _ _ u5) (Z ?_)
     refine KD (Ds rfl rfl (C0 w I.1.kind I.1.value I.1.data I.1.kids I.2 _ h):) (.one ⟨_,.fT 288112 [(85,[0,2]),(77,[0,2]),(86,[2])] [(14014,2)] (k:=.fT 288113 [(85,[0,3]),(77,[0,3]),(86,[3])] [(14014,3)] (k:=.done _)),[],[(1,1),(1000003500,1000002500),(1000003501,14014)],?_⟩)
     simp only [go_sem]
     all_goals try rfl
    ·refine AJ h (fun h=>Z ?_) (fun h=>Z ?_)
     ·refine AY [false,false,false,false,false,false,false,false,false,false,false,false,false,false,false,false,false,false,false,false,true] (Tr.sq [20] .fin) (by kernel_rfl) (Z ?_)
      replace h:=AB h; obtain⟨u6,u7,h⟩:=h
      refine AS u7 (Core.ds_len _) (Z ?_)
      replace h:=AB h; obtain⟨u8,u9,h⟩:=h
      refine AS u9 (Core.ds_len _) (Z ?_)
      replace h:=AB h; obtain⟨u10,u11,h⟩:=h
      refine AK (YQ _ _ _ _ u11) (Z ?_)
      replace h:=AB h; obtain⟨O,u13,h⟩:=h
      refine DR (XO _ _ u13) (by (first|rfl|(simp only [go_sem]; rfl))) (by first|rfl|(simp only [go_sem])) (Z ?_)
      refine KD (Ds rfl rfl (C0 w O.kind O.value [] [] 0 _ h):) (.one ⟨_,.fN [] [(14014,2),(14014,3)] (k:=.done _),[],[(1,1),(1000003500,1000002500),(1000003501,14014)],?_⟩)
      simp only [go_sem]
      all_goals try rfl
     ·refine AJ h (fun h=>Z ?_) (fun h=>Z ?_)
      ·replace h:=AB h; obtain⟨u14,u15,h⟩:=h
       refine AS u15 (Core.ds_len _) (Z ?_)
       replace h:=AB h; obtain⟨u16,U,h⟩:=h
       refine DR (VO _ _ _ U) (by (first|rfl|(simp only [go_sem]; rfl))) (by first|rfl|(simp only [go_sem])) (Z ?_)
       exact AF (k1 C0) h
      ·refine AJ h (fun h=>Z ?_) (fun h=>Z ?_)
       ·replace h:=AB h; obtain⟨u18,u19,h⟩:=h
        refine DR (VP _ _ _ _ u19) (by (first|rfl|(simp only [go_sem]; rfl))) (by first|rfl|(simp only [go_sem])) (Z ?_)
        exact AF (k1 C0) h
       ·exact AF (k1 C0) h
def Rd (n:Nat):=(QU n).1
theorem ae (a0 r) (h:Kn a0=some r):AC prog 102 [.rop (Core.avs a0) 0] (.agg (Core.rv r)):=by
 unfold Kn at h
 refine acF func102 mixed (h:=Z ?_)
 refine AL ?_
 replace h:=AB h; obtain⟨u,w,h⟩:=h
 refine AK (N6 fuel _ _ _ _ w) (Z ?_)
 exact AF trivial h
theorem Oj (n:Nat):(∀p j q u w r,BU n p j q u w=some r→AR prog f48 [1,1,1,1,0,1,0] (.tup [.agg (Core.rv r.1),.int .i64 r.2]) ⟨[(0,.rop [.ro (p.defs.map Core.ds)] 0),(1,.rop (Core.avs j) 0),(2,.ro (q.map AD)),(6,.box 1000002500 0),(8,.box 1000002501 0),(9,.own 1000002000),(10,.int .i64 w)],[(1000002000,some ⟨List.map AD u.1,some 1,0,.no⟩)],[(1000002500,some [.int .i64 0,.int .i64 0,.nils,.nils]),(1000002501,some [.int .i64 u.2])]⟩)∧
    (∀p j q w u y r,BV n p j q w u y=some r→AR prog f48 [1,1,1,1,0,1,0,0,1,0,0,1] (.tup [.agg (Core.rv r.1),.int .i64 r.2]) ⟨[(0,.rop [.ro (p.defs.map Core.ds)] 0),(1,.rop (Core.avs j) 0),(2,.ro (q.map AD)),(6,.box 1000003500 0),(8,.box 1000003501 0),(9,.own 1000003000),(10,.int .i64 w),(48,.bool y)],[(1000003000,some ⟨List.map AD u.1,some 1,0,.no⟩)],[(1000003500,some [.int .i64 0,.int .i64 0,.nils,.nils]),(1000003501,some [.int .i64 u.2])]⟩):=by
 induction n with
 |zero=>exact⟨(fun _ _ _ _ _ _ h=>by rw [BU] at h; cases h),(fun _ _ _ _ _ _ _ h=>by rw [BV] at h; cases h)⟩
 | succ n ih=>
  obtain⟨v,C⟩:=ih
  refine⟨?_,?_⟩
  ·intro p j q u w r h
   rw [BU] at h
   refine Am rfl rfl (Z ?_)
   refine A5 (Z ?_)
   refine AJ h (fun h=>Z ?_) (fun h=>Z ?_)
   ·exact AF (k2 C Sd) h
   ·refine AL ?_
    replace h:=AB h; obtain⟨i,l,h⟩:=h
    refine caG ⟨[],[],[(1,1000002501,0)],[],[],true⟩ (Rd fuel _ _ _ _ _ l) (Z ?_)
    exact AF (k1 ae) h
  ·intro p j q w u y r h
   rw [BV] at h
   exact AF (k1 v) h
def QV (n:Nat):=(Oj n).1
theorem VQ (a0 a1 a2 r) (h:IL a0 a1 a2=some r):AC prog 48 [.rop (Book.avs a0) 0,.rop (Core.avs a1) 0,.ro (a2.map AD)] (.tup [.agg (Core.rv r.1),.int .i64 r.2]):=by
 unfold IL at h
 refine acF func48 mixed (h:=Z ?_)
 refine AL ?_
 replace h:=AB h; obtain⟨u,w,h⟩:=h
 refine AK (V5 _ _ _ w) (Z ?_)
 refine AL ?_
 refine AJ h (fun h=>Z ?_) (fun h=>Z ?_)
 ·exact AF trivial h
 ·refine AL ?_
  refine AL ?_
  replace h:=AB h; obtain⟨y,q,h⟩:=h
  refine caG ⟨[(3000080016,.nils,some 1)],[(1001,3000080016)],[(1,4000,0)],[(1501,80016)],[],true⟩ (Sw fuel _ _ _ _ q) (Z ?_)
  exact AF (k1 QV) h
end Go.Proofs.YtjnifengdhcojaaGreatDoor.Ab
