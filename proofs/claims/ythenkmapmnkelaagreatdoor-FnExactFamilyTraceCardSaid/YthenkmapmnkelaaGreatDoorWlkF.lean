/- The functions do what their models say. -/
import Derived.Test.YthenkmapmnkelaaGreatDoorModF
import Derived.Test.YthenkmapmnkelaaGreatDoorWlkI
namespace Go.Proofs.YthenkmapmnkelaaGreatDoor.Ab
set_option linter.defProp false
set_option linter.unusedVariables false
set_option linter.unusedSimpArgs false
set_option maxRecDepth 20000
set_option maxHeartbeats 4000000
open Go.RowKit _root_.Go.Proofs.Tryz
@[go_sem] def tkF3 (b:Nat) (x0:List Int) (x1:List Core) (x2:List Int) (x3:List Int):List (Nat×Option Tok):=[(b,some ⟨List.map AD x0,some 1,0,.no⟩),(b+1,some ⟨List.map Core.ds x1,some 4,0,.no⟩),(b+2,some ⟨List.map AD x2,some 1,0,.no⟩),(b+3,some ⟨List.map AD x3,some 1,0,.no⟩)]
theorem QD (n:Nat):(∀v u w r,CD n v u w=some r→Aa prog f21 [1,1,0,1,0] (.ow (some 2) (r.map Pair.ds)) ⟨[(0,.rop [.ro (v.agents.map Agent.ds)] 0),(3,.own 1000002000),(4,.int .i64 w)],[(1000002000,some ⟨List.map Pair.ds u,some 2,0,.no⟩)],[]⟩)∧
    (∀v u w y q r,Fl n v u w y q=some r→Aa prog f21 [1,1,0,1,0,0,1,0,0,1,1,1] (.ow (some 2) (r.map Pair.ds)) ⟨[(0,.rop [.ro (v.agents.map Agent.ds)] 0),(3,.own 1000003000),(4,.int .i64 w),(5,.box 1000003500 0),(43,.bool q)],[(1000003000,some ⟨List.map Pair.ds u,some 2,0,.no⟩)],[(1000003500,some [.int .i64 y.agent,.int .i64 y.slot])]⟩):=by
 induction n with
 |zero=>exact⟨(fun _ _ _ _ h=>by rw [CD] at h; cases h),(fun _ _ _ _ _ _ h=>by rw [Fl] at h; cases h)⟩
 | succ n ih=>
  obtain⟨p,F⟩:=ih
  refine⟨?_,?_⟩
  ·intro v u w r h
   rw [CD] at h
   exact AF (k2 p F) h
  ·intro v u w y q r h
   rw [Fl] at h
   refine BL rfl rfl (Z ?_)
   refine AI h (fun h=>Z ?_) (fun h=>Z ?_)
   ·replace h:=AB h; obtain⟨c,e,h⟩:=h
    have G:=AT e
    obtain⟨C,j⟩:=G
    refine BO .no (Z ?_)
    refine By (Z ?_)
    refine Ar (c.map Pair.ds) (by rw [← j]; simp only [List.map_append,List.map_cons,List.map_nil,List.nil_append,List.append_nil,go_sem,Pair.ds_eq]) (Z ?_)
    exact AF (k1 p) h
   ·exact AF (k1 p) h
def RC (n:Nat):=(QD n).1
theorem VB (a0 r) (h:JQ a0=some r):AC prog 21 [.rop (Net.avs a0) 0] (.ow (some 2) (r.map Pair.ds)):=by
 unfold JQ at h
 refine acF func21 mixed (h:=Z ?_)
 refine AK ?_
 refine CH (DZ rfl rfl (RC fuel a0 [] 1 _ h):) (.one ⟨_,.lt 3 2000000000 2000 0 2 .no [] (k:=.done _),[(1000002000,2000000000)],[],?_⟩)
 simp only [go_sem]
 all_goals try rfl
theorem QE (n:Nat):(∀p u w y r,CS n p u w y=some r→Aa prog f22 [1,1,1,1,0,1,0] (.tup [.ow (some 1) (r.1.map AD),.agg (Core.rv r.2.1),.int .i64 r.2.2]) ⟨[(1,.int .i64 p),(5,.box 1000002500 0),(7,.box 1000002501 0),(8,.box 1000002502 0),(9,.own 1000002005),(10,.int .i64 y)],[(1000002000,some ⟨List.map AD u.1.data,some 1,0,.no⟩),(1000002001,some ⟨List.map Core.ds u.1.kids,some 4,0,.no⟩),(1000002002,some ⟨List.map AD u.2.entered,some 1,0,.no⟩),(1000002003,some ⟨List.map AD u.2.origins,some 1,0,.no⟩),(1000002004,some ⟨List.map Be u.2.labels,some 1,0,.no⟩),(1000002005,some ⟨List.map AD w,some 1,0,.no⟩)],[(1000002500,some [.int .i64 0,.int .i64 0,.nils,.nils]),(1000002501,some [.int .i64 u.1.kind,.int .i64 u.1.value,.own 1000002000,.own 1000002001]),(1000002502,some [.rop [.ro (u.2.n.agents.map Agent.ds)] 0,.int .i64 u.2.steps,.int .i64 u.2.nodes,.own 1000002002,.own 1000002003,.own 1000002004,.int .i64 u.2.code])]⟩)∧
    (∀p w y u q r,Ec n p w y u q=some r→Aa prog f22 [1,1,1,1,0,1,0,0,1,0,0,1] (.tup [.ow (some 1) (r.1.map AD),.agg (Core.rv r.2.1),.int .i64 r.2.2]) ⟨[(1,.int .i64 p),(5,.box 1000003500 0),(7,.box 1000003501 0),(8,.box 1000003502 0),(9,.own 1000003005),(10,.int .i64 y),(49,.bool q)],[(1000003000,some ⟨List.map AD u.1.data,some 1,0,.no⟩),(1000003001,some ⟨List.map Core.ds u.1.kids,some 4,0,.no⟩),(1000003002,some ⟨List.map AD u.2.entered,some 1,0,.no⟩),(1000003003,some ⟨List.map AD u.2.origins,some 1,0,.no⟩),(1000003004,some ⟨List.map Be u.2.labels,some 1,0,.no⟩),(1000003005,some ⟨List.map AD w,some 1,0,.no⟩)],[(1000003500,some [.int .i64 0,.int .i64 0,.nils,.nils]),(1000003501,some [.int .i64 u.1.kind,.int .i64 u.1.value,.own 1000003000,.own 1000003001]),(1000003502,some [.rop [.ro (u.2.n.agents.map Agent.ds)] 0,.int .i64 u.2.steps,.int .i64 u.2.nodes,.own 1000003002,.own 1000003003,.own 1000003004,.int .i64 u.2.code])]⟩):=by
 induction n with
 |zero=>exact⟨(fun _ _ _ _ _ h=>by rw [CS] at h; cases h),(fun _ _ _ _ _ _ h=>by rw [Ec] at h; cases h)⟩
 | succ n ih=>
  obtain⟨C,F⟩:=ih
  refine⟨?_,?_⟩
  ·intro p u w y r h
   rw [CS] at h
   refine BL rfl rfl (Z ?_)
   refine Ai (Z ?_)
   refine AI h (fun h=>Z ?_) (fun h=>Z ?_)
   ·exact AF (k1 F) h
   ·refine AK ?_
    refine AW [false,false,false,true,true] (Tr.sq [3,4] .fin) (by kernel_rfl) (Z ?_)
    exact AF trivial h
  ·intro p w y u q r h
   rw [Ec] at h
   refine BL rfl rfl (Z ?_)
   refine AI h (fun h=>Z ?_) (fun h=>Z ?_)
   ·replace h:=AB h; obtain⟨k,b,h⟩:=h
    have G:=AT b
    obtain⟨v,j⟩:=G
    refine BO .no (Z ?_)
    refine By (Z ?_)
    refine F0 AD j (Z ?_)
    exact AF (k1 C) h
   ·exact AF (k1 C) h
def RD (n:Nat):=(QE n).1
theorem VC (a0 a1 r) (h:JR a0 a1=some r):AC prog 22 [.rop (Net.avs a0) 0,.int .i64 a1] (.tup [.ow (some 1) (r.1.map AD),.agg (Core.rv r.2.1),.int .i64 r.2.2]):=by
 unfold JR at h
 refine acF func22 mixed (h:=Z ?_)
 refine AK ?_
 replace h:=AB h; obtain⟨u,w,h⟩:=h
 refine caG ⟨[],[],[],((1501,32016)::(1502,32017)::r3 1503 32019 []),[(1601,32018)],true⟩ (XV _ _ w) (Z ?_)
 refine AK ?_
 refine AI h (fun h=>Z ?_) (fun h=>Z ?_)
 ·refine AW [true,false,false,true,true,true,true,true,true] (.br 0 (Tr.sq [6] (.br 3 (Tr.sq [4] (.br 5 (Tr.sq [7,8] .fin) (.br 7 (Tr.sq [5,8] .fin) .stop))) (.br 7 (Tr.sq [3,4,5,8] .fin) .stop))) (.br 3 (Tr.sq [4] (.br 0 (Tr.sq [6] (.br 5 (Tr.sq [7,8] .fin) (.br 7 (Tr.sq [5,8] .fin) .stop))) (.br 5 (Tr.sq [0,6,7,8] .fin) .stop))) .stop)) (by kernel_rfl) ?_
  try simp only [go_sem]
  repeat' first|((with_reducible show aM _ _ _ _); refine Yc (Z ?_) (Z ?_))
  all_goals
   exact AF trivial h
 ·refine AK ?_
  refine AK ?_
  refine CH (DZ rfl rfl (RD fuel a1 u [] 0 _ h):) (.one ⟨_,.lt 9 2000000000 5000 0 1 .no [] (k:=.done _),((1000002000,32016)::(1000002001,32017)::r3 1000002002 32019 [(1000002005,2000000000)]),[(1000002500,1001),(1000002501,2005),(1000002502,32018)],?_⟩)
  simp only [go_sem]
  all_goals try rfl
theorem Nu (a0:Net) (u:Int × Int) (w:Int) (y:Bool) (r:Int) (h:Cv a0 u w y=some r):Aa prog f23 [1,1,0,1,0,1] (.int .i64 r) ⟨[(0,.rop [.ro (a0.agents.map Agent.ds)] 0),(6,.int .i64 u.2),(28,.int .i64 w),(29,.bool y)],[],[]⟩:=by
 unfold Cv at h
 exact AF trivial h
theorem RE (a0 a1 r) (h:Fm a0 a1=some r):AC prog 23 [.rop (Net.avs a0) 0,.agg (Pair.avs a1)] (.int .i64 r):=by
 unfold Fm at h
 refine acF func23 mixed (h:=Z ?_)
 exact AF (k3 KH KI Nu) h
theorem NH (n:Nat):(∀F v C u w y r,CO n F v C u w y=some r→Aa prog Tryz.f6 [1,1,1,1,0,1,0] (.tup [.ow (some 1) (r.1.map AD),.int .i64 r.2]) ⟨[(0,.ro (F.map Net.ds)),(2,.ro (v.map AD)),(3,.int .i64 C),(11,.box 1000002500 0),(12,.own 1000002001),(13,.int .i64 y)],[(1000002000,some ⟨List.map Agent.ds u,some 5,0,.no⟩),(1000002001,some ⟨List.map AD w,some 1,0,.no⟩)],[(1000002500,some [.own 1000002000])]⟩)∧
    (∀F v C u w y q g r,Bz n F v C u w y q g=some r→Aa prog Tryz.f6 [1,1,1,1,0,1,0,0,1,0,0,1,1,1,1] (.tup [.ow (some 1) (r.1.map AD),.int .i64 r.2]) ⟨[(0,.ro (F.map Net.ds)),(2,.ro (v.map AD)),(3,.int .i64 C),(11,.box 1000003500 0),(12,.own 1000003001),(13,.int .i64 y),(14,.own 1000003002),(15,.int .i64 g)],[(1000003000,some ⟨List.map Agent.ds u,some 5,0,.no⟩),(1000003001,some ⟨List.map AD w,some 1,0,.no⟩),(1000003002,some ⟨List.map Pair.ds q,some 2,0,.no⟩)],[(1000003500,some [.own 1000003000])]⟩):=by
 induction n with
 |zero=>exact⟨(fun _ _ _ _ _ _ _ h=>by rw [CO] at h; cases h),(fun _ _ _ _ _ _ _ _ _ h=>by rw [Bz] at h; cases h)⟩
 | succ n ih=>
  obtain⟨J,I⟩:=ih
  refine⟨?_,?_⟩
  ·intro F v C u w y r h
   rw [CO] at h
   refine BL rfl rfl (Z ?_)
   refine Ai (Z ?_)
   refine AI h (fun h=>Z ?_) (fun h=>Z ?_)
   ·refine AK ?_
    replace h:=AB h; obtain⟨q,j,h⟩:=h
    refine AL (VB _ _ j) (Z ?_)
    refine AK ?_
    refine AI h (fun h=>Z ?_) (fun h=>Z ?_)
    ·exact AF trivial h
    ·refine AK ?_
     refine AI h (fun h=>Z ?_) (fun h=>Z ?_)
     ·replace h:=AB h; obtain⟨k,b,h⟩:=h
      refine BH (Nc b) (Z ?_)
      exact AF (k1 I) h
     ·exact AF (k1 I) h
   ·exact AF trivial h
  ·intro F v C u w y q g r h
   rw [Bz] at h
   refine BL rfl rfl (Z ?_)
   replace h:=AB h; obtain⟨e,i,h⟩:=h
   refine BH (Nc i) (Z ?_)
   replace h:=AB h; obtain⟨l,t,h⟩:=h
   refine AS t (Pair.ds_len _) (Z ?_)
   refine AX (AP t) (Z ?_)
   refine AK ?_
   replace h:=AB h; obtain⟨s,o,h⟩:=h
   refine AL (RE _ _ _ o) (Z ?_)
   replace h:=AB h; obtain⟨z,Y,h⟩:=h
   refine AL (VC _ _ _ Y) (Z ?_)
   refine AK ?_
   refine AI h (fun h=>Z ?_) (fun h=>Z ?_)
   ·exact AF trivial h
   ·refine AK ?_
    replace h:=AB h; obtain⟨u2,u3,h⟩:=h
    refine caG ⟨[],[(1001,1000003000)],[(1,1000003500,0)],[(1501,304080)],[],true⟩ (bL _ _ _ _ _ u3) (Z ?_)
    refine AK ?_
    refine AI h (fun h=>Z ?_) (fun h=>Z ?_)
    ·exact AF trivial h
    ·refine AK ?_
     replace h:=AB h; obtain⟨u4,W,h⟩:=h
     refine caG ⟨[],[(1001,304080)],[(1,1000003500,0)],[(1501,352000)],[],true⟩ (XW _ _ W) (Z ?_)
     refine AK ?_
     replace h:=AB h; obtain⟨u6,U,h⟩:=h
     have O:=AT U
     obtain⟨G,p⟩:=O
     refine BO .no (Z ?_)
     refine By (Z ?_)
     refine F0 AD p (Z ?_)
     exact AF (k1 J) h
def Nv (n:Nat):=(NH n).1
theorem RF (a0 a1 a2 a3 r) (h:GX a0 a1 a2 a3=some r):AC prog 6 [.ro (a0.map Net.ds),.agg (Net.avs a1),.ro (a2.map AD),.int .i64 a3] (.tup [.ow (some 1) (r.1.map AD),.int .i64 r.2]):=by
 unfold GX at h
 refine acF func6 mixed (h:=Z ?_)
 replace h:=AB h; obtain⟨u,w,h⟩:=h
 refine AL (VD _ _ _ _ _ w) (Z ?_)
 refine AK ?_
 refine AI h (fun h=>Z ?_) (fun h=>Z ?_)
 ·exact AF trivial h
 ·refine AK ?_
  replace h:=AB h; obtain⟨y,q,h⟩:=h
  refine AL (Zb _ _ q) (Z ?_)
  refine AK ?_
  refine AK ?_
  refine CH (DZ rfl rfl (Nv fuel a0 a2 a3 y.agents [] 0 _ h):) (.one ⟨_,.lt 12 2000000000 6000 0 1 .no [] (k:=.done _),[(1000002000,80000),(1000002001,2000000000)],[(1000002500,5001)],?_⟩)
  simp only [go_sem]
  all_goals try rfl
theorem On (n:Nat):(∀p u w r,Bt n p u w=some r→Aa prog f28 [1,1,0,1,0] (.ow (some 2) (r.map Pair.ds)) ⟨[(3,.own 1000000000),(10,.ro (p.agents.map Agent.ds)),(11,.int .i64 (p.agents.length:Int)),(12,.int .i64 w)],[(1000000000,some ⟨List.map Pair.ds u,some 2,0,.no⟩)],[]⟩)∧
    (∀p u w y q r,DA n p u w y q=some r→Aa prog f28 [1,1,0,1,0,0,1,1,0,0,1,1,1] (.ow (some 2) (r.map Pair.ds)) ⟨[(3,.own 1000001000),(4,.int .i64 w),(6,.box 1000001500 0),(10,.ro (p.agents.map Agent.ds)),(11,.int .i64 (p.agents.length:Int)),(12,.int .i64 w),(34,.bool q)],[(1000001000,some ⟨List.map Pair.ds u,some 2,0,.no⟩)],[(1000001500,some [.int .i64 y.agent,.int .i64 y.slot])]⟩):=by
 induction n with
 |zero=>exact⟨(fun _ _ _ _ h=>by rw [Bt] at h; cases h),(fun _ _ _ _ _ _ h=>by rw [DA] at h; cases h)⟩
 | succ n ih=>
  obtain⟨v,F⟩:=ih
  refine⟨?_,?_⟩
  ·intro p u w r h
   rw [Bt] at h
   exact AF (k1 F) h
  ·intro p u w y q r h
   rw [DA] at h
   refine BL rfl rfl (Z ?_)
   refine AI h (fun h=>Z ?_) (fun h=>Z ?_)
   ·replace h:=AB h; obtain⟨b,d,h⟩:=h
    have G:=AT d
    obtain⟨C,j⟩:=G
    refine BO .no (Z ?_)
    refine By (Z ?_)
    refine Ar (b.map Pair.ds) (by rw [← j]; simp only [List.map_append,List.map_cons,List.map_nil,List.nil_append,List.append_nil,go_sem,Pair.ds_eq]) (Z ?_)
    exact AF (k1 v) h
   ·exact AF (k1 v) h
def QF (n:Nat):=(On n).1
theorem UZ (a0 r) (h:II a0=some r):AC prog 28 [.rop (Net.avs a0) 0] (.ow (some 2) (r.map Pair.ds)):=by
 unfold II at h
 refine acF func28 mixed (h:=Z ?_)
 refine CH (DZ rfl rfl (QF fuel a0 [] 0 _ h):) (.one ⟨_,.slot 3 2000000000 (some 2) .no (by simp only [go_sem]) (by simp only [go_sem]) (.done _),[(1000000000,2000000000)],[],?_⟩)
 simp only [go_sem]
 all_goals try rfl
theorem LB (a1:List Pair) (u:Int) (r:Pair) (h:Ff a1 u=some r):Aa prog f29 [1,1,1] (.agg (Pair.rv r)) ⟨[(1,.ro (a1.map Pair.ds)),(6,.box 1000000500 0),(7,.int .i64 u)],[],[(1000000500,some [.int .i64 0,.int .i64 0])]⟩:=by
 unfold Ff at h
 refine BL rfl rfl (Z ?_)
 replace h:=AB h; obtain⟨w,y,h⟩:=h
 refine BH (Nc y) (Z ?_)
 exact AF trivial h
theorem VE (a0 a1 a2 r) (h:JN a0 a1 a2=some r):AC prog 29 [.ro (a0.map AD),.ro (a1.map Pair.ds),.int .i64 a2] (.agg (Pair.rv r)):=by
 unfold JN at h
 refine acF func29 mixed (h:=Z ?_)
 refine AK ?_
 refine AI h (fun h=>Z ?_) (fun h=>Z ?_)
 ·replace h:=AB h; obtain⟨u,w,h⟩:=h
  refine BH (Nc w) (Z ?_)
  exact AF (k1 LB) h
 ·exact AF (k1 LB) h
theorem Lp (a0:Net) (u:Int) (w:Int × Bool) (y:Bool) (r:Int) (h:Ce a0 u w y=some r):Aa prog f62 [1,1,1,1,0,1,0,1] (.int .i64 r) ⟨[(0,.rop [.ro (a0.agents.map Agent.ds)] 0),(8,.int .i64 u),(22,.int .i64 w.1),(23,.bool y)],[],[]⟩:=by
 unfold Ce at h
 exact AF trivial h
theorem Lq (a0:Net) (u:Int × Bool) (w:Int) (r:Int) (h:DX a0 u w=some r):Aa prog f62 [1,1,1,1] (.int .i64 r) ⟨[(0,.rop [.ro (a0.agents.map Agent.ds)] 0),(5,.int .i64 u.1),(8,.int .i64 w)],[],[]⟩:=by
 unfold DX at h
 exact AF (k1 Lp) h
theorem Nw (a0 a1 r) (h:Ex a0 a1=some r):AC prog 62 [.rop (Net.avs a0) 0,.agg (Pair.avs a1)] (.int .i64 r):=by
 unfold Ex at h
 refine acF func62 mixed (h:=Z ?_)
 exact AF (k2 K6 Lq) h
theorem SN (n:Nat):(∀u w y q r,Dk n u w y q=some r→Aa prog f30 [1,1,1,1,1,0,1,0] (.tup [.agg (Core.rv r.1),.ow (some 1) (r.2.1.map AD),.int .i64 r.2.2]) ⟨[(4,.box 1000002500 0),(8,.box 1000002501 0),(10,.int .i64 w),(11,.own 1000002002),(29,.own 1000002003),(30,.int .i64 ((List.length u.1.origins :Nat):Int)),(31,.int .i64 q)],(tkF3 1000002000 u.2.1.data u.2.1.kids y u.1.origins),[(1000002500,some [.int .i64 0,.int .i64 0,.nils,.nils]),(1000002501,some [.int .i64 u.2.1.kind,.int .i64 u.2.1.value,.own 1000002000,.own 1000002001])]⟩)∧
    (∀y q u w g r,F3 n y q u w g=some r→Aa prog f30 [1,1,1,1,1,0,1,0,0,1,1,0,0,1,1] (.tup [.agg (Core.rv r.1),.ow (some 1) (r.2.1.map AD),.int .i64 r.2.2]) ⟨[(4,.box 1000003500 0),(8,.box 1000003501 0),(10,.int .i64 w),(11,.own 1000003002),(12,.int .i64 q),(29,.own 1000003003),(30,.int .i64 ((List.length u.1.origins :Nat):Int)),(31,.int .i64 q),(42,.bool g)],(tkF3 1000003000 u.2.1.data u.2.1.kids y u.1.origins),[(1000003500,some [.int .i64 0,.int .i64 0,.nils,.nils]),(1000003501,some [.int .i64 u.2.1.kind,.int .i64 u.2.1.value,.own 1000003000,.own 1000003001])]⟩):=by
 induction n with
 |zero=>exact⟨(fun _ _ _ _ _ h=>by rw [Dk] at h; cases h),(fun _ _ _ _ _ _ h=>by rw [F3] at h; cases h)⟩
 | succ n ih=>
  obtain⟨v,C⟩:=ih
  refine⟨?_,?_⟩
  ·intro u w y q r h
   rw [Dk] at h
   exact AF (k1 C) h
  ·intro y q u w g r h
   rw [F3] at h
   refine BL rfl rfl (Z ?_)
   refine AI h (fun h=>Z ?_) (fun h=>Z ?_)
   ·replace h:=AB h; obtain⟨b,d,h⟩:=h
    have F:=AT d
    obtain⟨p,j⟩:=F
    refine BO .no (Z ?_)
    refine By (Z ?_)
    refine F0 AD j (Z ?_)
    exact AF (k1 v) h
   ·exact AF (k1 v) h
def Ua (n:Nat):=(SN n).1
theorem Zc (a0 a1 r) (h:Mt a0 a1=some r):AC prog 30 [.agg (Net.avs a0),.agg (Pair.avs a1)] (.tup [.agg (Core.rv r.1),.ow (some 1) (r.2.1.map AD),.int .i64 r.2.2]):=by
 unfold Mt at h
 refine acF func30 mixed (h:=Z ?_)
 refine AK ?_
 replace h:=AB h; obtain⟨u,w,h⟩:=h
 rcases readNet_cases w with hc|⟨hc,hv⟩
 ·refine caG ⟨[],[],[],(r5 1501 32017 []),[(1601,32016)],true⟩ (XX _ _ w hc) (Z ?_)
  refine AK ?_
  refine aK (fun y=>?_) (fun y=>?_)
  ·replace h:=ifT (c:=(!decide (u.2.2 =0))) y h
   try simp only [go_sem]
   exact AF trivial h
  ·replace h:=ifF (c:=(!decide (u.2.2 =0))) y h
   try simp only [go_sem]
   refine AK ?_
   replace h:=AB h; obtain⟨q,g,h⟩:=h
   refine AL (Nw _ _ _ g) (Z ?_)
   refine AK ?_
   refine CH (DZ rfl rfl (Ua fuel u q [] 0 _ h):) (.one ⟨_,.slot 11 2000000000 (some 1) .no (by simp only [go_sem]) (by simp only [go_sem]) (.done _),[(1000002000,32020),(1000002001,32021),(1000002002,2000000000),(1000002003,32017)],[(1000002500,1002),(1000002501,2006)],?_⟩)
   simp only [go_sem]
   all_goals try rfl
 ·subst hv
  refine IW (XY _ hc) (by (first|rfl|(simp only [go_sem]; rfl))) (by first|rfl|(simp only [go_sem])) (Z ?_)
  refine AK ?_
  refine aK (fun y=>?_) (fun y=>absurd y (by decide))
  replace h:=ifT (c:=(!decide ((1:Int)=0))) y h
  try simp only [go_sem]
  exact AF trivial h
theorem Nx (n:Nat):(∀G C F u w y r,Ct n G C F u w y=some r→BK prog f10 [1,1,1,0,1,0] (.tup [.own 1501,.int .i64 r.2]) [(1501,⟨List.map AD r.1,some 1,0,.no⟩)] [] ⟨[(0,.ro (G.map Net.ds)),(2,.ro (C.map AD)),(5,.box 1000001500 0),(12,.own 1000001000),(32,.int .i64 F),(33,.int .i64 y)],[(1000001000,some ⟨List.map AD w,some 1,0,.no⟩)],[(1000001500,some [.ro (u.map Agent.ds)])]⟩):=by
 induction n with
 |zero=>exact((fun _ _ _ _ _ _ _ h=>by rw [Ct] at h; cases h))
 | succ n ih=>
  have I:=ih
  ·intro G C F u w y r h
   rw [Ct] at h
   refine AM rfl rfl (Z ?_)
   refine Ai (Z ?_)
   refine AI h (fun h=>Z ?_) (fun h=>Z ?_)
   ·refine AK ?_
    replace h:=AB h; obtain⟨q,g,h⟩:=h
    refine AL (UZ _ _ g) (Z ?_)
    refine AK ?_
    refine AI h (fun h=>Z ?_) (fun h=>Z ?_)
    ·exact AF trivial h
    ·refine AK ?_
     replace h:=AB h; obtain⟨j,k,h⟩:=h
     refine AL (VE _ _ _ _ k) (Z ?_)
     refine AK ?_
     replace h:=AB h; obtain⟨b,d,h⟩:=h
     refine AL (Zc _ _ _ d) (Z ?_)
     refine AK ?_
     refine AI h (fun h=>Z ?_) (fun h=>Z ?_)
     ·cases h
      exact C8 (.dp 0 2000000000 (some 1) .no [0] (k:=.done _)) [(1501,2000000000)] []
     ·refine AK ?_
      replace h:=AB h; obtain⟨c,e,h⟩:=h
      refine caG ⟨[],[],[],[(1501,240033)],[(1601,240032),(1602,240034)],true⟩ (K7 _ _ _ e) (Z ?_)
      refine AK ?_
      replace h:=AB h; obtain⟨i,l,h⟩:=h
      refine caG ⟨[],[(1001,240033)],[(1,240032,0),(2,240034,0)],[(1501,256032)],[],true⟩ (Lr _ _ _ l) (Z ?_)
      refine AK ?_
      refine AI h (fun h=>Z ?_) (fun h=>Z ?_)
      ·cases h
       exact C8 (.dp 0 2000000000 (some 1) .no [0] (k:=.done _)) [(1501,2000000000)] []
      ·refine AK ?_
       replace h:=AB h; obtain⟨t,s,h⟩:=h
       have J:=AT s
       obtain⟨v,p⟩:=J
       refine BO .no (Z ?_)
       refine By (Z ?_)
       refine F0 AD p (Z ?_)
       refine AK ?_
       replace h:=AB h; obtain⟨o,z,h⟩:=h
       refine caG ⟨[],[(1001,256032)],[(1,240032,0),(2,240034,0)],[(1501,320016),(1502,320017)],[],true⟩ (NF _ _ z) (Z ?_)
       refine AK ?_
       refine V9 (DL rfl rfl (I G C F o.agents t (IntKind.i64.wrap (y+1)) _ h):) (.one ⟨_,.fT 320016 [(69,[0])] [(1000001500,0)] (k:=.done _),[(1000001000,304064)],[(1000001500,1000001500)],?_⟩)
       simp only [go_sem]
       all_goals try rfl
   ·exact AF trivial h
theorem LC (a0 a1 a2 a3 r) (h:Fg a0 a1 a2 a3=some r):AG prog 10 [.ro (a0.map Net.ds),.agg [.ro (a1.agents.map Agent.ds)],.ro (a2.map AD),.int .i64 a3] [] [] (.tup [.own 1501,.int .i64 r.2]) [(1501,⟨List.map AD r.1,some 1,0,.no⟩)] [] :=by
 unfold Fg at h
 refine agF func10 mixed (h:=Z ?_)
 replace h:=AB h; obtain⟨u,w,h⟩:=h
 refine caG ⟨[],[],[],[],[],true⟩ (Ub _ _ _ _ _ w) (Z ?_)
 refine AK ?_
 refine AI h (fun h=>Z ?_) (fun h=>Z ?_)
 ·cases h
  exact C8 (.dp 0 2000000000 (some 1) .no [0] (k:=.done _)) [(1501,2000000000)] []
 ·refine AK ?_
  refine CH (DL rfl rfl (Nx fuel a0 a2 a3 a1.agents [] 0 _ h):) (.one ⟨_,.slot 12 2000000000 (some 1) .no (by simp only [go_sem]) (by simp only [go_sem]) (.done _),[(1000001000,2000000000)],[(1000001500,1000)],?_⟩)
  simp only [go_sem]
  all_goals try rfl
theorem Jf (u:Int × (List Int)) (w:Bool) (r:Bool) (h:CP u w=some r):Aa prog Tryz.f3 [1,1,1,1,1,1,1,1,1,1,1,1,1,1,1,1,1,1,1,1,1,1,1,1,1,1,1,1,0,1] (.bool r) ⟨[(15,.own 1000002000),(18,.int .i64 u.1),(136,.bool w)],[(1000002000,some ⟨List.map AD u.2,some 1,0,.no⟩)],[]⟩:=by
 unfold CP at h
 exact AF (k1 Ly) h
theorem Jg (a0:List Net) (a1:Net) (a2:List Int) (a3:Int) (u:(List Int) × Int) (w:(List Int) × Int) (y:Bool) (r:Bool) (h:Bo a0 a1 a2 a3 u w y=some r):Aa prog Tryz.f3 [1,1,1,1,1,1,1,1,1,1,1,1,1,1,1,1,1,1,1,1,0,1] (.bool r) ⟨[(0,.ro (a0.map Net.ds)),(2,.ro (a2.map AD)),(3,.int .i64 a3),(5,.box 1000001500 0),(10,.own 1000001000),(11,.int .i64 u.2),(15,.own 1000001001),(105,.bool y)],[(1000001000,some ⟨List.map AD u.1,some 1,0,.no⟩),(1000001001,some ⟨List.map AD w.1,some 1,0,.no⟩)],[(1000001500,some [.ro (a1.agents.map Agent.ds)])]⟩:=by
 unfold Bo at h
 refine BL rfl rfl (Z ?_)
 refine AI h (fun h=>Z ?_) (fun h=>Z ?_)
 ·exact AF trivial h
 ·refine AK ?_
  replace h:=AB h; obtain⟨q,g,h⟩:=h
  refine caG ⟨[],[(1,1000001001)],[],[],[],true⟩ (IZ _ _ (some 1) _ g) (Z ?_)
  refine AK ?_
  replace h:=AB h; obtain⟨j,k,h⟩:=h
  refine AL (Ly _ _ _ k) (Z ?_)
  refine AK ?_
  refine AI h (fun h=>Z ?_) (fun h=>Z ?_)
  ·exact AF trivial h
  ·refine AK ?_
   refine AI h (fun h=>Z ?_) (fun h=>Z ?_)
   ·exact AF trivial h
   ·refine AK ?_
    refine AW [false,false,false,false,false,false,false,true,true,true,true,true,true] (Tr.sq [7,8,9,10,11,12] .fin) (by kernel_rfl) (Z ?_)
    replace h:=AB h; obtain⟨b,d,h⟩:=h
    refine AL (J9 _ _ d) (Z ?_)
    replace h:=AB h; obtain⟨c,e,h⟩:=h
    refine AL (Jh _ _ e) (Z ?_)
    replace h:=AB h; obtain⟨i,l,h⟩:=h
    refine AL (Ge _ _ l) (Z ?_)
    replace h:=AB h; obtain⟨t,s,h⟩:=h
    refine caG ⟨[],[],[],[(1501,608112)],[],false⟩ (LC _ _ _ _ _ s) (Z ?_)
    exact AF (k2 Gf Jf) h
theorem Ji (a0:List Net) (a1:Net) (a2:List Int) (a3:Int) (u:(List Int) × Int) (w:(List Net)) (y:Net) (q:(List Int)) (g:(List Int) × Int) (j:Bool) (r:Bool) (h:CQ a0 a1 a2 a3 u w y q g j=some r):Aa prog Tryz.f3 [1,1,1,1,1,1,1,1,1,1,1,1,0,1] (.bool r) ⟨[(0,.ro (a0.map Net.ds)),(2,.ro (a2.map AD)),(3,.int .i64 a3),(5,.box 1000000500 0),(10,.own 1000000000),(11,.int .i64 u.2),(12,.own 1000000001),(13,.box 1000000501 0),(14,.own 1000000003),(15,.own 1000000004),(16,.int .i64 g.2),(68,.bool j)],[(1000000000,some ⟨List.map AD u.1,some 1,0,.no⟩),(1000000001,some ⟨List.map Net.ds w,some 1,0,.no⟩),(1000000002,some ⟨List.map Agent.ds y.agents,some 5,0,.no⟩),(1000000003,some ⟨List.map AD q,some 1,0,.no⟩),(1000000004,some ⟨List.map AD g.1,some 1,0,.no⟩)],[(1000000500,some [.ro (a1.agents.map Agent.ds)]),(1000000501,some [.own 1000000002])]⟩:=by
 unfold CQ at h
 refine BL rfl rfl (Z ?_)
 refine AI h (fun h=>Z ?_) (fun h=>Z ?_)
 ·exact AF trivial h
 ·refine AK ?_
  replace h:=AB h; obtain⟨k,b,h⟩:=h
  refine AL (J9 _ _ b) (Z ?_)
  replace h:=AB h; obtain⟨d,c,h⟩:=h
  refine AL (Zd _ _ _ c) (Z ?_)
  refine AK ?_
  refine AI h (fun h=>Z ?_) (fun h=>Z ?_)
  ·exact AF trivial h
  ·refine AK ?_
   refine AW [] .fin (by kernel_rfl) (Z ?_)
   replace h:=AB h; obtain⟨e,i,h⟩:=h
   refine AL (Jh _ _ i) (Z ?_)
   replace h:=AB h; obtain⟨l,t,h⟩:=h
   refine AL (Uc _ _ _ t) (Z ?_)
   refine AK ?_
   refine AI h (fun h=>Z ?_) (fun h=>Z ?_)
   ·exact AF trivial h
   ·refine AK ?_
    replace h:=AB h; obtain⟨s,o,h⟩:=h
    refine AL (Ge _ _ o) (Z ?_)
    replace h:=AB h; obtain⟨z,C,h⟩:=h
    refine AL (Gf _ _ _ C) (Z ?_)
    refine AK ?_
    refine AI h (fun h=>Z ?_) (fun h=>Z ?_)
    ·exact AF trivial h
    ·refine AK ?_
     replace h:=AB h; obtain⟨G,F,h⟩:=h
     refine caG ⟨[],[(1,1000000001)],[],[],[],true⟩ (VF _ _ (some 1) _ F) (Z ?_)
     refine AK ?_
     replace h:=AB h; obtain⟨I,v,h⟩:=h
     refine caG ⟨[],[(1,1000000002)],[],[],[],true⟩ (XZ _ _ (some 5) _ v) (Z ?_)
     refine AK ?_
     replace h:=AB h; obtain⟨J,p,h⟩:=h
     refine caG ⟨[],[(1,1000000003)],[],[],[],true⟩ (IZ _ _ (some 1) _ p) (Z ?_)
     exact AF (k2 Jg Gf) h
theorem Kk (a0 a1 a2 a3 r) (h:EM a0 a1 a2 a3=some r):AC prog 3 [.ro (a0.map Net.ds),.agg (Net.avs a1),.ro (a2.map AD),.int .i64 a3] (.bool r):=by
 unfold EM at h
 refine acF func3 mixed (h:=Z ?_)
 refine AI h (fun h=>Z ?_) (fun h=>Z ?_)
 ·exact AF trivial h
 ·refine AK ?_
  replace h:=AB h; obtain⟨u,w,h⟩:=h
  refine AL (Ze _ _ _ w) (Z ?_)
  refine AK ?_
  refine AI h (fun h=>Z ?_) (fun h=>Z ?_)
  ·exact AF trivial h
  ·refine AK ?_
   replace h:=AB h; obtain⟨y,q,h⟩:=h
   refine AL (Ud _ _ _ q) (Z ?_)
   refine AK ?_
   refine AI h (fun h=>Z ?_) (fun h=>Z ?_)
   ·exact AF trivial h
   ·refine AK ?_
    refine AW [] .fin (by kernel_rfl) (Z ?_)
    replace h:=AB h; obtain⟨g,j,h⟩:=h
    refine AL (J9 _ _ j) (Z ?_)
    replace h:=AB h; obtain⟨k,b,h⟩:=h
    refine AL (Jh _ _ b) (Z ?_)
    replace h:=AB h; obtain⟨d,c,h⟩:=h
    refine AL (Ge _ _ c) (Z ?_)
    replace h:=AB h; obtain⟨e,i,h⟩:=h
    refine AL (RF _ _ _ _ _ i) (Z ?_)
    refine AK ?_
    replace h:=AB h; obtain⟨l,t,h⟩:=h
    refine AL (J9 _ _ t) (Z ?_)
    refine AK ?_
    replace h:=AB h; obtain⟨s,o,h⟩:=h
    refine AL (Jh _ _ o) (Z ?_)
    refine AK ?_
    replace h:=AB h; obtain⟨z,p,h⟩:=h
    refine AL (Ge _ _ p) (Z ?_)
    refine AK ?_
    replace h:=AB h; obtain⟨C,v,h⟩:=h
    refine caG ⟨[],[],[],[(1501,240064)],[],false⟩ (LC _ _ _ _ _ v) (Z ?_)
    exact AF (k2 Gf Ji) h
end Go.Proofs.YthenkmapmnkelaaGreatDoor.Ab
