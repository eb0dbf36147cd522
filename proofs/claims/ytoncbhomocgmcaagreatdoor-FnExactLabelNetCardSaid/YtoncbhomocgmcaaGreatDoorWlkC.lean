/-
 The functions do what their models say. Printed by wip/ab/gen.py.
-/
import Derived.Test.YtoncbhomocgmcaaGreatDoorModC
import Derived.Test.YtoncbhomocgmcaaGreatDoorTi2
import Derived.Test.YtoncbhomocgmcaaGreatDoorWlkU
import Derived.Test.YtoncbhomocgmcaaGreatDoorWlkQ
namespace Go.Proofs.YtoncbhomocgmcaaGreatDoor.Ab
set_option linter.defProp false
set_option linter.unusedVariables false
set_option linter.unusedSimpArgs false
set_option maxRecDepth 20000
set_option maxHeartbeats 4000000
open Go.RowKit
theorem Ov (n:Nat):(∀a0 a1 r,Fh n a0 a1=some r→AC Tryz.prog 39 [.ro (a0.map Core.ds),.ro (a1.map Core.ds)] (.bool r))∧
    (∀a0 a1 u r,Co n a0 a1 u=some r→BE Tryz.prog Tryz.f39 [1,1,0,1,0] (.bool r) ⟨[(0,.ro (a0.map Core.ds)),(1,.ro (a1.map Core.ds)),(5,.int .i64 u)],[],[]⟩)∧
    (∀a0 a1 r,D7 n a0 a1=some r→AC Tryz.prog 19 [.agg (Core.avs a0),.agg (Core.avs a1)] (.bool r)):=by
 induction n with
 |zero=>exact⟨(fun _ _ _ h=>by rw [Fh] at h; cases h),(fun _ _ _ _ h=>by rw [Co] at h; cases h),(fun _ _ _ h=>by rw [D7] at h; cases h)⟩
 | succ n ih=>
  obtain⟨ih0,ih1,ih2⟩:=ih
  refine⟨?_,?_,?_⟩
  ·intro a0 a1 r h
   rw [Fh] at h
   refine acF Tryz.func39 mixed (h:=Z ?_)
   refine Hf (fun w=>?_) (fun w=>?_)
   ·replace h:=ifT (c:=(!decide ((a0.length:Int)=(a1.length:Int)))) w h
    try simp only [go_sem]
    exact AI trivial h
   ·replace h:=ifF (c:=(!decide ((a0.length:Int)=(a1.length:Int)))) w h
    try simp only [go_sem]
    exact AI (k1 ih1) h
  ·intro a0 a1 u r h
   rw [Co] at h
   refine Bn rfl rfl (Z ?_)
   refine Bw (Z ?_)
   refine Hf (fun y=>?_) (fun y=>?_)
   ·replace h:=ifT (c:=(decide (u<(a0.length:Int)))) y h
    try simp only [go_sem]
    refine AS ?_
    refine BS [] .fin (by kernel_rfl) (Z ?_)
    replace h:=AJ h; obtain⟨q,g,h⟩:=h
    refine Aq g (Core.ds_len _) (Z ?_)
    replace h:=AJ h; obtain⟨j,k,h⟩:=h
    refine Aq k (Core.ds_len _) (Z ?_)
    replace h:=AJ h; obtain⟨b,d,h⟩:=h
    refine AU (ih2 _ _ _ d) (Z ?_)
    refine AS ?_
    refine Hf (fun e=>?_) (fun e=>?_)
    ·replace h:=ifT (c:=(!b)) e h
     try simp only [go_sem]
     exact AI trivial h
    ·replace h:=ifF (c:=(!b)) e h
     try simp only [go_sem]
     exact AI (k1 ih1) h
   ·replace h:=ifF (c:=(decide (u<(a0.length:Int)))) y h
    try simp only [go_sem]
    exact AI trivial h
  ·intro a0 a1 r h
   rw [D7] at h
   refine acF Tryz.func19 mixed (h:=Z ?_)
   refine Hf (fun w=>?_) (fun w=>?_)
   ·replace h:=ifT (c:=(!decide (a0.kind=a1.kind))) w h
    try simp only [go_sem]
    exact AI trivial h
   ·replace h:=ifF (c:=(!decide (a0.kind=a1.kind))) w h
    try simp only [go_sem]
    refine AS ?_
    refine Hf (fun y=>?_) (fun y=>?_)
    ·replace h:=ifT (c:=(!decide (a0.value=a1.value))) y h
     try simp only [go_sem]
     exact AI trivial h
    ·replace h:=ifF (c:=(!decide (a0.value=a1.value))) y h
     try simp only [go_sem]
     refine AS ?_
     replace h:=AJ h; obtain⟨i,l,h⟩:=h
     refine AU (JV _ _ _ l) (Z ?_)
     refine AS ?_
     refine Hf (fun e=>?_) (fun e=>?_)
     ·replace h:=ifT (c:=(!i)) e h
      try simp only [go_sem]
      exact AI trivial h
     ·replace h:=ifF (c:=(!i)) e h
      try simp only [go_sem]
      exact AI (k1 ih0) h
def Sn (n:Nat):=(Ov n).2.2
theorem LB (n:Nat):(∀a0 a1 u r,CR n a0 a1 u=some r→BE Tryz.prog Tryz.f20 [1,1,0,1,0] (.bool r) ⟨[(0,.ro (a0.map AT)),(1,.ro (a1.map AT)),(5,.int .i64 u)],[],[]⟩):=by
 induction n with
 |zero=>exact((fun _ _ _ _ h=>by rw [CR] at h; cases h))
 | succ n ih=>
  have ih0:=ih
  ·intro a0 a1 u r h
   rw [CR] at h
   exact AI (k1 ih0) h
theorem OQ (a0 a1 r) (h:E7 a0 a1=some r):AC Tryz.prog 20 [.ro (a0.map AT),.ro (a1.map AT)] (.bool r):=by
 unfold E7 at h
 refine acF Tryz.func20 mixed (h:=Z ?_)
 exact AI (k1 LB) h
theorem FP (a0 a1 r) (h:DH a0 a1=some r):AC Tryz.prog 8 [.agg (Labelled.avs a0),.agg (Labelled.avs a1)] (.bool r):=by
 unfold DH at h
 refine acF Tryz.func8 mixed (h:=Z ?_)
 replace h:=AJ h; obtain⟨u,w,h⟩:=h
 refine AU (Sn fuel _ _ _ w) (Z ?_)
 exact AI (k1 OQ) h
theorem Mh (n:Nat):(∀a0 a1 (z1:Option Nat) r,Cp n a0 a1=some r→AG Tryz.prog 43 [.own 1,.int .i64 a1] [(1,⟨List.map Core.ds a0,z1,0,.no⟩)] [] (.int .i64 r.1) [(1,⟨List.map Core.ds r.2,z1,0,.no⟩)] [])∧
    (∀u w y (z1:Option Nat) r,Bx n u w y=some r→CF Tryz.prog Tryz.f43 [1,0,1,0] (.int .i64 r.1) [(1,⟨List.map Core.ds r.2,z1,0,.no⟩)] [] ⟨[(0,.own 1),(1,.int .i64 w),(5,.int .i64 y)],[(1,some ⟨List.map Core.ds u,z1,0,.no⟩)],[]⟩):=by
 induction n with
 |zero=>exact⟨(fun _ _ _ _ h=>by rw [Cp] at h; cases h),(fun _ _ _ _ _ h=>by rw [Bx] at h; cases h)⟩
 | succ n ih=>
  obtain⟨ih0,ih1⟩:=ih
  refine⟨?_,?_⟩
  ·intro a0 a1 z1 r h
   rw [Cp] at h
   refine agF Tryz.func43 mixed (h:=Z ?_)
   exact SI (ih1 a0 a1 0 z1 _ h)
  ·intro u w y z1 r h
   rw [Bx] at h
   refine Aj rfl rfl (Z ?_)
   refine Bw (Z ?_)
   refine AO h (fun h=>Z ?_) (fun h=>Z ?_)
   ·refine AS ?_
    replace h:=AJ h; obtain⟨q,g,h⟩:=h
    refine Aq g (Core.ds_len _) (Z ?_)
    replace h:=AJ h; obtain⟨j,k,h⟩:=h
    refine BN (A8 g) (Z ?_)
    refine AN (j.map Core.ds) (by rw [← BG k]; simp only [List.map_set,go_sem,Core.ds_eq]) (Z ?_)
    replace h:=AJ h; obtain⟨b,d,h⟩:=h
    refine Aq d (Core.ds_len _) (Z ?_)
    replace h:=AJ h; obtain⟨c,e,h⟩:=h
    refine BN (A8 d) (Z ?_)
    refine AN (c.map Core.ds) (by rw [← BG e]; simp only [List.map_set,go_sem,Core.ds_eq]) (Z ?_)
    replace h:=AJ h; obtain⟨i,l,h⟩:=h
    refine Aq l (Core.ds_len _) (Z ?_)
    refine BN (A8 l) (Z ?_)
    replace h:=AJ h; obtain⟨t,s,h⟩:=h
    replace h:=AJ h; obtain⟨o,z,h⟩:=h
    refine caG ⟨[(3000144096,.sub 1 0 [(4,Int.toNat y,2)],none)],[(1,3000144096)],[],[],[],true⟩ (FO _ _ none _ s) (Z ?_)
    refine BN (QX (r:=List.map AB i.data) (A8 l) (Core.ds_len _) (by simp only [go_sem,Core.ds_eq])) (Z ?_)
    refine AN ((c.map Core.ds).set (Int.toNat y) [.int .i64 i.kind,.int .i64 i.value,.gone,.sl (i.kids.map Core.ds)]) ((Ij (A8 l) (d':=.sl (i.data.map AB)) (by simp only [go_sem,Core.ds_eq])).trans (by simp only [go_sem,Core.ds_eq])) (Z ?_)
    refine AK (QY (Ii (A8 l)) rfl rfl) (Z ?_)
    refine AN (o.map Core.ds) (((Ij (Ii (A8 l)) (d':=.gone) rfl).trans (List.set_set ..)).trans (by rw [← BG z]; simp only [List.map_set,go_sem,Core.ds_eq])) (Z ?_)
    refine AS ?_
    replace h:=AJ h; obtain⟨u1,u2,h⟩:=h
    refine Aq u2 (Core.ds_len _) (Z ?_)
    refine BN (A8 u2) (Z ?_)
    replace h:=AJ h; obtain⟨u3,u4,h⟩:=h
    replace h:=AJ h; obtain⟨u5,u6,h⟩:=h
    refine caG ⟨[(3000160096,.sub 1 0 [(4,Int.toNat y,3)],none)],[(1,3000160096)],[],[],[],true⟩ (ih0 _ _ none _ u4) (Z ?_)
    refine BN (QX (r:=List.map Core.ds u1.kids) (A8 u2) (Core.ds_len _) (by simp only [go_sem,Core.ds_eq])) (Z ?_)
    refine AN ((o.map Core.ds).set (Int.toNat y) [.int .i64 u1.kind,.int .i64 u1.value,.sl (u1.data.map AB),.gone]) ((Ij (A8 u2) (d':=.sl (u1.kids.map Core.ds)) (by simp only [go_sem,Core.ds_eq])).trans (by simp only [go_sem,Core.ds_eq])) (Z ?_)
    refine AK (QY (Ii (A8 u2)) rfl rfl) (Z ?_)
    refine AN (u5.map Core.ds) (((Ij (Ii (A8 u2)) (d':=.gone) rfl).trans (List.set_set ..)).trans (by rw [← BG u6]; simp only [List.map_set,go_sem,Core.ds_eq])) (Z ?_)
    refine AS ?_
    exact V8 (ih1 u5 u3.1 (IntKind.i64.wrap (y+1)) z1 _ h)
   ·exact AI trivial h
def OR (n:Nat):=(Mh n).1
theorem Ow (a0 a1) (z1:Option Nat) (z2:Option Nat) (r) (h:F7 a0 a1=some r):AG Tryz.prog 23 [.agg [.int .i64 a0.kind,.int .i64 a0.value,.own 1,.own 2],.int .i64 a1] [(1,⟨List.map AB a0.data,z1,0,.no⟩),(2,⟨List.map Core.ds a0.kids,z2,0,.no⟩)] [] (.int .i64 r.1) [(1,⟨List.map AB r.2.1,z1,0,.no⟩),(2,⟨List.map Core.ds r.2.2,z2,0,.no⟩)] [] :=by
 unfold F7 at h
 refine agF Tryz.func23 mixed (h:=Z ?_)
 replace h:=AJ h; obtain⟨u,w,h⟩:=h
 refine caG ⟨[],[(1,1)],[],[],[],true⟩ (FO _ _ z1 _ w) (Z ?_)
 refine AS ?_
 replace h:=AJ h; obtain⟨y,q,h⟩:=h
 refine caG ⟨[],[(1,2)],[],[],[],true⟩ (OR fuel _ _ z2 _ q) (Z ?_)
 exact AI trivial h
theorem Lq (n:Nat):(∀u w r,Bo n u w=some r→BE Tryz.prog Tryz.f44 [1,1,1,0,0] (.str r) ⟨[(0,.int .i64 u),(3,.str w)],[],[]⟩):=by
 induction n with
 |zero=>exact((fun _ _ _ h=>by rw [Bo] at h; cases h))
 | succ n ih=>
  have ih0:=ih
  ·intro u w r h
   rw [Bo] at h
   refine Bn rfl rfl (Z ?_)
   refine Bw (Z ?_)
   refine AO h (fun h=>Z ?_) (fun h=>Z ?_)
   ·refine AS ?_
    refine AK (by decide) (Z ?_)
    replace h:=AJ h; obtain⟨y,q,h⟩:=h
    have hq_:=Py q
    obtain⟨hv6005a,hv6005b⟩:=hq_
    refine aL (ns:=[(IntKind.u8.wrap (IntKind.i64.wrap (48+(Int.tmod u 10))))]) hv6005a ?_
    rw [hv6005b]
    try simp only [go_sem]
    replace h:=AJ h; obtain⟨g,j,h⟩:=h
    have hq_:=Cj j
    obtain⟨hv6007a,hv6007b⟩:=hq_
    refine AK hv6007a ?_
    rw [hv6007b]
    try simp only [go_sem]
    refine AS ?_
    refine AK (by decide) (Z ?_)
    exact AI (k1 ih0) h
   ·refine AS ?_
    replace h:=AJ h; obtain⟨k,b,h⟩:=h
    have hq_:=Cj b
    obtain⟨hv8001a,hv8001b⟩:=hq_
    refine AK hv8001a ?_
    rw [hv8001b]
    try simp only [go_sem]
    exact AI trivial h
theorem JW (a0 r) (h:Dn a0=some r):AC Tryz.prog 44 [.int .i64 a0] (.str r):=by
 unfold Dn at h
 refine acF Tryz.func44 mixed (h:=Z ?_)
 refine AO h (fun h=>Z ?_) (fun h=>Z ?_)
 ·exact AI trivial h
 ·refine AS ?_
  exact gc (Lq fuel a0 (ByteArray.mk #[]) _ h)
theorem JK (n:Nat):(∀u w y (z1:Option Nat) r,BW n u w y=some r→CF Tryz.prog Tryz.f24 [1,0,1,0] (.int .i64 r.1) [(1,⟨List.map AT r.2,z1,0,.no⟩)] [] ⟨[(0,.own 1),(1,.int .i64 w),(5,.int .i64 y)],[(1,some ⟨List.map AT u,z1,0,.no⟩)],[]⟩):=by
 induction n with
 |zero=>exact((fun _ _ _ _ _ h=>by rw [BW] at h; cases h))
 | succ n ih=>
  have ih0:=ih
  ·intro u w y z1 r h
   rw [BW] at h
   refine Aj rfl rfl (Z ?_)
   refine Bw (Z ?_)
   refine AO h (fun h=>Z ?_) (fun h=>Z ?_)
   ·refine AS ?_
    replace h:=AJ h; obtain⟨q,g,h⟩:=h
    refine AU (JW _ _ g) (Z ?_)
    replace h:=AJ h; obtain⟨j,k,h⟩:=h
    refine Aq k rfl (Z ?_)
    replace h:=AJ h; obtain⟨b,d,h⟩:=h
    refine BN (A8 k) (Z ?_)
    refine AN (b.map AT) (by rw [← BG d]; simp only [List.map_set,go_sem,slD]) (Z ?_)
    refine AS ?_
    refine AS ?_
    exact V8 (ih0 b (IntKind.i64.wrap (w+1)) (IntKind.i64.wrap (y+1)) z1 _ h)
   ·exact AI trivial h
theorem Lr (a0 a1) (z1:Option Nat) (r) (h:D8 a0 a1=some r):AG Tryz.prog 24 [.own 1,.int .i64 a1] [(1,⟨List.map AT a0,z1,0,.no⟩)] [] (.int .i64 r.1) [(1,⟨List.map AT r.2,z1,0,.no⟩)] [] :=by
 unfold D8 at h
 refine agF Tryz.func24 mixed (h:=Z ?_)
 exact SI (JK fuel a0 a1 0 z1 _ h)
theorem LC (a0 a1) (z1:Option Nat) (z2:Option Nat) (z3:Option Nat) (r) (h:Do a0 a1=some r):AG Tryz.prog 11 [.agg [.int .i64 a0.term.kind,.int .i64 a0.term.value,.own 1,.own 2,.own 3],.int .i64 a1] [(1,⟨List.map AB a0.term.data,z1,0,.no⟩),(2,⟨List.map Core.ds a0.term.kids,z2,0,.no⟩),(3,⟨List.map AT a0.labels,z3,0,.no⟩)] [] (.int .i64 r.1) [(1,⟨List.map AB r.2.1,z1,0,.no⟩),(2,⟨List.map Core.ds r.2.2.1,z2,0,.no⟩),(3,⟨List.map AT r.2.2.2,z3,0,.no⟩)] [] :=by
 unfold Do at h
 refine agF Tryz.func11 mixed (h:=Z ?_)
 replace h:=AJ h; obtain⟨u,w,h⟩:=h
 refine caG ⟨[],[(1,1),(2,2)],[],[],[],true⟩ (Ow _ _ z1 z2 _ w) (Z ?_)
 refine AS ?_
 replace h:=AJ h; obtain⟨y,q,h⟩:=h
 refine caG ⟨[],[(1,3)],[],[],[],true⟩ (Lr _ _ z3 _ q) (Z ?_)
 exact AI trivial h
theorem Mi (n:Nat):(∀a0 a1 r,Cq n a0 a1=some r→AC Tryz.prog 46 [.ro (a0.map Core.ds),.int .i64 a1] (.int .i64 r))∧
    (∀a0 u w r,By n a0 u w=some r→BE Tryz.prog Tryz.f46 [1,0,1,0] (.int .i64 r) ⟨[(0,.ro (a0.map Core.ds)),(1,.int .i64 u),(5,.int .i64 w)],[],[]⟩):=by
 induction n with
 |zero=>exact⟨(fun _ _ _ h=>by rw [Cq] at h; cases h),(fun _ _ _ _ h=>by rw [By] at h; cases h)⟩
 | succ n ih=>
  obtain⟨ih0,ih1⟩:=ih
  refine⟨?_,?_⟩
  ·intro a0 a1 r h
   rw [Cq] at h
   refine acF Tryz.func46 mixed (h:=Z ?_)
   exact AI (k1 ih1) h
  ·intro a0 u w r h
   rw [By] at h
   exact AI (k3 Hx ih0 ih1) h
def OS (n:Nat):=(Mi n).1
theorem Ox (a0 a1 r) (h:F8 a0 a1=some r):AC Tryz.prog 25 [.agg (Core.avs a0),.int .i64 a1] (.int .i64 r):=by
 unfold F8 at h
 refine acF Tryz.func25 mixed (h:=Z ?_)
 replace h:=AJ h; obtain⟨u,w,h⟩:=h
 refine AU (Hx _ _ _ w) (Z ?_)
 refine AS ?_
 refine AO h (fun h=>Z ?_) (fun h=>Z ?_)
 ·exact AI trivial h
 ·refine AS ?_
  replace h:=AJ h; obtain⟨y,q,h⟩:=h
  refine AU (OS fuel _ _ _ q) (Z ?_)
  exact AI trivial h
theorem JL (n:Nat):(∀a0 u w r,BX n a0 u w=some r→BE Tryz.prog Tryz.f26 [1,0,1,0] (.int .i64 r) ⟨[(0,.ro (a0.map AT)),(1,.int .i64 u),(5,.int .i64 w)],[],[]⟩):=by
 induction n with
 |zero=>exact((fun _ _ _ _ h=>by rw [BX] at h; cases h))
 | succ n ih=>
  have ih0:=ih
  ·intro a0 u w r h
   rw [BX] at h
   exact AI (k2 JW ih0) h
theorem Ls (a0 a1 r) (h:D9 a0 a1=some r):AC Tryz.prog 26 [.ro (a0.map AT),.int .i64 a1] (.int .i64 r):=by
 unfold D9 at h
 refine acF Tryz.func26 mixed (h:=Z ?_)
 exact AI (k1 JL) h
theorem Gc (a0 a1 r) (h:C7 a0 a1=some r):AC Tryz.prog 12 [.agg (Labelled.avs a0),.int .i64 a1] (.int .i64 r):=by
 unfold C7 at h
 refine acF Tryz.func12 mixed (h:=Z ?_)
 exact AI (k2 Ox Ls) h
end Go.Proofs.YtoncbhomocgmcaaGreatDoor.Ab
