/-
 The functions do what their models say. Printed by wip/ab/gen.py.
-/
import Derived.Test.YtckcfdggbbabfaaGreatModU
import Derived.Test.YtckcfdggbbabfaaGreatTi2
import Derived.Test.YtckcfdggbbabfaaGreatWlk
namespace Go.Proofs.YtckcfdggbbabfaaGreat.Ab
set_option linter.unusedVariables false
set_option linter.unusedSimpArgs false
set_option maxRecDepth 20000
set_option maxHeartbeats 4000000
open Go.RowKit
theorem NN (n:Nat):(∀u w y (z1:Option Nat) r,Cj n u w y=some r→Dx Tryz.prog Tryz.f120 [1,0,1,0] (.int .i64 r.1) [(1,⟨List.map Port.ds r.2,z1,0,false⟩)] [] ⟨[(0,.own 1),(1,.int .i64 w),(5,.int .i64 y)],[(1,some ⟨List.map Port.ds u,z1,0,false⟩)],[]⟩):=by
 induction n with
 |zero=>exact((fun _ _ _ _ _ h=>by rw [Cj] at h; cases h))
 | succ n ih=>
  have ih0:=ih
  ·intro u w y z1 r h
   rw [Cj] at h
   refine BB rfl rfl (Z ?_)
   refine Ag (Z ?_)
   refine AD h (fun h=>Z ?_) (fun h=>Z ?_)
   ·refine AB (Z ?_)
    replace h:=AF h; obtain⟨q,g,h⟩:=h
    refine AR g (Port.ds_len _) (Z ?_)
    replace h:=AF h; obtain⟨j,k,h⟩:=h
    refine Ac (AU g) (Z ?_)
    refine BA (List.map Port.ds j) (by rw [← Az k]; simp only [List.map_set,go_sem,Port.ds_eq]) (Z ?_)
    replace h:=AF h; obtain⟨b,d,h⟩:=h
    refine AR d (Port.ds_len _) (Z ?_)
    replace h:=AF h; obtain⟨c,e,h⟩:=h
    refine Ac (AU d) (Z ?_)
    refine BA (List.map Port.ds c) (by rw [← Az e]; simp only [List.map_set,go_sem,Port.ds_eq]) (Z ?_)
    refine AB (Z ?_)
    refine Am (AN rfl rfl (ih0 c (IntKind.i64.wrap ((IntKind.i64.wrap (w+1))+1)) (IntKind.i64.wrap (y+1)) z1 _ h):) (.one ⟨_,.done _,[(1,1)],[],?_⟩)
    try simp only [go_sem]
   ·refine AB (Z ?_)
    cases h
    refine Bb (.done _) [(1,1)] [] ?_
    simp only [go_sem]
theorem QJ (a0 a1) (z1:Option Nat) (r) (h:G6 a0 a1=some r):AG Tryz.prog 120 [.own 1,.int .i64 a1] [(1,⟨List.map Port.ds a0,z1,0,false⟩)] [] (.int .i64 r.1) [(1,⟨List.map Port.ds r.2,z1,0,false⟩)] [] :=by
 unfold G6 at h
 refine Co mixed Tryz.func120 rfl rfl rfl (by kernel_rfl) (by kernel_rfl) (Z ?_)
 refine AZ (AN rfl rfl (NN fuel a0 a1 0 z1 _ h):) (.one ⟨_,.done _,[(1,1)],[],?_⟩)
 try simp only [go_sem]
theorem MO (n:Nat):(∀u w y (z1:Option Nat) r,CR n u w y=some r→Dx Tryz.prog Tryz.f71 [1,0,1,0] (.int .i64 r.1) [(1,⟨List.map Agent.ds r.2,z1,0,false⟩)] [] ⟨[(0,.own 1),(1,.int .i64 w),(5,.int .i64 y)],[(1,some ⟨List.map Agent.ds u,z1,0,false⟩)],[]⟩):=by
 induction n with
 |zero=>exact((fun _ _ _ _ _ h=>by rw [CR] at h; cases h))
 | succ n ih=>
  have ih0:=ih
  ·intro u w y z1 r h
   rw [CR] at h
   refine BB rfl rfl (Z ?_)
   refine Ag (Z ?_)
   refine AD h (fun h=>Z ?_) (fun h=>Z ?_)
   ·refine AB (Z ?_)
    replace h:=AF h; obtain⟨q,g,h⟩:=h
    refine AR g (Agent.ds_len _) (Z ?_)
    replace h:=AF h; obtain⟨j,k,h⟩:=h
    refine Ac (AU g) (Z ?_)
    refine BA (List.map Agent.ds j) (by rw [← Az k]; simp only [List.map_set,go_sem,Agent.ds_eq]) (Z ?_)
    replace h:=AF h; obtain⟨b,d,h⟩:=h
    refine AR d (Agent.ds_len _) (Z ?_)
    replace h:=AF h; obtain⟨c,e,h⟩:=h
    refine Ac (AU d) (Z ?_)
    refine BA (List.map Agent.ds c) (by rw [← Az e]; simp only [List.map_set,go_sem,Agent.ds_eq]) (Z ?_)
    replace h:=AF h; obtain⟨i,l,h⟩:=h
    refine AR l (Agent.ds_len _) (Z ?_)
    replace h:=AF h; obtain⟨t,s,h⟩:=h
    refine Ac (AU l) (Z ?_)
    refine BA (List.map Agent.ds t) (by rw [← Az s]; simp only [List.map_set,go_sem,Agent.ds_eq]) (Z ?_)
    replace h:=AF h; obtain⟨o,z,h⟩:=h
    refine AR z (Agent.ds_len _) (Z ?_)
    refine Ac (AU z) (Z ?_)
    replace h:=AF h; obtain⟨u1,u2,h⟩:=h
    replace h:=AF h; obtain⟨u3,u4,h⟩:=h
    refine AP ⟨[(3000176096,.sub 1 0 [(5,Int.toNat y,3)],none)],[(1,3000176096)],[],[],[],true⟩ (by kernel_rfl) (OS _ _ none _ u2) (by kernel_rfl) (Z ?_)
    refine Ac (D0 (r:=List.map Au o.data) (AU z) (Agent.ds_len _) (by simp only [go_sem,Agent.ds_eq])) (Z ?_)
    refine BA ((List.map Agent.ds t).set (Int.toNat y) [.int .i64 o.kind,.int .i64 o.level,.int .i64 o.value,.gone,.sl (List.map Port.ds o.ports)]) ((GX (AU z) (d':=.sl (List.map Au o.data)) (by simp only [go_sem,Agent.ds_eq])).trans (by simp only [go_sem,Agent.ds_eq])) (Z ?_)
    refine BW (Us (Ke (AU z)) rfl rfl) (Z ?_)
    refine BA (List.map Agent.ds u3) (((GX (Ke (AU z)) (d':=.gone) rfl).trans (List.set_set ..)).trans (by rw [← Az u4]; simp only [List.map_set,go_sem,Agent.ds_eq])) (Z ?_)
    refine AB (Z ?_)
    replace h:=AF h; obtain⟨u5,u6,h⟩:=h
    refine AR u6 (Agent.ds_len _) (Z ?_)
    refine Ac (AU u6) (Z ?_)
    replace h:=AF h; obtain⟨u7,u8,h⟩:=h
    replace h:=AF h; obtain⟨u9,u10,h⟩:=h
    refine AP ⟨[(3000192096,.sub 1 0 [(5,Int.toNat y,4)],none)],[(1,3000192096)],[],[],[],true⟩ (by kernel_rfl) (QJ _ _ none _ u8) (by kernel_rfl) (Z ?_)
    refine Ac (D0 (r:=List.map Port.ds u5.ports) (AU u6) (Agent.ds_len _) (by simp only [go_sem,Agent.ds_eq])) (Z ?_)
    refine BA ((List.map Agent.ds u3).set (Int.toNat y) [.int .i64 u5.kind,.int .i64 u5.level,.int .i64 u5.value,.sl (List.map Au u5.data),.gone]) ((GX (AU u6) (d':=.sl (List.map Port.ds u5.ports)) (by simp only [go_sem,Agent.ds_eq])).trans (by simp only [go_sem,Agent.ds_eq])) (Z ?_)
    refine BW (Us (Ke (AU u6)) rfl rfl) (Z ?_)
    refine BA (List.map Agent.ds u9) (((GX (Ke (AU u6)) (d':=.gone) rfl).trans (List.set_set ..)).trans (by rw [← Az u10]; simp only [List.map_set,go_sem,Agent.ds_eq])) (Z ?_)
    refine AB (Z ?_)
    refine Am (AN rfl rfl (ih0 u9 u7.1 (IntKind.i64.wrap (y+1)) z1 _ h):) (.one ⟨_,.done _,[(1,1)],[],?_⟩)
    try simp only [go_sem]
   ·refine AB (Z ?_)
    cases h
    refine Bb (.done _) [(1,1)] [] ?_
    simp only [go_sem]
theorem J4 (a0 a1) (z1:Option Nat) (r) (h:E5 a0 a1=some r):AG Tryz.prog 71 [.own 1,.int .i64 a1] [(1,⟨List.map Agent.ds a0,z1,0,false⟩)] [] (.int .i64 r.1) [(1,⟨List.map Agent.ds r.2,z1,0,false⟩)] [] :=by
 unfold E5 at h
 refine Co mixed Tryz.func71 rfl rfl rfl (by kernel_rfl) (by kernel_rfl) (Z ?_)
 refine AZ (AN rfl rfl (MO fuel a0 a1 0 z1 _ h):) (.one ⟨_,.done _,[(1,1)],[],?_⟩)
 try simp only [go_sem]
theorem NF (a0 a1) (z1:Option Nat) (r) (h:Fh a0 a1=some r):AG Tryz.prog 27 [.agg [.own 1],.int .i64 a1] [(1,⟨List.map Agent.ds a0.agents,z1,0,false⟩)] [] (.int .i64 r.1) [(1,⟨List.map Agent.ds r.2,z1,0,false⟩)] [] :=by
 unfold Fh at h
 refine Co mixed Tryz.func27 rfl rfl rfl (by kernel_rfl) (by kernel_rfl) (Z ?_)
 replace h:=AF h; obtain⟨u,w,h⟩:=h
 refine AP ⟨[],[(1,1)],[],[],[],true⟩ (by kernel_rfl) (J4 _ _ z1 _ w) (by kernel_rfl) (Z ?_)
 refine AB (Z ?_)
 cases h
 refine Bb (.done _) [(1,1)] [] ?_
 simp only [go_sem]
theorem NO (n:Nat):(∀a0 u w r,Ck n a0 u w=some r→A7 Tryz.prog Tryz.f149 [1,0,1,0] (.int .i64 r) ⟨[(0,.ro (List.map Port.ds a0)),(1,.int .i64 u),(5,.int .i64 w)],[],[]⟩):=by
 induction n with
 |zero=>exact((fun _ _ _ _ h=>by rw [Ck] at h; cases h))
 | succ n ih=>
  have ih0:=ih
  ·intro a0 u w r h
   rw [Ck] at h
   refine AS rfl rfl (Z ?_)
   refine Ag (Z ?_)
   refine AD h (fun h=>Z ?_) (fun h=>Z ?_)
   ·refine AB (Z ?_)
    replace h:=AF h; obtain⟨y,q,h⟩:=h
    refine AR q (Port.ds_len _) (Z ?_)
    refine AD h (fun h=>Z ?_) (fun h=>Z ?_)
    ·cases h
     simp only [go_sem]
    ·refine AB (Z ?_)
     replace h:=AF h; obtain⟨g,j,h⟩:=h
     refine AR j (Port.ds_len _) (Z ?_)
     refine AD h (fun h=>Z ?_) (fun h=>Z ?_)
     ·cases h
      simp only [go_sem]
     ·refine AB (Z ?_)
      refine AB (Z ?_)
      refine Am (AH rfl rfl (ih0 a0 (IntKind.i64.wrap ((IntKind.i64.wrap (u+1))+1)) (IntKind.i64.wrap (w+1)) _ h):) (.one ⟨_,.done _,[],[],?_⟩)
      try simp only [go_sem]
   ·refine AB (Z ?_)
    cases h
    simp only [go_sem]
theorem QK (a0 a1 r) (h:G7 a0 a1=some r):AC Tryz.prog 149 [.ro (List.map Port.ds a0),.int .i64 a1] (.int .i64 r):=by
 unfold G7 at h
 refine AY mixed Tryz.func149 rfl rfl rfl (by kernel_rfl) (by kernel_rfl) (Z ?_)
 refine AZ (AH rfl rfl (NO fuel a0 a1 0 _ h):) (.one ⟨_,.done _,[],[],?_⟩)
 try simp only [go_sem]
theorem MP (n:Nat):(∀a0 u w r,CS n a0 u w=some r→A7 Tryz.prog Tryz.f83 [1,0,1,0] (.int .i64 r) ⟨[(0,.ro (List.map Agent.ds a0)),(1,.int .i64 u),(5,.int .i64 w)],[],[]⟩):=by
 induction n with
 |zero=>exact((fun _ _ _ _ h=>by rw [CS] at h; cases h))
 | succ n ih=>
  have ih0:=ih
  ·intro a0 u w r h
   rw [CS] at h
   refine AS rfl rfl (Z ?_)
   refine Ag (Z ?_)
   refine AD h (fun h=>Z ?_) (fun h=>Z ?_)
   ·refine AB (Z ?_)
    replace h:=AF h; obtain⟨y,q,h⟩:=h
    refine AR q (Agent.ds_len _) (Z ?_)
    refine AD h (fun h=>Z ?_) (fun h=>Z ?_)
    ·cases h
     simp only [go_sem]
    ·refine AB (Z ?_)
     replace h:=AF h; obtain⟨g,j,h⟩:=h
     refine AR j (Agent.ds_len _) (Z ?_)
     refine AD h (fun h=>Z ?_) (fun h=>Z ?_)
     ·cases h
      simp only [go_sem]
     ·refine AB (Z ?_)
      replace h:=AF h; obtain⟨k,b,h⟩:=h
      refine AR b (Agent.ds_len _) (Z ?_)
      refine AD h (fun h=>Z ?_) (fun h=>Z ?_)
      ·cases h
       simp only [go_sem]
      ·refine AB (Z ?_)
       replace h:=AF h; obtain⟨d,c,h⟩:=h
       refine AR c (Agent.ds_len _) (Z ?_)
       replace h:=AF h; obtain⟨e,i,h⟩:=h
       refine AK (OT _ _ _ i) (Z ?_)
       refine AB (Z ?_)
       refine AD h (fun h=>Z ?_) (fun h=>Z ?_)
       ·cases h
        simp only [go_sem]
       ·refine AB (Z ?_)
        replace h:=AF h; obtain⟨l,t,h⟩:=h
        refine AR t (Agent.ds_len _) (Z ?_)
        replace h:=AF h; obtain⟨s,o,h⟩:=h
        refine AK (QK _ _ _ o) (Z ?_)
        refine AB (Z ?_)
        refine AD h (fun h=>Z ?_) (fun h=>Z ?_)
        ·cases h
         simp only [go_sem]
        ·refine AB (Z ?_)
         refine Am (AH rfl rfl (ih0 a0 s (IntKind.i64.wrap (w+1)) _ h):) (.one ⟨_,.done _,[],[],?_⟩)
         try simp only [go_sem]
   ·refine AB (Z ?_)
    cases h
    simp only [go_sem]
theorem Oe (a0 a1 r) (h:GC a0 a1=some r):AC Tryz.prog 83 [.ro (List.map Agent.ds a0),.int .i64 a1] (.int .i64 r):=by
 unfold GC at h
 refine AY mixed Tryz.func83 rfl rfl rfl (by kernel_rfl) (by kernel_rfl) (Z ?_)
 refine AZ (AH rfl rfl (MP fuel a0 a1 0 _ h):) (.one ⟨_,.done _,[],[],?_⟩)
 try simp only [go_sem]
theorem NE (a0 a1 r) (h:Ga a0 a1=some r):AC Tryz.prog 32 [.agg (Net.avs a0),.int .i64 a1] (.int .i64 r):=by
 unfold Ga at h
 refine AY mixed Tryz.func32 rfl rfl rfl (by kernel_rfl) (by kernel_rfl) (Z ?_)
 replace h:=AF h; obtain⟨u,w,h⟩:=h
 refine AK (Oe _ _ _ w) (Z ?_)
 refine AB (Z ?_)
 refine AD h (fun h=>Z ?_) (fun h=>Z ?_)
 ·cases h
  simp only [go_sem]
 ·refine AB (Z ?_)
  cases h
  simp only [go_sem]
theorem Nx (n:Nat):(∀u w y (z1:Option Nat) r,DF n u w y=some r→Dx Tryz.prog Tryz.f26 [1,0,1,0] (.int .i64 r.1) [(1,⟨List.map Net.ds r.2,z1,0,false⟩)] [] ⟨[(0,.own 1),(1,.int .i64 w),(5,.int .i64 y)],[(1,some ⟨List.map Net.ds u,z1,0,false⟩)],[]⟩):=by
 induction n with
 |zero=>exact((fun _ _ _ _ _ h=>by rw [DF] at h; cases h))
 | succ n ih=>
  have ih0:=ih
  ·intro u w y z1 r h
   rw [DF] at h
   refine BB rfl rfl (Z ?_)
   refine Ag (Z ?_)
   refine AD h (fun h=>Z ?_) (fun h=>Z ?_)
   ·refine AB (Z ?_)
    replace h:=AF h; obtain⟨q,g,h⟩:=h
    refine AR g (Net.ds_len _) (Z ?_)
    refine Ac (AU g) (Z ?_)
    replace h:=AF h; obtain⟨j,k,h⟩:=h
    replace h:=AF h; obtain⟨b,d,h⟩:=h
    refine AP ⟨[(3000080096,.sub 1 0 [(1,Int.toNat y,0)],none)],[(1,3000080096)],[],[],[],true⟩ (by kernel_rfl) (J4 _ _ none _ k) (by kernel_rfl) (Z ?_)
    refine Ac (D0 (r:=List.map Agent.ds q.agents) (AU g) (Net.ds_len _) (by simp only [go_sem,Net.ds_eq])) (Z ?_)
    refine BA ((List.map Net.ds u).set (Int.toNat y) [.gone]) ((GX (AU g) (d':=.sl (List.map Agent.ds q.agents)) (by simp only [go_sem,Net.ds_eq])).trans (by simp only [go_sem,Net.ds_eq])) (Z ?_)
    refine BW (Us (Ke (AU g)) rfl rfl) (Z ?_)
    refine BA (List.map Net.ds b) (((GX (Ke (AU g)) (d':=.gone) rfl).trans (List.set_set ..)).trans (by rw [← Az d]; simp only [List.map_set,go_sem,Net.ds_eq])) (Z ?_)
    refine AB (Z ?_)
    refine Am (AN rfl rfl (ih0 b j.1 (IntKind.i64.wrap (y+1)) z1 _ h):) (.one ⟨_,.done _,[(1,1)],[],?_⟩)
    try simp only [go_sem]
   ·refine AB (Z ?_)
    cases h
    refine Bb (.done _) [(1,1)] [] ?_
    simp only [go_sem]
theorem Qk (a0 a1) (z1:Option Nat) (r) (h:Gb a0 a1=some r):AG Tryz.prog 26 [.own 1,.int .i64 a1] [(1,⟨List.map Net.ds a0,z1,0,false⟩)] [] (.int .i64 r.1) [(1,⟨List.map Net.ds r.2,z1,0,false⟩)] [] :=by
 unfold Gb at h
 refine Co mixed Tryz.func26 rfl rfl rfl (by kernel_rfl) (by kernel_rfl) (Z ?_)
 refine AZ (AN rfl rfl (Nx fuel a0 a1 0 z1 _ h):) (.one ⟨_,.done _,[(1,1)],[],?_⟩)
 try simp only [go_sem]
theorem SP (a0 a1 r) (h:JD a0 a1=some r):AC Tryz.prog 175 [.ro (List.map Port.ds a0),.int .i64 a1] (.int .i64 r):=by
 unfold JD at h
 refine AY mixed Tryz.func175 rfl rfl rfl (by kernel_rfl) (by kernel_rfl) (Z ?_)
 refine AD h (fun h=>Z ?_) (fun h=>Z ?_)
 ·cases h
  simp only [go_sem]
 ·refine AB (Z ?_)
  cases h
  simp only [go_sem]
theorem SQ (a0 a1 r) (h:He a0 a1=some r):AC Tryz.prog 104 [.agg (Agent.avs a0),.int .i64 a1] (.int .i64 r):=by
 unfold He at h
 refine AY mixed Tryz.func104 rfl rfl rfl (by kernel_rfl) (by kernel_rfl) (Z ?_)
 replace h:=AF h; obtain⟨u,w,h⟩:=h
 refine AK (Qg _ _ _ w) (Z ?_)
 refine AB (Z ?_)
 refine AD h (fun h=>Z ?_) (fun h=>Z ?_)
 ·cases h
  simp only [go_sem]
 ·refine AB (Z ?_)
  replace h:=AF h; obtain⟨y,q,h⟩:=h
  refine AK (SP _ _ _ q) (Z ?_)
  refine AB (Z ?_)
  refine AD h (fun h=>Z ?_) (fun h=>Z ?_)
  ·cases h
   simp only [go_sem]
  ·refine AB (Z ?_)
   cases h
   simp only [go_sem]
theorem Ny (n:Nat):(∀a0 u w r,Ds n a0 u w=some r→A7 Tryz.prog Tryz.f56 [1,1,1,0,1,0] (.int .i64 r) ⟨[(0,.ro (List.map Agent.ds a0)),(1,.int .i64 u),(5,.int .i64 w)],[],[]⟩):=by
 induction n with
 |zero=>exact((fun _ _ _ _ h=>by rw [Ds] at h; cases h))
 | succ n ih=>
  have ih0:=ih
  ·intro a0 u w r h
   rw [Ds] at h
   refine AS rfl rfl (Z ?_)
   refine Ag (Z ?_)
   refine AD h (fun h=>Z ?_) (fun h=>Z ?_)
   ·refine AB (Z ?_)
    replace h:=AF h; obtain⟨y,q,h⟩:=h
    refine AR q (Agent.ds_len _) (Z ?_)
    replace h:=AF h; obtain⟨g,j,h⟩:=h
    refine AK (SQ _ _ _ j) (Z ?_)
    refine AB (Z ?_)
    refine AD h (fun h=>Z ?_) (fun h=>Z ?_)
    ·cases h
     simp only [go_sem]
    ·refine AB (Z ?_)
     refine Am (AH rfl rfl (ih0 a0 g (IntKind.i64.wrap (w+1)) _ h):) (.one ⟨_,.done _,[],[],?_⟩)
     try simp only [go_sem]
   ·refine AB (Z ?_)
    cases h
    simp only [go_sem]
theorem Qm (a0 a1 r) (h:H2 a0 a1=some r):AC Tryz.prog 56 [.ro (List.map Agent.ds a0),.int .i64 a1] (.int .i64 r):=by
 unfold H2 at h
 refine AY mixed Tryz.func56 rfl rfl rfl (by kernel_rfl) (by kernel_rfl) (Z ?_)
 refine AD h (fun h=>Z ?_) (fun h=>Z ?_)
 ·cases h
  simp only [go_sem]
 ·refine AB (Z ?_)
  refine AZ (AH rfl rfl (Ny fuel a0 (IntKind.i64.wrap (a1 - ((List.length a0:Nat):Int))) 0 _ h):) (.one ⟨_,.done _,[],[],?_⟩)
  try simp only [go_sem]
theorem QC (a0 a1 r) (h:Jk a0 a1=some r):AC Tryz.prog 14 [.agg (Net.avs a0),.int .i64 a1] (.int .i64 r):=by
 unfold Jk at h
 refine AY mixed Tryz.func14 rfl rfl rfl (by kernel_rfl) (by kernel_rfl) (Z ?_)
 replace h:=AF h; obtain⟨u,w,h⟩:=h
 refine AK (Qm _ _ _ w) (Z ?_)
 refine AB (Z ?_)
 refine AD h (fun h=>Z ?_) (fun h=>Z ?_)
 ·cases h
  simp only [go_sem]
 ·refine AB (Z ?_)
  cases h
  simp only [go_sem]
theorem QL (n:Nat):(∀a0 u w r,Eu n a0 u w=some r→A7 Tryz.prog Tryz.f13 [1,1,1,0,1,0] (.int .i64 r) ⟨[(0,.ro (List.map Net.ds a0)),(1,.int .i64 u),(5,.int .i64 w)],[],[]⟩):=by
 induction n with
 |zero=>exact((fun _ _ _ _ h=>by rw [Eu] at h; cases h))
 | succ n ih=>
  have ih0:=ih
  ·intro a0 u w r h
   rw [Eu] at h
   refine AS rfl rfl (Z ?_)
   refine Ag (Z ?_)
   refine AD h (fun h=>Z ?_) (fun h=>Z ?_)
   ·refine AB (Z ?_)
    replace h:=AF h; obtain⟨y,q,h⟩:=h
    refine AR q (Net.ds_len _) (Z ?_)
    replace h:=AF h; obtain⟨g,j,h⟩:=h
    refine AK (QC _ _ _ j) (Z ?_)
    refine AB (Z ?_)
    refine AD h (fun h=>Z ?_) (fun h=>Z ?_)
    ·cases h
     simp only [go_sem]
    ·refine AB (Z ?_)
     refine Am (AH rfl rfl (ih0 a0 g (IntKind.i64.wrap (w+1)) _ h):) (.one ⟨_,.done _,[],[],?_⟩)
     try simp only [go_sem]
   ·refine AB (Z ?_)
    cases h
    simp only [go_sem]
theorem T9 (a0 a1 r) (h:Kl a0 a1=some r):AC Tryz.prog 13 [.ro (List.map Net.ds a0),.int .i64 a1] (.int .i64 r):=by
 unfold Kl at h
 refine AY mixed Tryz.func13 rfl rfl rfl (by kernel_rfl) (by kernel_rfl) (Z ?_)
 refine AD h (fun h=>Z ?_) (fun h=>Z ?_)
 ·cases h
  simp only [go_sem]
 ·refine AB (Z ?_)
  refine AZ (AH rfl rfl (QL fuel a0 (IntKind.i64.wrap (a1 - ((List.length a0:Nat):Int))) 0 _ h):) (.one ⟨_,.done _,[],[],?_⟩)
  try simp only [go_sem]
theorem UC (a0 r) (h:JE a0=some r):AC Tryz.prog 218 [.agg (Port.avs a0)] (.agg (Port.rv r)):=by
 unfold JE at h
 refine AY mixed Tryz.func218 rfl rfl rfl (by kernel_rfl) (by kernel_rfl) (Z ?_)
 refine AB (Z ?_)
 refine AB (Z ?_)
 cases h
 simp only [go_sem]
theorem Of (n:Nat):(∀a0 u w r,EH n a0 u w=some r→A7 Tryz.prog Tryz.f180 [1,1,0,1,0] (.ow (some 2) (List.map Port.ds r)) ⟨[(0,.ro (List.map Port.ds a0)),(3,.own 1000001000),(4,.int .i64 w)],[(1000001000,some ⟨List.map Port.ds u,some 2,0,false⟩)],[]⟩):=by
 induction n with
 |zero=>exact((fun _ _ _ _ h=>by rw [EH] at h; cases h))
 | succ n ih=>
  have ih0:=ih
  ·intro a0 u w r h
   rw [EH] at h
   refine AS rfl rfl (Z ?_)
   refine Ag (Z ?_)
   refine AD h (fun h=>Z ?_) (fun h=>Z ?_)
   ·refine AB (Z ?_)
    replace h:=AF h; obtain⟨y,q,h⟩:=h
    refine AR q (Port.ds_len _) (Z ?_)
    replace h:=AF h; obtain⟨g,j,h⟩:=h
    refine AK (UC _ _ j) (Z ?_)
    replace h:=AF h; obtain⟨k,b,h⟩:=h
    refine AR b (Port.ds_len _) (Z ?_)
    replace h:=AF h; obtain⟨d,c,h⟩:=h
    refine Ac (AU b) (Z ?_)
    refine BA (List.map Port.ds d) (by rw [← Az c]; simp only [List.map_set,go_sem,Port.ds_eq]) (Z ?_)
    refine AB (Z ?_)
    refine Am (AH rfl rfl (ih0 a0 d (IntKind.i64.wrap (w+1)) _ h):) (.one ⟨_,.done _,[(1000001000,1000001000)],[],?_⟩)
    try simp only [go_sem]
   ·refine AB (Z ?_)
    cases h
    simp only [go_sem]
theorem SR (a0 r) (h:JF a0=some r):AC Tryz.prog 180 [.ro (List.map Port.ds a0)] (.ow (some 2) (List.map Port.ds r)):=by
 unfold JF at h
 refine AY mixed Tryz.func180 rfl rfl rfl (by kernel_rfl) (by kernel_rfl) (Z ?_)
 replace h:=AF h; obtain⟨u,w,h⟩:=h
 have hq_:=Hx w
 obtain⟨hv2002a,hv2002b,hv2002c⟩:=hq_
 refine BW (by refine⟨?_,?_,?_⟩ <;> omega) (Z ?_)
 refine BA (List.map Port.ds u) (by rw [← hv2002c]; simp only [List.map_replicate,go_sem,Port.ds_eq]) (Z ?_)
 refine AB (Z ?_)
 refine AZ (AH rfl rfl (Of fuel a0 u 0 _ h):) (.one ⟨_,.done _,[(1000001000,32032)],[],?_⟩)
 try simp only [go_sem]
theorem SS (a0 r) (h:Hf a0=some r):AC Tryz.prog 110 [.agg (Agent.avs a0)] (.agg (Agent.rv r)):=by
 unfold Hf at h
 refine AY mixed Tryz.func110 rfl rfl rfl (by kernel_rfl) (by kernel_rfl) (Z ?_)
 refine AB (Z ?_)
 refine AB (Z ?_)
 replace h:=AF h; obtain⟨u,w,h⟩:=h
 refine AK (Qh _ _ w) (Z ?_)
 refine AB (Z ?_)
 replace h:=AF h; obtain⟨y,q,h⟩:=h
 refine AK (SR _ _ q) (Z ?_)
 refine AB (Z ?_)
 cases h
 simp only [go_sem]
theorem Nz (n:Nat):(∀a0 u w r,Dt n a0 u w=some r→A7 Tryz.prog Tryz.f63 [1,1,0,1,0] (.ow (some 5) (List.map Agent.ds r)) ⟨[(0,.ro (List.map Agent.ds a0)),(3,.own 1000001000),(4,.int .i64 w)],[(1000001000,some ⟨List.map Agent.ds u,some 5,0,false⟩)],[]⟩):=by
 induction n with
 |zero=>exact((fun _ _ _ _ h=>by rw [Dt] at h; cases h))
 | succ n ih=>
  have ih0:=ih
  ·intro a0 u w r h
   rw [Dt] at h
   refine AS rfl rfl (Z ?_)
   refine Ag (Z ?_)
   refine AD h (fun h=>Z ?_) (fun h=>Z ?_)
   ·refine AB (Z ?_)
    replace h:=AF h; obtain⟨y,q,h⟩:=h
    refine AR q (Agent.ds_len _) (Z ?_)
    replace h:=AF h; obtain⟨g,j,h⟩:=h
    refine AK (SS _ _ j) (Z ?_)
    replace h:=AF h; obtain⟨k,b,h⟩:=h
    refine AR b (Agent.ds_len _) (Z ?_)
    replace h:=AF h; obtain⟨d,c,h⟩:=h
    refine Ac (AU b) (Z ?_)
    refine BA (List.map Agent.ds d) (by rw [← Az c]; simp only [List.map_set,go_sem,Agent.ds_eq]) (Z ?_)
    refine AB (Z ?_)
    refine Am (AH rfl rfl (ih0 a0 d (IntKind.i64.wrap (w+1)) _ h):) (.one ⟨_,.done _,[(1000001000,1000001000)],[],?_⟩)
    try simp only [go_sem]
   ·refine AB (Z ?_)
    cases h
    simp only [go_sem]
theorem Qn (a0 r) (h:H3 a0=some r):AC Tryz.prog 63 [.ro (List.map Agent.ds a0)] (.ow (some 5) (List.map Agent.ds r)):=by
 unfold H3 at h
 refine AY mixed Tryz.func63 rfl rfl rfl (by kernel_rfl) (by kernel_rfl) (Z ?_)
 replace h:=AF h; obtain⟨u,w,h⟩:=h
 have hq_:=Hx w
 obtain⟨hv2002a,hv2002b,hv2002c⟩:=hq_
 refine BW (by refine⟨?_,?_,?_⟩ <;> omega) (Z ?_)
 refine BA (List.map Agent.ds u) (by rw [← hv2002c]; simp only [List.map_replicate,go_sem,Agent.ds_eq]) (Z ?_)
 refine AB (Z ?_)
 refine AZ (AH rfl rfl (Nz fuel a0 u 0 _ h):) (.one ⟨_,.done _,[(1000001000,32032)],[],?_⟩)
 try simp only [go_sem]
theorem II (a0 r) (h:F6 a0=some r):AC Tryz.prog 18 [.agg (Net.avs a0)] (.agg (Net.rv r)):=by
 unfold F6 at h
 refine AY mixed Tryz.func18 rfl rfl rfl (by kernel_rfl) (by kernel_rfl) (Z ?_)
 refine AB (Z ?_)
 refine AB (Z ?_)
 replace h:=AF h; obtain⟨u,w,h⟩:=h
 refine AK (Qn _ _ w) (Z ?_)
 refine AB (Z ?_)
 cases h
 simp only [go_sem]
theorem QM (n:Nat):(∀a0 u w r,Ew n a0 u w=some r→A7 Tryz.prog Tryz.f17 [1,1,0,1,0] (.ow (some 1) (List.map Net.ds r)) ⟨[(0,.ro (List.map Net.ds a0)),(3,.own 1000001000),(4,.int .i64 w)],[(1000001000,some ⟨List.map Net.ds u,some 1,0,false⟩)],[]⟩):=by
 induction n with
 |zero=>exact((fun _ _ _ _ h=>by rw [Ew] at h; cases h))
 | succ n ih=>
  have ih0:=ih
  ·intro a0 u w r h
   rw [Ew] at h
   refine AS rfl rfl (Z ?_)
   refine Ag (Z ?_)
   refine AD h (fun h=>Z ?_) (fun h=>Z ?_)
   ·refine AB (Z ?_)
    replace h:=AF h; obtain⟨y,q,h⟩:=h
    refine AR q (Net.ds_len _) (Z ?_)
    replace h:=AF h; obtain⟨g,j,h⟩:=h
    refine AK (II _ _ j) (Z ?_)
    replace h:=AF h; obtain⟨k,b,h⟩:=h
    refine AR b (Net.ds_len _) (Z ?_)
    replace h:=AF h; obtain⟨d,c,h⟩:=h
    refine Ac (AU b) (Z ?_)
    refine BA (List.map Net.ds d) (by rw [← Az c]; simp only [List.map_set,go_sem,Net.ds_eq]) (Z ?_)
    refine AB (Z ?_)
    refine Am (AH rfl rfl (ih0 a0 d (IntKind.i64.wrap (w+1)) _ h):) (.one ⟨_,.done _,[(1000001000,1000001000)],[],?_⟩)
    try simp only [go_sem]
   ·refine AB (Z ?_)
    cases h
    simp only [go_sem]
theorem Ii (a0 r) (h:F5 a0=some r):AC Tryz.prog 17 [.ro (List.map Net.ds a0)] (.ow (some 1) (List.map Net.ds r)):=by
 unfold F5 at h
 refine AY mixed Tryz.func17 rfl rfl rfl (by kernel_rfl) (by kernel_rfl) (Z ?_)
 replace h:=AF h; obtain⟨u,w,h⟩:=h
 have hq_:=Hx w
 obtain⟨hv2002a,hv2002b,hv2002c⟩:=hq_
 refine BW (by refine⟨?_,?_,?_⟩ <;> omega) (Z ?_)
 refine BA (List.map Net.ds u) (by rw [← hv2002c]; simp only [List.map_replicate,go_sem,Net.ds_eq]) (Z ?_)
 refine AB (Z ?_)
 refine AZ (AH rfl rfl (QM fuel a0 u 0 _ h):) (.one ⟨_,.done _,[(1000001000,32032)],[],?_⟩)
 try simp only [go_sem]
theorem UD (a0 a1 r) (h:JG a0 a1=some r):AC Tryz.prog 222 [.agg (Port.avs a0),.agg (Port.avs a1)] (.bool r):=by
 unfold JG at h
 refine AY mixed Tryz.func222 rfl rfl rfl (by kernel_rfl) (by kernel_rfl) (Z ?_)
 refine AD h (fun h=>Z ?_) (fun h=>Z ?_)
 ·cases h
  simp only [go_sem]
 ·refine AB (Z ?_)
  refine AD h (fun h=>Z ?_) (fun h=>Z ?_)
  ·cases h
   simp only [go_sem]
  ·refine AB (Z ?_)
   cases h
   simp only [go_sem]
theorem Og (n:Nat):(∀a0 a1 u r,EI n a0 a1 u=some r→A7 Tryz.prog Tryz.f187 [1,1,0,1,0] (.bool r) ⟨[(0,.ro (List.map Port.ds a0)),(1,.ro (List.map Port.ds a1)),(5,.int .i64 u)],[],[]⟩):=by
 induction n with
 |zero=>exact((fun _ _ _ _ h=>by rw [EI] at h; cases h))
 | succ n ih=>
  have ih0:=ih
  ·intro a0 a1 u r h
   rw [EI] at h
   refine AS rfl rfl (Z ?_)
   refine Ag (Z ?_)
   refine AD h (fun h=>Z ?_) (fun h=>Z ?_)
   ·refine AB (Z ?_)
    refine Ae [] .fin (by kernel_rfl) (Z ?_)
    replace h:=AF h; obtain⟨w,y,h⟩:=h
    refine AR y (Port.ds_len _) (Z ?_)
    replace h:=AF h; obtain⟨q,g,h⟩:=h
    refine AR g (Port.ds_len _) (Z ?_)
    replace h:=AF h; obtain⟨j,k,h⟩:=h
    refine AK (UD _ _ _ k) (Z ?_)
    refine AB (Z ?_)
    refine AD h (fun h=>Z ?_) (fun h=>Z ?_)
    ·cases h
     simp only [go_sem]
    ·refine AB (Z ?_)
     refine Am (AH rfl rfl (ih0 a0 a1 (IntKind.i64.wrap (u+1)) _ h):) (.one ⟨_,.done _,[],[],?_⟩)
     try simp only [go_sem]
   ·refine AB (Z ?_)
    cases h
    simp only [go_sem]
theorem ST (a0 a1 r) (h:JH a0 a1=some r):AC Tryz.prog 187 [.ro (List.map Port.ds a0),.ro (List.map Port.ds a1)] (.bool r):=by
 unfold JH at h
 refine AY mixed Tryz.func187 rfl rfl rfl (by kernel_rfl) (by kernel_rfl) (Z ?_)
 refine AD h (fun h=>Z ?_) (fun h=>Z ?_)
 ·cases h
  simp only [go_sem]
 ·refine AB (Z ?_)
  refine AZ (AH rfl rfl (Og fuel a0 a1 0 _ h):) (.one ⟨_,.done _,[],[],?_⟩)
  try simp only [go_sem]
theorem SU (a0 a1 r) (h:Hg a0 a1=some r):AC Tryz.prog 119 [.agg (Agent.avs a0),.agg (Agent.avs a1)] (.bool r):=by
 unfold Hg at h
 refine AY mixed Tryz.func119 rfl rfl rfl (by kernel_rfl) (by kernel_rfl) (Z ?_)
 refine AD h (fun h=>Z ?_) (fun h=>Z ?_)
 ·cases h
  simp only [go_sem]
 ·refine AB (Z ?_)
  refine AD h (fun h=>Z ?_) (fun h=>Z ?_)
  ·cases h
   simp only [go_sem]
  ·refine AB (Z ?_)
   refine AD h (fun h=>Z ?_) (fun h=>Z ?_)
   ·cases h
    simp only [go_sem]
   ·refine AB (Z ?_)
    replace h:=AF h; obtain⟨u,w,h⟩:=h
    refine AK (Qi _ _ _ w) (Z ?_)
    refine AB (Z ?_)
    refine AD h (fun h=>Z ?_) (fun h=>Z ?_)
    ·cases h
     simp only [go_sem]
    ·refine AB (Z ?_)
     replace h:=AF h; obtain⟨y,q,h⟩:=h
     refine AK (ST _ _ _ q) (Z ?_)
     refine AB (Z ?_)
     refine AD h (fun h=>Z ?_) (fun h=>Z ?_)
     ·cases h
      simp only [go_sem]
     ·refine AB (Z ?_)
      cases h
      simp only [go_sem]
theorem N0 (n:Nat):(∀a0 a1 u r,Du n a0 a1 u=some r→A7 Tryz.prog Tryz.f69 [1,1,0,1,0] (.bool r) ⟨[(0,.ro (List.map Agent.ds a0)),(1,.ro (List.map Agent.ds a1)),(5,.int .i64 u)],[],[]⟩):=by
 induction n with
 |zero=>exact((fun _ _ _ _ h=>by rw [Du] at h; cases h))
 | succ n ih=>
  have ih0:=ih
  ·intro a0 a1 u r h
   rw [Du] at h
   refine AS rfl rfl (Z ?_)
   refine Ag (Z ?_)
   refine AD h (fun h=>Z ?_) (fun h=>Z ?_)
   ·refine AB (Z ?_)
    refine Ae [] .fin (by kernel_rfl) (Z ?_)
    replace h:=AF h; obtain⟨w,y,h⟩:=h
    refine AR y (Agent.ds_len _) (Z ?_)
    replace h:=AF h; obtain⟨q,g,h⟩:=h
    refine AR g (Agent.ds_len _) (Z ?_)
    replace h:=AF h; obtain⟨j,k,h⟩:=h
    refine AK (SU _ _ _ k) (Z ?_)
    refine AB (Z ?_)
    refine AD h (fun h=>Z ?_) (fun h=>Z ?_)
    ·cases h
     simp only [go_sem]
    ·refine AB (Z ?_)
     refine Am (AH rfl rfl (ih0 a0 a1 (IntKind.i64.wrap (u+1)) _ h):) (.one ⟨_,.done _,[],[],?_⟩)
     try simp only [go_sem]
   ·refine AB (Z ?_)
    cases h
    simp only [go_sem]
theorem Qo (a0 a1 r) (h:H4 a0 a1=some r):AC Tryz.prog 69 [.ro (List.map Agent.ds a0),.ro (List.map Agent.ds a1)] (.bool r):=by
 unfold H4 at h
 refine AY mixed Tryz.func69 rfl rfl rfl (by kernel_rfl) (by kernel_rfl) (Z ?_)
 refine AD h (fun h=>Z ?_) (fun h=>Z ?_)
 ·cases h
  simp only [go_sem]
 ·refine AB (Z ?_)
  refine AZ (AH rfl rfl (N0 fuel a0 a1 0 _ h):) (.one ⟨_,.done _,[],[],?_⟩)
  try simp only [go_sem]
theorem IJ (a0 a1 r) (h:FP a0 a1=some r):AC Tryz.prog 23 [.agg (Net.avs a0),.agg (Net.avs a1)] (.bool r):=by
 unfold FP at h
 refine AY mixed Tryz.func23 rfl rfl rfl (by kernel_rfl) (by kernel_rfl) (Z ?_)
 replace h:=AF h; obtain⟨u,w,h⟩:=h
 refine AK (Qo _ _ _ w) (Z ?_)
 refine AB (Z ?_)
 refine AD h (fun h=>Z ?_) (fun h=>Z ?_)
 ·cases h
  simp only [go_sem]
 ·refine AB (Z ?_)
  cases h
  simp only [go_sem]
theorem QN (n:Nat):(∀a0 a1 u r,Ex n a0 a1 u=some r→A7 Tryz.prog Tryz.f22 [1,1,0,1,0] (.bool r) ⟨[(0,.ro (List.map Net.ds a0)),(1,.ro (List.map Net.ds a1)),(5,.int .i64 u)],[],[]⟩):=by
 induction n with
 |zero=>exact((fun _ _ _ _ h=>by rw [Ex] at h; cases h))
 | succ n ih=>
  have ih0:=ih
  ·intro a0 a1 u r h
   rw [Ex] at h
   refine AS rfl rfl (Z ?_)
   refine Ag (Z ?_)
   refine AD h (fun h=>Z ?_) (fun h=>Z ?_)
   ·refine AB (Z ?_)
    refine Ae [] .fin (by kernel_rfl) (Z ?_)
    replace h:=AF h; obtain⟨w,y,h⟩:=h
    refine AR y (Net.ds_len _) (Z ?_)
    replace h:=AF h; obtain⟨q,g,h⟩:=h
    refine AR g (Net.ds_len _) (Z ?_)
    replace h:=AF h; obtain⟨j,k,h⟩:=h
    refine AK (IJ _ _ _ k) (Z ?_)
    refine AB (Z ?_)
    refine AD h (fun h=>Z ?_) (fun h=>Z ?_)
    ·cases h
     simp only [go_sem]
    ·refine AB (Z ?_)
     refine Am (AH rfl rfl (ih0 a0 a1 (IntKind.i64.wrap (u+1)) _ h):) (.one ⟨_,.done _,[],[],?_⟩)
     try simp only [go_sem]
   ·refine AB (Z ?_)
    cases h
    simp only [go_sem]
theorem T8 (a0 a1 r) (h:I9 a0 a1=some r):AC Tryz.prog 22 [.ro (List.map Net.ds a0),.ro (List.map Net.ds a1)] (.bool r):=by
 unfold I9 at h
 refine AY mixed Tryz.func22 rfl rfl rfl (by kernel_rfl) (by kernel_rfl) (Z ?_)
 refine AD h (fun h=>Z ?_) (fun h=>Z ?_)
 ·cases h
  simp only [go_sem]
 ·refine AB (Z ?_)
  refine AZ (AH rfl rfl (QN fuel a0 a1 0 _ h):) (.one ⟨_,.done _,[],[],?_⟩)
  try simp only [go_sem]
theorem OL (a0 r) (h:JA a0=some r):AC Tryz.prog 108 [.ro (List.map Au a0)] (.ow (some 1) (List.map Au r)):=by
 unfold JA at h
 refine AY mixed Tryz.func108 rfl rfl rfl (by kernel_rfl) (by kernel_rfl) (Z ?_)
 replace h:=AF h; obtain⟨u,w,h⟩:=h
 have hq_:=BX w
 obtain⟨hv2002a,hv2002b⟩:=hq_
 refine EP false (Z ?_)
 refine BW (Fx (by intro x; exact⟨rfl,by simp [go_sem,D.flat]⟩) _) (Z ?_)
 refine BW (by refine⟨?_,?_⟩ <;> (try simp only [List.length_map,List.length_append,List.length_cons,List.length_nil] at*) <;> (try unfold maxLen) <;> omega) (Z ?_)
 refine BA (List.map Au u) (by rw [← hv2002b]; simp only [List.map_append,List.map_cons,List.map_nil,List.nil_append,List.append_nil,go_sem,slD]) (Z ?_)
 refine AB (Z ?_)
 cases h
 simp only [go_sem]
theorem DL (a0 r) (h:s_l11OwnAgent a0=some r):AC Tryz.prog 122 [.rop (Agent.avs a0) 0] (.agg (Agent.rv r)):=by
 unfold s_l11OwnAgent at h
 refine AY mixed Tryz.func122 rfl rfl rfl (by kernel_rfl) (by kernel_rfl) (Z ?_)
 refine AB (Z ?_)
 refine Ae [false,false,false,false,false,false,false,false,false,false,false,false,false,false,false,false,false,false,false,false,false,false,false,false,true] (Tr.sq [24] .fin) (by kernel_rfl) (Z ?_)
 replace h:=AF h; obtain⟨u,w,h⟩:=h
 refine AK (OL _ _ w) (Z ?_)
 replace h:=AF h; obtain⟨y,q,h⟩:=h
 have hq_:=BX q
 obtain⟨hv2022a,hv2022b⟩:=hq_
 refine BW (by rfl) (Z ?_)
 refine EP false (Z ?_)
 refine BW (Fx (by intro x; exact⟨(Port.ds_len _),by simp [Port.ds_eq,D.flat]⟩) _) (Z ?_)
 refine BW (by refine⟨?_,?_⟩ <;> (try simp only [List.length_map,List.length_append,List.length_cons,List.length_nil] at*) <;> (try unfold maxLen) <;> omega) (Z ?_)
 refine BA (List.map Port.ds y) (by rw [← hv2022b]; simp only [List.nil_append]) (Z ?_)
 refine AB (Z ?_)
 cases h
 simp only [go_sem]
theorem Iu (n:Nat):(∀ (a0:List Int) (u:Int) (f1:(Int→Option Bool)) (g1:FuncId) (c1:List AV) (s1:Still c1) (h1:∀ (y0:Int) (q:Bool),f1 y0=some q→AC Tryz.prog g1 (.int .i64 y0::c1) (.bool q)) (r:Int),Bc n a0 u f1=some r→A7 Tryz.prog Tryz.f219 [1,0,1,0] (.int .i64 r) ⟨[(0,.ro (List.map Au a0)),(1,.fn g1 c1),(7,.int .i64 ((List.length a0:Nat):Int)),(8,.int .i64 u)],[],[]⟩):=by
 induction n with
 |zero=>exact((fun _ _ _ _ _ _ _ _ h=>by rw [Bc] at h; cases h))
 | succ n ih=>
  have ih0:=ih
  ·intro a0 u f1 g1 c1 s1 h1 r h
   rw [Bc] at h
   refine AS rfl rfl ?_
   try simp only [go_sem,s1.k,s1.r,s1.c,s1.p]
   refine Ag ?_
   try simp only [go_sem,s1.k,s1.r,s1.c,s1.p]
   refine AD h (fun h=>?_) (fun h=>?_)
   ·try simp only [go_sem,s1.k,s1.r,s1.c,s1.p]
    refine AB ?_
    try simp only [go_sem,s1.k,s1.r,s1.c,s1.p]
    replace h:=AF h; obtain⟨w,y,h⟩:=h
    refine AR y rfl ?_
    try simp only [go_sem,s1.k,s1.r,s1.c,s1.p]
    replace h:=AF h; obtain⟨g,j,h⟩:=h
    refine AK (h1 _ _ j) ?_
    try simp only [go_sem,s1.k,s1.r,s1.c,s1.p]
    refine AB ?_
    try simp only [go_sem,s1.k,s1.r,s1.c,s1.p]
    refine AD h (fun h=>?_) (fun h=>?_)
    ·try simp only [go_sem,s1.k,s1.r,s1.c,s1.p]
     cases h
     simp only [go_sem,s1.k,s1.r,s1.c,s1.p]
    ·try simp only [go_sem,s1.k,s1.r,s1.c,s1.p]
     refine AB ?_
     try simp only [go_sem,s1.k,s1.r,s1.c,s1.p]
     refine Am (AH rfl rfl (ih0 a0 (IntKind.i64.wrap (u+1)) f1 g1 c1 s1 h1 _ h):) (.one ⟨_,.done _,[],[],?_⟩)
     try simp only [go_sem,s1.k,s1.r,s1.c,s1.p]
   ·try simp only [go_sem,s1.k,s1.r,s1.c,s1.p]
    refine AB ?_
    try simp only [go_sem,s1.k,s1.r,s1.c,s1.p]
    cases h
    simp only [go_sem,s1.k,s1.r,s1.c,s1.p]
theorem KD (a0:List Int) (f1:(Int→Option Bool)) (g1:FuncId) (c1:List AV) (s1:Still c1) (h1:∀ (y0:Int) (q:Bool),f1 y0=some q→AC Tryz.prog g1 (.int .i64 y0::c1) (.bool q)) (r:Int) (h:EJ a0 f1=some r):AC Tryz.prog 219 [.ro (List.map Au a0),.fn g1 c1] (.int .i64 r):=by
 unfold EJ at h
 refine AY mixed Tryz.func219 rfl rfl rfl (by kernel_rfl) (by kernel_rfl) ?_
 try simp only [go_sem,s1.k,s1.r,s1.c,s1.p]
 refine AZ (AH rfl rfl (Iu fuel a0 0 f1 g1 c1 s1 h1 _ h):) (.one ⟨_,.done _,[],[],?_⟩)
 try simp only [go_sem,s1.k,s1.r,s1.c,s1.p]
theorem Iv (a0:List Int) (f1:(Int→Option Bool)) (g1:FuncId) (c1:List AV) (s1:Still c1) (h1:∀ (y0:Int) (q:Bool),f1 y0=some q→AC Tryz.prog g1 (.int .i64 y0::c1) (.bool q)) (r:Bool) (h:Bv a0 f1=some r):AC Tryz.prog 181 [.ro (List.map Au a0),.fn g1 c1] (.bool r):=by
 unfold Bv at h
 refine AY mixed Tryz.func181 rfl rfl rfl (by kernel_rfl) (by kernel_rfl) ?_
 try simp only [go_sem,s1.k,s1.r,s1.c,s1.p]
 replace h:=AF h; obtain⟨u,w,h⟩:=h
 refine AK (KD _ _ g1 c1 s1 h1 _ w) ?_
 try simp only [go_sem,s1.k,s1.r,s1.c,s1.p]
 refine AB ?_
 try simp only [go_sem,s1.k,s1.r,s1.c,s1.p]
 cases h
 simp only [go_sem,s1.k,s1.r,s1.c,s1.p]
theorem K9 (a0 r) (h:H5 a0=some r):AC Tryz.prog 241 [.int .i64 a0] (.bool r):=by
 unfold H5 at h
 refine AY mixed Tryz.func241 rfl rfl rfl (by kernel_rfl) (by kernel_rfl) (Z ?_)
 refine AD h (fun h=>Z ?_) (fun h=>Z ?_)
 ·refine AB (Z ?_)
  cases h
  simp only [go_sem]
 ·refine AB (Z ?_)
  cases h
  simp only [go_sem]
theorem HD (a0:Int) (u:Bool) (r:Int) (h:Dh a0 u=some r):A7 Tryz.prog Tryz.f231 [1,0,0,1,1,1] (.int .i64 r) ⟨[(0,.int .i64 a0),(18,.bool u)],[],[]⟩:=by
 unfold Dh at h
 refine AS rfl rfl (Z ?_)
 refine AD h (fun h=>Z ?_) (fun h=>Z ?_)
 ·cases h
  simp only [go_sem]
 ·refine AB (Z ?_)
  replace h:=AF h; obtain⟨w,y,h⟩:=h
  refine Ac y (Z ?_)
  cases h
  simp only [go_sem]
theorem HE (a0:Int) (a1:Int) (u:Bool) (r:Int) (h:C6 a0 a1 u=some r):A7 Tryz.prog Tryz.f231 [1,0,0,1] (.int .i64 r) ⟨[(0,.int .i64 a0),(1,.int .i64 a1),(5,.bool u)],[],[]⟩:=by
 unfold C6 at h
 refine AS rfl rfl (Z ?_)
 refine AD h (fun h=>Z ?_) (fun h=>Z ?_)
 ·cases h
  simp only [go_sem]
 ·replace h:=AF h; obtain⟨w,y,h⟩:=h
  refine AK (K9 _ _ y) (Z ?_)
  refine AD h (fun h=>Z ?_) (fun h=>Z ?_)
  ·refine AJ (AH rfl rfl (HD a0 true _ h):) (.one ⟨_,.done _,[],[],?_⟩)
   try simp only [go_sem]
  ·refine AD h (fun h=>Z ?_) (fun h=>Z ?_)
   ·refine AJ (AH rfl rfl (HD a0 true _ h):) (.one ⟨_,.done _,[],[],?_⟩)
    try simp only [go_sem]
   ·refine AJ (AH rfl rfl (HD a0 (!decide (a1=0)) _ h):) (.one ⟨_,.done _,[],[],?_⟩)
    try simp only [go_sem]
theorem SV (a0 a1 r) (h:Fk a0 a1=some r):AC Tryz.prog 231 [.int .i64 a0,.int .i64 a1] (.int .i64 r):=by
 unfold Fk at h
 refine AY mixed Tryz.func231 rfl rfl rfl (by kernel_rfl) (by kernel_rfl) (Z ?_)
 refine AD h (fun h=>Z ?_) (fun h=>Z ?_)
 ·refine AD h (fun h=>Z ?_) (fun h=>Z ?_)
  ·refine AJ (AH rfl rfl (HE a0 a1 (decide (a1≤3)) _ h):) (.one ⟨_,.done _,[],[],?_⟩)
   try simp only [go_sem]
  ·refine AJ (AH rfl rfl (HE a0 a1 false _ h):) (.one ⟨_,.done _,[],[],?_⟩)
   try simp only [go_sem]
 ·refine AJ (AH rfl rfl (HE a0 a1 false _ h):) (.one ⟨_,.done _,[],[],?_⟩)
  try simp only [go_sem]
theorem Qp (a0 a1 r) (h:H6 a0 a1=some r):AC Tryz.prog 232 [.int .i64 a0,.int .i64 a1] (.int .i64 r):=by
 unfold H6 at h
 refine AY mixed Tryz.func232 rfl rfl rfl (by kernel_rfl) (by kernel_rfl) (Z ?_)
 refine AD h (fun h=>Z ?_) (fun h=>Z ?_)
 ·cases h
  simp only [go_sem]
 ·refine AB (Z ?_)
  cases h
  simp only [go_sem]
theorem Ir (a0 r) (h:Do a0=some r):AC Tryz.prog 211 [.int .i64 a0] (.bool r):=by
 unfold Do at h
 refine AY mixed Tryz.func211 rfl rfl rfl (by kernel_rfl) (by kernel_rfl) (Z ?_)
 replace h:=AF h; obtain⟨u,w,h⟩:=h
 refine AK (K9 _ _ w) (Z ?_)
 refine AD h (fun h=>Z ?_) (fun h=>Z ?_)
 ·refine AD h (fun h=>Z ?_) (fun h=>Z ?_)
  ·refine AD h (fun h=>Z ?_) (fun h=>Z ?_)
   ·refine AB (Z ?_)
    cases h
    simp only [go_sem]
   ·refine AB (Z ?_)
    cases h
    simp only [go_sem]
  ·refine AB (Z ?_)
   cases h
   simp only [go_sem]
 ·refine AB (Z ?_)
  cases h
  simp only [go_sem]
theorem M6 (a0 r) (h:Fg a0=some r):AC Tryz.prog 247 [.int .i64 a0] (.bool r):=by
 unfold Fg at h
 refine AY mixed Tryz.func247 rfl rfl rfl (by kernel_rfl) (by kernel_rfl) (Z ?_)
 refine AD h (fun h=>Z ?_) (fun h=>Z ?_)
 ·refine AB (Z ?_)
  cases h
  simp only [go_sem]
 ·refine AB (Z ?_)
  cases h
  simp only [go_sem]
theorem GK (a0 a1 r) (h:DB a0 a1=some r):AC Tryz.prog 233 [.int .i64 a0,.int .i64 a1] (.bool r):=by
 unfold DB at h
 refine AY mixed Tryz.func233 rfl rfl rfl (by kernel_rfl) (by kernel_rfl) (Z ?_)
 replace h:=AF h; obtain⟨u,w,h⟩:=h
 refine AK (K9 _ _ w) (Z ?_)
 refine AD h (fun h=>Z ?_) (fun h=>Z ?_)
 ·refine AD h (fun h=>Z ?_) (fun h=>Z ?_)
  ·refine AB (Z ?_)
   cases h
   simp only [go_sem]
  ·replace h:=AF h; obtain⟨y,q,h⟩:=h
   refine AK (Ir _ _ q) (Z ?_)
   refine AD h (fun h=>Z ?_) (fun h=>Z ?_)
   ·replace h:=AF h; obtain⟨g,j,h⟩:=h
    refine AK (M6 _ _ j) (Z ?_)
    refine AB (Z ?_)
    cases h
    simp only [go_sem]
   ·refine AB (Z ?_)
    cases h
    simp only [go_sem]
 ·refine AB (Z ?_)
  cases h
  simp only [go_sem]
theorem J5 (a0 r) (h:E6 a0=some r):AC Tryz.prog 235 [.int .i64 a0] (.bool r):=by
 unfold E6 at h
 refine AY mixed Tryz.func235 rfl rfl rfl (by kernel_rfl) (by kernel_rfl) (Z ?_)
 refine AD h (fun h=>Z ?_) (fun h=>Z ?_)
 ·refine AB (Z ?_)
  cases h
  simp only [go_sem]
 ·refine AB (Z ?_)
  cases h
  simp only [go_sem]
theorem NP (a0 r) (h:Ey a0=some r):AC Tryz.prog 234 [.int .i64 a0] (.bool r):=by
 unfold Ey at h
 refine AY mixed Tryz.func234 rfl rfl rfl (by kernel_rfl) (by kernel_rfl) (Z ?_)
 replace h:=AF h; obtain⟨u,w,h⟩:=h
 refine AK (J5 _ _ w) (Z ?_)
 refine AB (Z ?_)
 cases h
 simp only [go_sem]
theorem QO (a0 r) (h:LP a0=some r):AC Tryz.prog 236 [.int .i64 a0] (.bool r):=by
 unfold LP at h
 refine AY mixed Tryz.func236 rfl rfl rfl (by kernel_rfl) (by kernel_rfl) (Z ?_)
 refine AD h (fun h=>Z ?_) (fun h=>Z ?_)
 ·refine AB (Z ?_)
  cases h
  simp only [go_sem]
 ·refine AB (Z ?_)
  cases h
  simp only [go_sem]
theorem J6 (a0 r) (h:E7 a0=some r):AC Tryz.prog 237 [.int .i64 a0] (.bool r):=by
 unfold E7 at h
 refine AY mixed Tryz.func237 rfl rfl rfl (by kernel_rfl) (by kernel_rfl) (Z ?_)
 refine AD h (fun h=>Z ?_) (fun h=>Z ?_)
 ·refine AB (Z ?_)
  cases h
  simp only [go_sem]
 ·refine AB (Z ?_)
  cases h
  simp only [go_sem]
theorem A0 (u:Bool) (w:Bool) (r:Bool) (h:As u w=some r):A7 Tryz.prog Tryz.f201 [1,1,1,1,1] (.bool r) ⟨[(3,.bool u),(4,.bool w)],[],[]⟩:=by
 unfold As at h
 refine AS rfl rfl (Z ?_)
 refine AD h (fun h=>Z ?_) (fun h=>Z ?_)
 ·refine AB (Z ?_)
  cases h
  simp only [go_sem]
 ·refine AB (Z ?_)
  cases h
  simp only [go_sem]
theorem FY (a0:Agent) (u:Bool) (r:Bool) (h:B5 a0 u=some r):A7 Tryz.prog Tryz.f201 [1,0,1] (.bool r) ⟨[(1,.box 1000000500 0),(32,.bool u)],[],[(1000000500,some [.int .i64 a0.kind,.int .i64 a0.level,.int .i64 a0.value,.ro (List.map Au a0.data),.ro (List.map Port.ds a0.ports)])]⟩:=by
 unfold B5 at h
 refine AS rfl rfl (Z ?_)
 refine AD h (fun h=>Z ?_) (fun h=>Z ?_)
 ·cases h
  simp only [go_sem]
 ·refine AB (Z ?_)
  refine Ae [] .fin (by kernel_rfl) (Z ?_)
  refine AB (Z ?_)
  replace h:=AF h; obtain⟨w,y,h⟩:=h
  refine AK (Iv _ _ 234 [] (Still.of rfl) (fun y0 q hq=>NP y0  q hq) _ y) (Z ?_)
  refine AB (Z ?_)
  refine AD h (fun h=>Z ?_) (fun h=>Z ?_)
  ·replace h:=AF h; obtain⟨g,j,h⟩:=h
   refine AK (QO _ _ j) (Z ?_)
   refine AJ (AH rfl rfl (A0 g (decide (((List.length a0.data:Nat):Int)=0)) _ h):) (.one ⟨_,.done _,[],[],?_⟩)
   try simp only [go_sem]
  ·refine AD h (fun h=>Z ?_) (fun h=>Z ?_)
   ·replace h:=AF h; obtain⟨k,b,h⟩:=h
    refine AK (J6 _ _ b) (Z ?_)
    refine AJ (AH rfl rfl (A0 k (decide (((List.length a0.data:Nat):Int)=0)) _ h):) (.one ⟨_,.done _,[],[],?_⟩)
    try simp only [go_sem]
   ·refine AD h (fun h=>Z ?_) (fun h=>Z ?_)
    ·replace h:=AF h; obtain⟨d,c,h⟩:=h
     refine AK (J6 _ _ c) (Z ?_)
     refine AD h (fun h=>Z ?_) (fun h=>Z ?_)
     ·refine AD h (fun h=>Z ?_) (fun h=>Z ?_)
      ·replace h:=AF h; obtain⟨e,i,h⟩:=h
       refine AR i rfl (Z ?_)
       replace h:=AF h; obtain⟨l,t,h⟩:=h
       refine AK (QO _ _ t) (Z ?_)
       refine AB (Z ?_)
       cases h
       simp only [go_sem]
      ·refine AB (Z ?_)
       cases h
       simp only [go_sem]
     ·refine AB (Z ?_)
      cases h
      simp only [go_sem]
    ·refine AD h (fun h=>Z ?_) (fun h=>Z ?_)
     ·refine AD h (fun h=>Z ?_) (fun h=>Z ?_)
      ·refine AJ (AH rfl rfl (A0 (decide (a0.value<4)) (decide (((List.length a0.data:Nat):Int)=0)) _ h):) (.one ⟨_,.done _,[],[],?_⟩)
       try simp only [go_sem]
      ·refine AJ (AH rfl rfl (A0 false (decide (((List.length a0.data:Nat):Int)=0)) _ h):) (.one ⟨_,.done _,[],[],?_⟩)
       try simp only [go_sem]
     ·refine AD h (fun h=>Z ?_) (fun h=>Z ?_)
      ·refine AD h (fun h=>Z ?_) (fun h=>Z ?_)
       ·refine AD h (fun h=>Z ?_) (fun h=>Z ?_)
        ·refine AJ (AH rfl rfl (A0 (decide (a0.value=0)) (!w) _ h):) (.one ⟨_,.done _,[],[],?_⟩)
         try simp only [go_sem]
        ·refine AJ (AH rfl rfl (A0 (decide (a0.value=0)) false _ h):) (.one ⟨_,.done _,[],[],?_⟩)
         try simp only [go_sem]
       ·refine AJ (AH rfl rfl (A0 (decide (a0.value=0)) false _ h):) (.one ⟨_,.done _,[],[],?_⟩)
        try simp only [go_sem]
      ·refine AD h (fun h=>Z ?_) (fun h=>Z ?_)
       ·refine AD h (fun h=>Z ?_) (fun h=>Z ?_)
        ·refine AJ (AH rfl rfl (A0 (decide (a0.value=0)) (!w) _ h):) (.one ⟨_,.done _,[],[],?_⟩)
         try simp only [go_sem]
        ·refine AJ (AH rfl rfl (A0 (decide (a0.value=0)) false _ h):) (.one ⟨_,.done _,[],[],?_⟩)
         try simp only [go_sem]
       ·refine AD h (fun h=>Z ?_) (fun h=>Z ?_)
        ·replace h:=AF h; obtain⟨s,o,h⟩:=h
         refine AK (J5 _ _ o) (Z ?_)
         refine AJ (AH rfl rfl (A0 s (decide (((List.length a0.data:Nat):Int)=0)) _ h):) (.one ⟨_,.done _,[],[],?_⟩)
         try simp only [go_sem]
        ·refine AJ (AH rfl rfl (A0 (decide (a0.value=0)) (decide (((List.length a0.data:Nat):Int)=0)) _ h):) (.one ⟨_,.done _,[],[],?_⟩)
         try simp only [go_sem]
theorem Oh (a0 r) (h:GD a0=some r):AC Tryz.prog 201 [.agg (Agent.avs a0)] (.bool r):=by
 unfold GD at h
 refine AY mixed Tryz.func201 rfl rfl rfl (by kernel_rfl) (by kernel_rfl) (Z ?_)
 refine Ae [] .fin (by kernel_rfl) (Z ?_)
 refine AD h (fun h=>Z ?_) (fun h=>Z ?_)
 ·refine AJ (AH rfl rfl (FY a0 true _ h):) (.one ⟨_,.done _,[],[(1000000500,1000)],?_⟩)
  try simp only [go_sem]
 ·replace h:=AF h; obtain⟨u,w,h⟩:=h
  refine AK (Qp _ _ _ w) (Z ?_)
  replace h:=AF h; obtain⟨y,q,h⟩:=h
  refine AK (SV _ _ _ q) (Z ?_)
  refine AD h (fun h=>Z ?_) (fun h=>Z ?_)
  ·refine AJ (AH rfl rfl (FY a0 true _ h):) (.one ⟨_,.done _,[],[(1000000500,1000)],?_⟩)
   try simp only [go_sem]
  ·replace h:=AF h; obtain⟨g,j,h⟩:=h
   refine AK (GK _ _ _ j) (Z ?_)
   refine AJ (AH rfl rfl (FY a0 (!g) _ h):) (.one ⟨_,.done _,[],[(1000000500,1000)],?_⟩)
   try simp only [go_sem]
theorem MQ (n:Nat):(∀a0 u r,CH n a0 u=some r→A7 Tryz.prog Tryz.f152 [1,1,0,1,0] (.bool r) ⟨[(13,.ro (List.map Agent.ds a0)),(14,.int .i64 ((List.length a0:Nat):Int)),(15,.int .i64 u)],[],[]⟩)∧
    (∀a0 u w r,DR n a0 u w=some r→A7 Tryz.prog Tryz.f152 [1,1,0,1,0,0,1,1,0,0,1,1] (.bool r) ⟨[(13,.ro (List.map Agent.ds a0)),(14,.int .i64 ((List.length a0:Nat):Int)),(15,.int .i64 u),(30,.bool w)],[],[]⟩):=by
 induction n with
 |zero=>exact⟨(fun _ _ _ h=>by rw [CH] at h; cases h),(fun _ _ _ _ h=>by rw [DR] at h; cases h)⟩
 | succ n ih=>
  obtain⟨ih0,ih1⟩:=ih
  refine⟨?_,?_⟩
  ·intro a0 u r h
   rw [CH] at h
   refine AS rfl rfl (Z ?_)
   refine Ag (Z ?_)
   refine AD h (fun h=>Z ?_) (fun h=>Z ?_)
   ·refine AB (Z ?_)
    replace h:=AF h; obtain⟨y,q,h⟩:=h
    refine AR q (Agent.ds_len _) (Z ?_)
    refine AB (Z ?_)
    replace h:=AF h; obtain⟨g,j,h⟩:=h
    refine AK (Oh _ _ j) (Z ?_)
    refine AD h (fun h=>Z ?_) (fun h=>Z ?_)
    ·refine AJ (AH rfl rfl (ih1 a0 u true _ h):) (.one ⟨_,.done _,[],[],?_⟩)
     try simp only [go_sem]
    ·refine AJ (AH rfl rfl (ih1 a0 u (!((decide (y.kind=1)) == (decide (u=0)))) _ h):) (.one ⟨_,.done _,[],[],?_⟩)
     try simp only [go_sem]
   ·refine AB (Z ?_)
    cases h
    simp only [go_sem]
  ·intro a0 u w r h
   rw [DR] at h
   refine AS rfl rfl (Z ?_)
   refine AD h (fun h=>Z ?_) (fun h=>Z ?_)
   ·cases h
    simp only [go_sem]
   ·refine AB (Z ?_)
    refine Am (AH rfl rfl (ih0 a0 (IntKind.i64.wrap (u+1)) _ h):) (.one ⟨_,.done _,[],[],?_⟩)
    try simp only [go_sem]
theorem NQ (n:Nat):(∀a0 u r,CH n a0 u=some r→A7 Tryz.prog Tryz.f152 [1,1,0,1,0] (.bool r) ⟨[(13,.ro (List.map Agent.ds a0)),(14,.int .i64 ((List.length a0:Nat):Int)),(15,.int .i64 u)],[],[]⟩):=(MQ n).1
theorem Im (a0:List Agent) (u:Bool) (r:Bool) (h:D4 a0 u=some r):A7 Tryz.prog Tryz.f152 [1,0,1] (.bool r) ⟨[(0,.ro (List.map Agent.ds a0)),(12,.bool u)],[],[]⟩:=by
 unfold D4 at h
 refine AS rfl rfl (Z ?_)
 refine AD h (fun h=>Z ?_) (fun h=>Z ?_)
 ·cases h
  simp only [go_sem]
 ·refine AB (Z ?_)
  refine AZ (AH rfl rfl (NQ fuel a0 0 _ h):) (.one ⟨_,.done _,[],[],?_⟩)
  try simp only [go_sem]
theorem QP (a0 r) (h:G8 a0=some r):AC Tryz.prog 152 [.ro (List.map Agent.ds a0)] (.bool r):=by
 unfold G8 at h
 refine AY mixed Tryz.func152 rfl rfl rfl (by kernel_rfl) (by kernel_rfl) (Z ?_)
 refine AD h (fun h=>Z ?_) (fun h=>Z ?_)
 ·refine AJ (AH rfl rfl (Im a0 true _ h):) (.one ⟨_,.done _,[],[],?_⟩)
  try simp only [go_sem]
 ·refine AJ (AH rfl rfl (Im a0 (decide (600<((List.length a0:Nat):Int))) _ h):) (.one ⟨_,.done _,[],[],?_⟩)
  try simp only [go_sem]
theorem HF (n:Nat):(∀ (a0:List Port) (u:Int) (f1:(Port→Option Bool)) (g1:FuncId) (c1:List AV) (s1:Still c1) (h1:∀ (y0:Port) (q:Bool),f1 y0=some q→AC Tryz.prog g1 (.agg (Port.avs y0)::c1) (.bool q)) (r:Int),A9 n a0 u f1=some r→A7 Tryz.prog Tryz.f202 [1,0,1,0] (.int .i64 r) ⟨[(0,.ro (List.map Port.ds a0)),(1,.fn g1 c1),(7,.int .i64 ((List.length a0:Nat):Int)),(8,.int .i64 u)],[],[]⟩):=by
 induction n with
 |zero=>exact((fun _ _ _ _ _ _ _ _ h=>by rw [A9] at h; cases h))
 | succ n ih=>
  have ih0:=ih
  ·intro a0 u f1 g1 c1 s1 h1 r h
   rw [A9] at h
   refine AS rfl rfl ?_
   try simp only [go_sem,s1.k,s1.r,s1.c,s1.p]
   refine Ag ?_
   try simp only [go_sem,s1.k,s1.r,s1.c,s1.p]
   refine AD h (fun h=>?_) (fun h=>?_)
   ·try simp only [go_sem,s1.k,s1.r,s1.c,s1.p]
    refine AB ?_
    try simp only [go_sem,s1.k,s1.r,s1.c,s1.p]
    replace h:=AF h; obtain⟨w,y,h⟩:=h
    refine AR y (Port.ds_len _) ?_
    try simp only [go_sem,s1.k,s1.r,s1.c,s1.p]
    replace h:=AF h; obtain⟨g,j,h⟩:=h
    refine AK (h1 _ _ j) ?_
    try simp only [go_sem,s1.k,s1.r,s1.c,s1.p]
    refine AB ?_
    try simp only [go_sem,s1.k,s1.r,s1.c,s1.p]
    refine AD h (fun h=>?_) (fun h=>?_)
    ·try simp only [go_sem,s1.k,s1.r,s1.c,s1.p]
     cases h
     simp only [go_sem,s1.k,s1.r,s1.c,s1.p]
    ·try simp only [go_sem,s1.k,s1.r,s1.c,s1.p]
     refine AB ?_
     try simp only [go_sem,s1.k,s1.r,s1.c,s1.p]
     refine Am (AH rfl rfl (ih0 a0 (IntKind.i64.wrap (u+1)) f1 g1 c1 s1 h1 _ h):) (.one ⟨_,.done _,[],[],?_⟩)
     try simp only [go_sem,s1.k,s1.r,s1.c,s1.p]
   ·try simp only [go_sem,s1.k,s1.r,s1.c,s1.p]
    refine AB ?_
    try simp only [go_sem,s1.k,s1.r,s1.c,s1.p]
    cases h
    simp only [go_sem,s1.k,s1.r,s1.c,s1.p]
theorem IV (a0:List Port) (f1:(Port→Option Bool)) (g1:FuncId) (c1:List AV) (s1:Still c1) (h1:∀ (y0:Port) (q:Bool),f1 y0=some q→AC Tryz.prog g1 (.agg (Port.avs y0)::c1) (.bool q)) (r:Int) (h:C7 a0 f1=some r):AC Tryz.prog 202 [.ro (List.map Port.ds a0),.fn g1 c1] (.int .i64 r):=by
 unfold C7 at h
 refine AY mixed Tryz.func202 rfl rfl rfl (by kernel_rfl) (by kernel_rfl) ?_
 try simp only [go_sem,s1.k,s1.r,s1.c,s1.p]
 refine AZ (AH rfl rfl (HF fuel a0 0 f1 g1 c1 s1 h1 _ h):) (.one ⟨_,.done _,[],[],?_⟩)
 try simp only [go_sem,s1.k,s1.r,s1.c,s1.p]
theorem HG (a0:List Port) (f1:(Port→Option Bool)) (g1:FuncId) (c1:List AV) (s1:Still c1) (h1:∀ (y0:Port) (q:Bool),f1 y0=some q→AC Tryz.prog g1 (.agg (Port.avs y0)::c1) (.bool q)) (r:Bool) (h:Bo a0 f1=some r):AC Tryz.prog 153 [.ro (List.map Port.ds a0),.fn g1 c1] (.bool r):=by
 unfold Bo at h
 refine AY mixed Tryz.func153 rfl rfl rfl (by kernel_rfl) (by kernel_rfl) ?_
 try simp only [go_sem,s1.k,s1.r,s1.c,s1.p]
 replace h:=AF h; obtain⟨u,w,h⟩:=h
 refine AK (IV _ _ g1 c1 s1 h1 _ w) ?_
 try simp only [go_sem,s1.k,s1.r,s1.c,s1.p]
 refine AB ?_
 try simp only [go_sem,s1.k,s1.r,s1.c,s1.p]
 cases h
 simp only [go_sem,s1.k,s1.r,s1.c,s1.p]
theorem MR (n:Nat):(∀a0 u w r,By n a0 u w=some r→A7 Tryz.prog Tryz.f154 [1,1,0,1,0] (.ow (some 2) (List.map Port.ds r)) ⟨[(3,.own 1000000000),(10,.ro (List.map Agent.ds a0.agents)),(11,.int .i64 ((List.length a0.agents:Nat):Int)),(12,.int .i64 w)],[(1000000000,some ⟨List.map Port.ds u,some 2,0,false⟩)],[]⟩)∧
    (∀a0 w y q g r,Cl n a0 w y q g=some r→A7 Tryz.prog Tryz.f154 [1,1,0,1,0,0,1,1,0,0,1,1,0] (.ow (some 2) (List.map Port.ds r)) ⟨[(3,.own 1000004000),(4,.int .i64 w),(10,.ro (List.map Agent.ds a0.agents)),(11,.int .i64 ((List.length a0.agents:Nat):Int)),(12,.int .i64 w),(19,.int .i64 ((List.length y.ports:Nat):Int)),(20,.int .i64 g)],[(1000004000,some ⟨List.map Port.ds q,some 2,0,false⟩)],[]⟩):=by
 induction n with
 |zero=>exact⟨(fun _ _ _ _ h=>by rw [By] at h; cases h),(fun _ _ _ _ _ _ h=>by rw [Cl] at h; cases h)⟩
 | succ n ih=>
  obtain⟨ih0,ih1⟩:=ih
  refine⟨?_,?_⟩
  ·intro a0 u w r h
   rw [By] at h
   refine AS rfl rfl (Z ?_)
   refine Ag (Z ?_)
   refine AD h (fun h=>Z ?_) (fun h=>Z ?_)
   ·refine AB (Z ?_)
    replace h:=AF h; obtain⟨y,j,h⟩:=h
    refine AR j (Agent.ds_len _) (Z ?_)
    refine AB (Z ?_)
    refine AZ (AH rfl rfl (ih1 a0 w y u 0 _ h):) (.one ⟨_,.done _,[(1000004000,1000000000)],[],?_⟩)
    try simp only [go_sem]
   ·refine AB (Z ?_)
    cases h
    simp only [go_sem]
  ·intro a0 w y q g r h
   rw [Cl] at h
   refine AS rfl rfl (Z ?_)
   refine Ag (Z ?_)
   refine AD h (fun h=>Z ?_) (fun h=>Z ?_)
   ·refine AB (Z ?_)
    replace h:=AF h; obtain⟨k,b,h⟩:=h
    have hq_:=BX b
    obtain⟨hv9005a,hv9005b⟩:=hq_
    refine EP false (Z ?_)
    refine BW (by refine⟨?_,?_⟩ <;> (try simp only [List.length_map,List.length_append,List.length_cons,List.length_nil] at*) <;> (try unfold maxLen) <;> omega) (Z ?_)
    refine BA (List.map Port.ds k) (by rw [← hv9005b]; simp only [List.map_append,List.map_cons,List.map_nil,List.nil_append,List.append_nil,go_sem,Port.ds_eq]) (Z ?_)
    refine AB (Z ?_)
    refine Am (AH rfl rfl (ih1 a0 w y k (IntKind.i64.wrap (g+1)) _ h):) (.one ⟨_,.done _,[(1000004000,144080)],[],?_⟩)
    try simp only [go_sem]
   ·refine AB (Z ?_)
    refine Am (AH rfl rfl (ih0 a0 q (IntKind.i64.wrap (w+1)) _ h):) (.one ⟨_,.done _,[(1000000000,1000004000)],[],?_⟩)
    try simp only [go_sem]
theorem NR (n:Nat):(∀a0 u w r,By n a0 u w=some r→A7 Tryz.prog Tryz.f154 [1,1,0,1,0] (.ow (some 2) (List.map Port.ds r)) ⟨[(3,.own 1000000000),(10,.ro (List.map Agent.ds a0.agents)),(11,.int .i64 ((List.length a0.agents:Nat):Int)),(12,.int .i64 w)],[(1000000000,some ⟨List.map Port.ds u,some 2,0,false⟩)],[]⟩):=(MR n).1
theorem QQ (a0 r) (h:G9 a0=some r):AC Tryz.prog 154 [.rop (Net.avs a0) 0] (.ow (some 2) (List.map Port.ds r)):=by
 unfold G9 at h
 refine AY mixed Tryz.func154 rfl rfl rfl (by kernel_rfl) (by kernel_rfl) (Z ?_)
 refine AZ (AH rfl rfl (NR fuel a0 [] 0 _ h):) (.one ⟨_,.slot 3 2000000000 (some 2) false (by simp only [go_sem]) (by simp only [go_sem]) (.done _),[(1000000000,2000000000)],[],?_⟩)
 simp only [go_sem]
 all_goals try rfl
theorem Ed (a0 a1 r) (h:Ct a0 a1=some r):AC Tryz.prog 156 [.rop (Net.avs a0) 0,.agg (Port.avs a1)] (.agg (Port.rv r)):=by
 unfold Ct at h
 refine AY mixed Tryz.func156 rfl rfl rfl (by kernel_rfl) (by kernel_rfl) (Z ?_)
 refine AB (Z ?_)
 refine Ae [false,false,false,false,false,false,false,false,false,false,false,false,false,true] (Tr.sq [13] .fin) (by kernel_rfl) (Z ?_)
 replace h:=AF h; obtain⟨u,w,h⟩:=h
 refine AR w (Agent.ds_len _) (Z ?_)
 replace h:=AF h; obtain⟨y,q,h⟩:=h
 refine AR q (Port.ds_len _) (Z ?_)
 refine AB (Z ?_)
 cases h
 simp only [go_sem]
theorem SW (a0 a1 r) (h:JI a0 a1=some r):AC Tryz.prog 157 [.ro (List.map Agent.ds a0),.agg (Port.avs a1)] (.bool r):=by
 unfold JI at h
 refine AY mixed Tryz.func157 rfl rfl rfl (by kernel_rfl) (by kernel_rfl) (Z ?_)
 refine Ae [] .fin (by kernel_rfl) (Z ?_)
 refine AD h (fun h=>Z ?_) (fun h=>Z ?_)
 ·refine AD h (fun h=>Z ?_) (fun h=>Z ?_)
  ·refine AD h (fun h=>Z ?_) (fun h=>Z ?_)
   ·replace h:=AF h; obtain⟨u,w,h⟩:=h
    refine AR w (Agent.ds_len _) (Z ?_)
    refine AB (Z ?_)
    cases h
    simp only [go_sem]
   ·refine AB (Z ?_)
    cases h
    simp only [go_sem]
  ·refine AB (Z ?_)
   cases h
   simp only [go_sem]
 ·refine AB (Z ?_)
  cases h
  simp only [go_sem]
theorem Oi (a0 a1 r) (h:GE a0 a1=some r):AC Tryz.prog 155 [.agg (Port.avs a0),.rop (Net.avs a1) 0] (.bool r):=by
 unfold GE at h
 refine AY mixed Tryz.func155 rfl rfl rfl (by kernel_rfl) (by kernel_rfl) (Z ?_)
 replace h:=AF h; obtain⟨u,w,h⟩:=h
 refine AK (Ed _ _ _ w) (Z ?_)
 refine AB (Z ?_)
 refine Ae [] .fin (by kernel_rfl) (Z ?_)
 refine AD h (fun h=>Z ?_) (fun h=>Z ?_)
 ·refine AB (Z ?_)
  cases h
  simp only [go_sem]
 ·replace h:=AF h; obtain⟨y,q,h⟩:=h
  refine AK (SW _ _ _ q) (Z ?_)
  refine AD h (fun h=>Z ?_) (fun h=>Z ?_)
  ·refine AB (Z ?_)
   cases h
   simp only [go_sem]
  ·replace h:=AF h; obtain⟨g,j,h⟩:=h
   refine AK (Ed _ _ _ j) (Z ?_)
   refine AB (Z ?_)
   cases h
   simp only [go_sem]
theorem Li (a0 r) (h:GZ a0=some r):AC Tryz.prog 86 [.agg (Net.avs a0)] (.bool r):=by
 unfold GZ at h
 refine AY mixed Tryz.func86 rfl rfl rfl (by kernel_rfl) (by kernel_rfl) (Z ?_)
 replace h:=AF h; obtain⟨u,w,h⟩:=h
 refine AK (QP _ _ w) (Z ?_)
 refine AB (Z ?_)
 refine AD h (fun h=>Z ?_) (fun h=>Z ?_)
 ·cases h
  simp only [go_sem]
 ·refine AB (Z ?_)
  replace h:=AF h; obtain⟨y,g,h⟩:=h
  refine AK (QQ _ _ g) (Z ?_)
  replace h:=AF h; obtain⟨j,k,h⟩:=h
  refine AK (HG _ _ 155 [.rop [.ro (List.map Agent.ds a0.agents)] 0] (Still.of (by simp only [FT,GO,Bool.and_true,Bool.true_and,Bool.and_self])) (fun y0 q hq=>Oi y0 _ q hq) _ k) (Z ?_)
  refine AB (Z ?_)
  cases h
  simp only [go_sem]
theorem Br (a0 a1 a2 r) (h:Cq a0 a1 a2=some r):AC Tryz.prog 59 [.int .i64 a0,.int .i64 a1,.int .i64 a2] (.bool r):=by
 unfold Cq at h
 refine AY mixed Tryz.func59 rfl rfl rfl (by kernel_rfl) (by kernel_rfl) (Z ?_)
 refine AD h (fun h=>Z ?_) (fun h=>Z ?_)
 ·refine AB (Z ?_)
  cases h
  simp only [go_sem]
 ·refine AB (Z ?_)
  cases h
  simp only [go_sem]
theorem IM (a0 r) (h:Ch a0=some r):AC Tryz.prog 165 [.rop (Agent.avs a0) 0] (.int .i64 r):=by
 unfold Ch at h
 refine AY mixed Tryz.func165 rfl rfl rfl (by kernel_rfl) (by kernel_rfl) (Z ?_)
 refine AD h (fun h=>Z ?_) (fun h=>Z ?_)
 ·cases h
  simp only [go_sem]
 ·refine AB (Z ?_)
  cases h
  simp only [go_sem]
theorem FR (u:Bool) (r:Int) (h:EK u=some r):A7 Tryz.prog Tryz.f228 [1,1,1,0,1,0,1,1,1,1,1] (.int .i64 r) ⟨[(23,.bool u)],[],[]⟩:=by
 unfold EK at h
 refine AS rfl rfl (Z ?_)
 refine AD h (fun h=>Z ?_) (fun h=>Z ?_)
 ·cases h
  simp only [go_sem]
 ·refine AB (Z ?_)
  cases h
  simp only [go_sem]
theorem HH (a0:Int) (u:Bool) (r:Int) (h:E8 a0 u=some r):A7 Tryz.prog Tryz.f228 [1,1,1,0,1,0,1,1,1] (.int .i64 r) ⟨[(13,.int .i64 a0),(19,.bool u)],[],[]⟩:=by
 unfold E8 at h
 refine AS rfl rfl (Z ?_)
 refine AD h (fun h=>Z ?_) (fun h=>Z ?_)
 ·cases h
  simp only [go_sem]
 ·refine AD h (fun h=>Z ?_) (fun h=>Z ?_)
  ·refine AJ (AH rfl rfl (FR (decide (a0=2)) _ h):) (.one ⟨_,.done _,[],[],?_⟩)
   try simp only [go_sem]
  ·refine AD h (fun h=>Z ?_) (fun h=>Z ?_)
   ·refine AJ (AH rfl rfl (FR (decide (a0=3)) _ h):) (.one ⟨_,.done _,[],[],?_⟩)
    try simp only [go_sem]
   ·refine AD h (fun h=>Z ?_) (fun h=>Z ?_)
    ·refine AJ (AH rfl rfl (FR (decide (a0=4)) _ h):) (.one ⟨_,.done _,[],[],?_⟩)
     try simp only [go_sem]
    ·refine AJ (AH rfl rfl (FR (decide (a0=7)) _ h):) (.one ⟨_,.done _,[],[],?_⟩)
     try simp only [go_sem]
theorem FS (a0:Int) (u:Bool) (r:Int) (h:EL a0 u=some r):A7 Tryz.prog Tryz.f228 [1,1,1,0,1,0,1] (.int .i64 r) ⟨[(13,.int .i64 a0),(14,.bool u)],[],[]⟩:=by
 unfold EL at h
 refine AS rfl rfl (Z ?_)
 refine AD h (fun h=>Z ?_) (fun h=>Z ?_)
 ·cases h
  simp only [go_sem]
 ·refine AD h (fun h=>Z ?_) (fun h=>Z ?_)
  ·refine AJ (AH rfl rfl (HH a0 (decide (a0=8)) _ h):) (.one ⟨_,.done _,[],[],?_⟩)
   try simp only [go_sem]
  ·refine AD h (fun h=>Z ?_) (fun h=>Z ?_)
   ·refine AJ (AH rfl rfl (HH a0 (decide (a0=10)) _ h):) (.one ⟨_,.done _,[],[],?_⟩)
    try simp only [go_sem]
   ·refine AJ (AH rfl rfl (HH a0 (decide (a0=11)) _ h):) (.one ⟨_,.done _,[],[],?_⟩)
    try simp only [go_sem]
theorem SX (a0 a1 r) (h:Gd a0 a1=some r):AC Tryz.prog 228 [.int .i64 a0,.int .i64 a1] (.int .i64 r):=by
 unfold Gd at h
 refine AY mixed Tryz.func228 rfl rfl rfl (by kernel_rfl) (by kernel_rfl) (Z ?_)
 refine AD h (fun h=>Z ?_) (fun h=>Z ?_)
 ·replace h:=AF h; obtain⟨u,w,h⟩:=h
  refine AK (Br _ _ _ _ w) (Z ?_)
  refine AB (Z ?_)
  refine AD h (fun h=>Z ?_) (fun h=>Z ?_)
  ·cases h
   simp only [go_sem]
  ·refine AB (Z ?_)
   cases h
   simp only [go_sem]
 ·refine AB (Z ?_)
  refine AD h (fun h=>Z ?_) (fun h=>Z ?_)
  ·cases h
   simp only [go_sem]
  ·refine AB (Z ?_)
   refine AD h (fun h=>Z ?_) (fun h=>Z ?_)
   ·refine AJ (AH rfl rfl (FS a0 (decide (a0=1)) _ h):) (.one ⟨_,.done _,[],[],?_⟩)
    try simp only [go_sem]
   ·refine AD h (fun h=>Z ?_) (fun h=>Z ?_)
    ·refine AJ (AH rfl rfl (FS a0 (decide (a0=5)) _ h):) (.one ⟨_,.done _,[],[],?_⟩)
     try simp only [go_sem]
    ·refine AD h (fun h=>Z ?_) (fun h=>Z ?_)
     ·refine AJ (AH rfl rfl (FS a0 (decide (a0=6)) _ h):) (.one ⟨_,.done _,[],[],?_⟩)
      try simp only [go_sem]
     ·refine AJ (AH rfl rfl (FS a0 (decide (a0=12)) _ h):) (.one ⟨_,.done _,[],[],?_⟩)
      try simp only [go_sem]
theorem Bm (u:Bool) (r:Bool) (h:BG u=some r):A7 Tryz.prog Tryz.f195 [1,0,1,0,1] (.bool r) ⟨[(4,.bool u)],[],[]⟩:=by
 unfold BG at h
 refine AS rfl rfl (Z ?_)
 refine AD h (fun h=>Z ?_) (fun h=>Z ?_)
 ·cases h
  simp only [go_sem]
 ·refine AB (Z ?_)
  cases h
  simp only [go_sem]
theorem It (a0 r) (h:Dp a0=some r):AC Tryz.prog 195 [.int .i64 a0] (.bool r):=by
 unfold Dp at h
 refine AY mixed Tryz.func195 rfl rfl rfl (by kernel_rfl) (by kernel_rfl) (Z ?_)
 refine AD h (fun h=>Z ?_) (fun h=>Z ?_)
 ·refine AJ (AH rfl rfl (Bm (decide (a0=2)) _ h):) (.one ⟨_,.done _,[],[],?_⟩)
  try simp only [go_sem]
 ·refine AD h (fun h=>Z ?_) (fun h=>Z ?_)
  ·refine AJ (AH rfl rfl (Bm (decide (a0=3)) _ h):) (.one ⟨_,.done _,[],[],?_⟩)
   try simp only [go_sem]
  ·refine AD h (fun h=>Z ?_) (fun h=>Z ?_)
   ·refine AJ (AH rfl rfl (Bm (decide (a0=4)) _ h):) (.one ⟨_,.done _,[],[],?_⟩)
    try simp only [go_sem]
   ·refine AD h (fun h=>Z ?_) (fun h=>Z ?_)
    ·refine AJ (AH rfl rfl (Bm (decide (a0=7)) _ h):) (.one ⟨_,.done _,[],[],?_⟩)
     try simp only [go_sem]
    ·refine AD h (fun h=>Z ?_) (fun h=>Z ?_)
     ·refine AJ (AH rfl rfl (Bm (decide (a0=8)) _ h):) (.one ⟨_,.done _,[],[],?_⟩)
      try simp only [go_sem]
     ·refine AD h (fun h=>Z ?_) (fun h=>Z ?_)
      ·refine AJ (AH rfl rfl (Bm (decide (a0=9)) _ h):) (.one ⟨_,.done _,[],[],?_⟩)
       try simp only [go_sem]
      ·refine AD h (fun h=>Z ?_) (fun h=>Z ?_)
       ·refine AJ (AH rfl rfl (Bm (decide (a0=10)) _ h):) (.one ⟨_,.done _,[],[],?_⟩)
        try simp only [go_sem]
       ·refine AD h (fun h=>Z ?_) (fun h=>Z ?_)
        ·refine AJ (AH rfl rfl (Bm (decide (a0=11)) _ h):) (.one ⟨_,.done _,[],[],?_⟩)
         try simp only [go_sem]
        ·refine AJ (AH rfl rfl (Bm (decide (a0=12)) _ h):) (.one ⟨_,.done _,[],[],?_⟩)
         try simp only [go_sem]
theorem SY (a0 r) (h:JJ a0=some r):AC Tryz.prog 245 [.int .i64 a0] (.bool r):=by
 unfold JJ at h
 refine AY mixed Tryz.func245 rfl rfl rfl (by kernel_rfl) (by kernel_rfl) (Z ?_)
 replace h:=AF h; obtain⟨u,w,h⟩:=h
 refine AK (Br _ _ _ _ w) (Z ?_)
 refine AB (Z ?_)
 cases h
 simp only [go_sem]
theorem Gr (a0 a1 r) (h:EG a0 a1=some r):AC Tryz.prog 229 [.int .i64 a0,.int .i64 a1] (.bool r):=by
 unfold EG at h
 refine AY mixed Tryz.func229 rfl rfl rfl (by kernel_rfl) (by kernel_rfl) (Z ?_)
 replace h:=AF h; obtain⟨u,w,h⟩:=h
 refine AK (It _ _ w) (Z ?_)
 refine AB (Z ?_)
 refine AD h (fun h=>Z ?_) (fun h=>Z ?_)
 ·replace h:=AF h; obtain⟨y,q,h⟩:=h
  refine AK (Br _ _ _ _ q) (Z ?_)
  refine AB (Z ?_)
  cases h
  simp only [go_sem]
 ·refine AB (Z ?_)
  replace h:=AF h; obtain⟨g,j,h⟩:=h
  refine AK (SY _ _ j) (Z ?_)
  refine AD h (fun h=>Z ?_) (fun h=>Z ?_)
  ·refine AB (Z ?_)
   cases h
   simp only [go_sem]
  ·refine AB (Z ?_)
   cases h
   simp only [go_sem]
theorem OM (a0 r) (h:H7 a0=some r):AC Tryz.prog 246 [.int .i64 a0] (.bool r):=by
 unfold H7 at h
 refine AY mixed Tryz.func246 rfl rfl rfl (by kernel_rfl) (by kernel_rfl) (Z ?_)
 replace h:=AF h; obtain⟨u,w,h⟩:=h
 refine AK (Br _ _ _ _ w) (Z ?_)
 refine AB (Z ?_)
 cases h
 simp only [go_sem]
theorem MS (n:Nat):(∀a0 u r,CT n a0 u=some r→A7 Tryz.prog Tryz.f230 [1,0,1,0,1,1,1,1,1,1,1,1,1,1,1,0,1,0,1,0] (.bool r) ⟨[(0,.rop [.int .i64 a0.kind,.int .i64 a0.level,.int .i64 a0.value,.ro (List.map Au a0.data),.ro (List.map Port.ds a0.ports)] 0),(3,.int .i64 u)],[],[]⟩):=by
 induction n with
 |zero=>exact((fun _ _ _ h=>by rw [CT] at h; cases h))
 | succ n ih=>
  have ih0:=ih
  ·intro a0 u r h
   rw [CT] at h
   refine AS rfl rfl (Z ?_)
   refine Ag (Z ?_)
   refine AD h (fun h=>Z ?_) (fun h=>Z ?_)
   ·refine AB (Z ?_)
    replace h:=AF h; obtain⟨w,y,h⟩:=h
    refine AR y rfl (Z ?_)
    replace h:=AF h; obtain⟨q,g,h⟩:=h
    refine AK (OM _ _ g) (Z ?_)
    refine AB (Z ?_)
    refine AD h (fun h=>Z ?_) (fun h=>Z ?_)
    ·cases h
     simp only [go_sem]
    ·refine AB (Z ?_)
     refine Am (AH rfl rfl (ih0 a0 (IntKind.i64.wrap (u+1)) _ h):) (.one ⟨_,.done _,[],[],?_⟩)
     try simp only [go_sem]
   ·refine AB (Z ?_)
    cases h
    simp only [go_sem]
theorem Cb (a0:Agent) (u:Bool) (r:Bool) (h:B6 a0 u=some r):A7 Tryz.prog Tryz.f230 [1,0,1,0,1,1,1,1,1,1,1,1,1,1,1,0,0,1] (.bool r) ⟨[(0,.rop [.int .i64 a0.kind,.int .i64 a0.level,.int .i64 a0.value,.ro (List.map Au a0.data),.ro (List.map Port.ds a0.ports)] 0),(130,.bool u)],[],[]⟩:=by
 unfold B6 at h
 refine AS rfl rfl (Z ?_)
 refine AD h (fun h=>Z ?_) (fun h=>Z ?_)
 ·cases h
  simp only [go_sem]
 ·refine AB (Z ?_)
  refine AZ (AH rfl rfl (MS fuel a0 0 _ h):) (.one ⟨_,.done _,[],[],?_⟩)
  try simp only [go_sem]
theorem IN (a0:Agent) (u:Bool) (r:Bool) (h:EW a0 u=some r):A7 Tryz.prog Tryz.f230 [1,0,1,0,1,1,1,1,1,1,1,1,1,1,1] (.bool r) ⟨[(0,.rop [.int .i64 a0.kind,.int .i64 a0.level,.int .i64 a0.value,.ro (List.map Au a0.data),.ro (List.map Port.ds a0.ports)] 0),(92,.bool u)],[],[]⟩:=by
 unfold EW at h
 refine AS rfl rfl (Z ?_)
 refine AD h (fun h=>Z ?_) (fun h=>Z ?_)
 ·refine AD h (fun h=>Z ?_) (fun h=>Z ?_)
  ·refine AJ (AH rfl rfl (Cb a0 true _ h):) (.one ⟨_,.done _,[],[],?_⟩)
   try simp only [go_sem]
  ·refine AD h (fun h=>Z ?_) (fun h=>Z ?_)
   ·refine AD h (fun h=>Z ?_) (fun h=>Z ?_)
    ·refine AJ (AH rfl rfl (Cb a0 true _ h):) (.one ⟨_,.done _,[],[],?_⟩)
     try simp only [go_sem]
    ·refine AD h (fun h=>Z ?_) (fun h=>Z ?_)
     ·replace h:=AF h; obtain⟨w,y,h⟩:=h
      refine AK (Br _ _ _ _ y) (Z ?_)
      refine AJ (AH rfl rfl (Cb a0 (!w) _ h):) (.one ⟨_,.done _,[],[],?_⟩)
      try simp only [go_sem]
     ·refine AJ (AH rfl rfl (Cb a0 false _ h):) (.one ⟨_,.done _,[],[],?_⟩)
      try simp only [go_sem]
   ·refine AD h (fun h=>Z ?_) (fun h=>Z ?_)
    ·replace h:=AF h; obtain⟨w,y,h⟩:=h
     refine AK (Br _ _ _ _ y) (Z ?_)
     refine AJ (AH rfl rfl (Cb a0 (!w) _ h):) (.one ⟨_,.done _,[],[],?_⟩)
     try simp only [go_sem]
    ·refine AJ (AH rfl rfl (Cb a0 false _ h):) (.one ⟨_,.done _,[],[],?_⟩)
     try simp only [go_sem]
 ·refine AB (Z ?_)
  refine AD h (fun h=>Z ?_) (fun h=>Z ?_)
  ·refine AB (Z ?_)
   cases h
   simp only [go_sem]
  ·refine AB (Z ?_)
   cases h
   simp only [go_sem]
theorem Oj (a0 r) (h:GF a0=some r):AC Tryz.prog 230 [.rop (Agent.avs a0) 0] (.bool r):=by
 unfold GF at h
 refine AY mixed Tryz.func230 rfl rfl rfl (by kernel_rfl) (by kernel_rfl) (Z ?_)
 refine AD h (fun h=>Z ?_) (fun h=>Z ?_)
 ·refine AD h (fun h=>Z ?_) (fun h=>Z ?_)
  ·replace h:=AF h; obtain⟨u,w,h⟩:=h
   refine AK (Br _ _ _ _ w) (Z ?_)
   refine AB (Z ?_)
   cases h
   simp only [go_sem]
  ·refine AB (Z ?_)
   cases h
   simp only [go_sem]
 ·refine AD h (fun h=>Z ?_) (fun h=>Z ?_)
  ·refine AD h (fun h=>Z ?_) (fun h=>Z ?_)
   ·replace h:=AF h; obtain⟨y,q,h⟩:=h
    refine AK (Br _ _ _ _ q) (Z ?_)
    refine AB (Z ?_)
    cases h
    simp only [go_sem]
   ·refine AB (Z ?_)
    cases h
    simp only [go_sem]
  ·refine AD h (fun h=>Z ?_) (fun h=>Z ?_)
   ·refine AD h (fun h=>Z ?_) (fun h=>Z ?_)
    ·replace h:=AF h; obtain⟨g,j,h⟩:=h
     refine AK (Br _ _ _ _ j) (Z ?_)
     refine AD h (fun h=>Z ?_) (fun h=>Z ?_)
     ·replace h:=AF h; obtain⟨k,b,h⟩:=h
      refine AR b rfl (Z ?_)
      replace h:=AF h; obtain⟨d,c,h⟩:=h
      refine AK (Br _ _ _ _ c) (Z ?_)
      refine AB (Z ?_)
      cases h
      simp only [go_sem]
     ·refine AB (Z ?_)
      cases h
      simp only [go_sem]
    ·refine AB (Z ?_)
     cases h
     simp only [go_sem]
   ·refine AD h (fun h=>Z ?_) (fun h=>Z ?_)
    ·refine AD h (fun h=>Z ?_) (fun h=>Z ?_)
     ·replace h:=AF h; obtain⟨e,i,h⟩:=h
      refine AK (Br _ _ _ _ i) (Z ?_)
      refine AB (Z ?_)
      cases h
      simp only [go_sem]
     ·refine AB (Z ?_)
      cases h
      simp only [go_sem]
    ·refine AD h (fun h=>Z ?_) (fun h=>Z ?_)
     ·refine AD h (fun h=>Z ?_) (fun h=>Z ?_)
      ·replace h:=AF h; obtain⟨l,t,h⟩:=h
       refine AK (OM _ _ t) (Z ?_)
       refine AB (Z ?_)
       cases h
       simp only [go_sem]
      ·refine AB (Z ?_)
       cases h
       simp only [go_sem]
     ·refine AD h (fun h=>Z ?_) (fun h=>Z ?_)
      ·refine AJ (AH rfl rfl (IN a0 (decide (a0.kind=10)) _ h):) (.one ⟨_,.done _,[],[],?_⟩)
       try simp only [go_sem]
      ·refine AJ (AH rfl rfl (IN a0 (decide (a0.kind=11)) _ h):) (.one ⟨_,.done _,[],[],?_⟩)
       try simp only [go_sem]
theorem Qq (a0 r) (h:H8 a0=some r):AC Tryz.prog 200 [.rop (Agent.avs a0) 0] (.bool r):=by
 unfold H8 at h
 refine AY mixed Tryz.func200 rfl rfl rfl (by kernel_rfl) (by kernel_rfl) (Z ?_)
 refine Ae [] .fin (by kernel_rfl) (Z ?_)
 replace h:=AF h; obtain⟨u,w,h⟩:=h
 refine AK (IM _ _ w) (Z ?_)
 replace h:=AF h; obtain⟨y,q,h⟩:=h
 refine AK (SX _ _ _ q) (Z ?_)
 refine AB (Z ?_)
 refine Ae [] .fin (by kernel_rfl) (Z ?_)
 refine AD h (fun h=>Z ?_) (fun h=>Z ?_)
 ·refine AD h (fun h=>Z ?_) (fun h=>Z ?_)
  ·replace h:=AF h; obtain⟨g,j,h⟩:=h
   refine AK (Gr _ _ _ j) (Z ?_)
   refine AD h (fun h=>Z ?_) (fun h=>Z ?_)
   ·replace h:=AF h; obtain⟨k,b,h⟩:=h
    refine AK (Oj _ _ b) (Z ?_)
    refine AB (Z ?_)
    cases h
    simp only [go_sem]
   ·refine AB (Z ?_)
    cases h
    simp only [go_sem]
  ·refine AB (Z ?_)
   cases h
   simp only [go_sem]
 ·refine AB (Z ?_)
  cases h
  simp only [go_sem]
theorem MT (n:Nat):(∀a0 u r,CI n a0 u=some r→A7 Tryz.prog Tryz.f150 [1,1,0,1,0] (.bool r) ⟨[(0,.ro (List.map Agent.ds a0)),(3,.int .i64 u)],[],[]⟩)∧
    (∀a0 u w r,DS n a0 u w=some r→A7 Tryz.prog Tryz.f150 [1,1,0,1,0,0,1,0,0,1] (.bool r) ⟨[(0,.ro (List.map Agent.ds a0)),(3,.int .i64 u),(29,.bool w)],[],[]⟩):=by
 induction n with
 |zero=>exact⟨(fun _ _ _ h=>by rw [CI] at h; cases h),(fun _ _ _ _ h=>by rw [DS] at h; cases h)⟩
 | succ n ih=>
  obtain⟨ih0,ih1⟩:=ih
  refine⟨?_,?_⟩
  ·intro a0 u r h
   rw [CI] at h
   refine AS rfl rfl (Z ?_)
   refine Ag (Z ?_)
   refine AD h (fun h=>Z ?_) (fun h=>Z ?_)
   ·refine AB (Z ?_)
    replace h:=AF h; obtain⟨y,q,h⟩:=h
    refine AR q (Agent.ds_len _) (Z ?_)
    replace h:=AF h; obtain⟨g,j,h⟩:=h
    refine AK (Qq _ _ j) (Z ?_)
    refine AD h (fun h=>Z ?_) (fun h=>Z ?_)
    ·refine AJ (AH rfl rfl (ih1 a0 u true _ h):) (.one ⟨_,.done _,[],[],?_⟩)
     try simp only [go_sem]
    ·replace h:=AF h; obtain⟨k,b,h⟩:=h
     refine AR b (Agent.ds_len _) (Z ?_)
     refine AJ (AH rfl rfl (ih1 a0 u (!((decide (k.kind=1)) == (decide (u=0)))) _ h):) (.one ⟨_,.done _,[],[],?_⟩)
     try simp only [go_sem]
   ·refine AB (Z ?_)
    cases h
    simp only [go_sem]
  ·intro a0 u w r h
   rw [DS] at h
   refine AS rfl rfl (Z ?_)
   refine AD h (fun h=>Z ?_) (fun h=>Z ?_)
   ·cases h
    simp only [go_sem]
   ·refine AB (Z ?_)
    refine Am (AH rfl rfl (ih0 a0 (IntKind.i64.wrap (u+1)) _ h):) (.one ⟨_,.done _,[],[],?_⟩)
    try simp only [go_sem]
theorem NS (n:Nat):(∀a0 u r,CI n a0 u=some r→A7 Tryz.prog Tryz.f150 [1,1,0,1,0] (.bool r) ⟨[(0,.ro (List.map Agent.ds a0)),(3,.int .i64 u)],[],[]⟩):=(MT n).1
theorem QR (a0 r) (h:HA a0=some r):AC Tryz.prog 150 [.ro (List.map Agent.ds a0)] (.bool r):=by
 unfold HA at h
 refine AY mixed Tryz.func150 rfl rfl rfl (by kernel_rfl) (by kernel_rfl) (Z ?_)
 replace h:=AF h; obtain⟨u,w,h⟩:=h
 refine AK (Br _ _ _ _ w) (Z ?_)
 refine AB (Z ?_)
 refine AD h (fun h=>Z ?_) (fun h=>Z ?_)
 ·cases h
  simp only [go_sem]
 ·refine AB (Z ?_)
  refine AZ (AH rfl rfl (NS fuel a0 0 _ h):) (.one ⟨_,.done _,[],[],?_⟩)
  try simp only [go_sem]
theorem SZ (a0 a1 r) (h:JK a0 a1=some r):AC Tryz.prog 151 [.ro (List.map Agent.ds a0),.agg (Port.avs a1)] (.bool r):=by
 unfold JK at h
 refine AY mixed Tryz.func151 rfl rfl rfl (by kernel_rfl) (by kernel_rfl) (Z ?_)
 refine Ae [] .fin (by kernel_rfl) (Z ?_)
 replace h:=AF h; obtain⟨u,w,h⟩:=h
 refine AK (Br _ _ _ _ w) (Z ?_)
 refine AD h (fun h=>Z ?_) (fun h=>Z ?_)
 ·replace h:=AF h; obtain⟨y,q,h⟩:=h
  refine AR q (Agent.ds_len _) (Z ?_)
  replace h:=AF h; obtain⟨g,j,h⟩:=h
  refine AK (Br _ _ _ _ j) (Z ?_)
  refine AB (Z ?_)
  cases h
  simp only [go_sem]
 ·refine AB (Z ?_)
  cases h
  simp only [go_sem]
theorem QS (n:Nat):(∀a0 u r,Dv n a0 u=some r→A7 Tryz.prog Tryz.f84 [1,1,0,1,0] (.bool r) ⟨[(0,.rop [.ro (List.map Agent.ds a0.agents)] 0),(3,.int .i64 u)],[],[]⟩)∧
    (∀a0 u w y r,EC n a0 u w y=some r→A7 Tryz.prog Tryz.f84 [1,1,0,1,0,0,1,0,0,1,1,0] (.bool r) ⟨[(0,.rop [.ro (List.map Agent.ds a0.agents)] 0),(3,.int .i64 u),(4,.rop [.int .i64 w.kind,.int .i64 w.level,.int .i64 w.value,.ro (List.map Au w.data),.ro (List.map Port.ds w.ports)] 0),(5,.int .i64 y)],[],[]⟩)∧
    (∀a0 u y w q r,ED n a0 u y w q=some r→A7 Tryz.prog Tryz.f84 [1,1,0,1,0,0,1,0,0,1,1,0,0,1,0,0,1,1,1] (.bool r) ⟨[(0,.rop [.ro (List.map Agent.ds a0.agents)] 0),(3,.int .i64 u),(4,.rop [.int .i64 w.kind,.int .i64 w.level,.int .i64 w.value,.ro (List.map Au w.data),.ro (List.map Port.ds w.ports)] 0),(5,.int .i64 y),(76,.bool q)],[],[]⟩):=by
 induction n with
 |zero=>exact⟨(fun _ _ _ h=>by rw [Dv] at h; cases h),(fun _ _ _ _ _ h=>by rw [EC] at h; cases h),(fun _ _ _ _ _ _ h=>by rw [ED] at h; cases h)⟩
 | succ n ih=>
  obtain⟨ih0,ih1,ih2⟩:=ih
  refine⟨?_,?_,?_⟩
  ·intro a0 u r h
   rw [Dv] at h
   refine AS rfl rfl (Z ?_)
   refine Ag (Z ?_)
   refine AD h (fun h=>Z ?_) (fun h=>Z ?_)
   ·refine AB (Z ?_)
    replace h:=AF h; obtain⟨w,g,h⟩:=h
    refine AR g (Agent.ds_len _) (Z ?_)
    refine AZ (AH rfl rfl (ih1 a0 u w 0 _ h):) (.one ⟨_,.done _,[],[],?_⟩)
    try simp only [go_sem]
   ·refine AB (Z ?_)
    cases h
    simp only [go_sem]
  ·intro a0 u w y r h
   rw [EC] at h
   refine AS rfl rfl (Z ?_)
   refine Ag (Z ?_)
   refine AD h (fun h=>Z ?_) (fun h=>Z ?_)
   ·refine AB (Z ?_)
    refine AB (Z ?_)
    replace h:=AF h; obtain⟨j,k,h⟩:=h
    refine AR k (Port.ds_len _) (Z ?_)
    refine AB (Z ?_)
    refine Ae [] .fin (by kernel_rfl) (Z ?_)
    refine AD h (fun h=>Z ?_) (fun h=>Z ?_)
    ·refine AJ (AH rfl rfl (ih2 a0 u y w true _ h):) (.one ⟨_,.done _,[],[],?_⟩)
     try simp only [go_sem]
    ·replace h:=AF h; obtain⟨b,d,h⟩:=h
     refine AK (SZ _ _ _ d) (Z ?_)
     refine AD h (fun h=>Z ?_) (fun h=>Z ?_)
     ·refine AJ (AH rfl rfl (ih2 a0 u y w true _ h):) (.one ⟨_,.done _,[],[],?_⟩)
      try simp only [go_sem]
     ·replace h:=AF h; obtain⟨c,e,h⟩:=h
      refine AR e (Agent.ds_len _) (Z ?_)
      replace h:=AF h; obtain⟨i,l,h⟩:=h
      refine AR l (Port.ds_len _) (Z ?_)
      refine AJ (AH rfl rfl (ih2 a0 u y w (!(decide (i.agent=u)&&decide (i.slot=y))) _ h):) (.one ⟨_,.done _,[],[],?_⟩)
      try simp only [go_sem]
   ·refine AB (Z ?_)
    refine Am (AH rfl rfl (ih0 a0 (IntKind.i64.wrap (u+1)) _ h):) (.one ⟨_,.done _,[],[],?_⟩)
    try simp only [go_sem]
  ·intro a0 u y w q r h
   rw [ED] at h
   refine AS rfl rfl (Z ?_)
   refine AD h (fun h=>Z ?_) (fun h=>Z ?_)
   ·cases h
    simp only [go_sem]
   ·refine AB (Z ?_)
    refine Am (AH rfl rfl (ih1 a0 u w (IntKind.i64.wrap (y+1)) _ h):) (.one ⟨_,.done _,[],[],?_⟩)
    try simp only [go_sem]
theorem Qr (n:Nat):(∀a0 u r,Dv n a0 u=some r→A7 Tryz.prog Tryz.f84 [1,1,0,1,0] (.bool r) ⟨[(0,.rop [.ro (List.map Agent.ds a0.agents)] 0),(3,.int .i64 u)],[],[]⟩):=(QS n).1
theorem QB (a0 r) (h:Jj a0=some r):AC Tryz.prog 84 [.rop (Net.avs a0) 0] (.bool r):=by
 unfold Jj at h
 refine AY mixed Tryz.func84 rfl rfl rfl (by kernel_rfl) (by kernel_rfl) (Z ?_)
 replace h:=AF h; obtain⟨u,w,h⟩:=h
 refine AK (QR _ _ w) (Z ?_)
 refine AB (Z ?_)
 refine AD h (fun h=>Z ?_) (fun h=>Z ?_)
 ·cases h
  simp only [go_sem]
 ·refine AB (Z ?_)
  refine AZ (AH rfl rfl (Qr fuel a0 0 _ h):) (.one ⟨_,.done _,[],[],?_⟩)
  try simp only [go_sem]
theorem HQ (n:Nat):(∀ (a0:List Net) (u:Int) (f1:(Net→Option Bool)) (g1:FuncId) (c1:List AV) (s1:Still c1) (h1:∀ (y0:Net) (q:Bool),f1 y0=some q→AC Tryz.prog g1 (.agg (Net.avs y0)::c1) (.bool q)) (r:Int),BH n a0 u f1=some r→A7 Tryz.prog Tryz.f196 [1,0,1,0] (.int .i64 r) ⟨[(0,.ro (List.map Net.ds a0)),(1,.fn g1 c1),(7,.int .i64 ((List.length a0:Nat):Int)),(8,.int .i64 u)],[],[]⟩):=by
 induction n with
 |zero=>exact((fun _ _ _ _ _ _ _ _ h=>by rw [BH] at h; cases h))
 | succ n ih=>
  have ih0:=ih
  ·intro a0 u f1 g1 c1 s1 h1 r h
   rw [BH] at h
   refine AS rfl rfl ?_
   try simp only [go_sem,s1.k,s1.r,s1.c,s1.p]
   refine Ag ?_
   try simp only [go_sem,s1.k,s1.r,s1.c,s1.p]
   refine AD h (fun h=>?_) (fun h=>?_)
   ·try simp only [go_sem,s1.k,s1.r,s1.c,s1.p]
    refine AB ?_
    try simp only [go_sem,s1.k,s1.r,s1.c,s1.p]
    replace h:=AF h; obtain⟨w,y,h⟩:=h
    refine AR y (Net.ds_len _) ?_
    try simp only [go_sem,s1.k,s1.r,s1.c,s1.p]
    replace h:=AF h; obtain⟨g,j,h⟩:=h
    refine AK (h1 _ _ j) ?_
    try simp only [go_sem,s1.k,s1.r,s1.c,s1.p]
    refine AB ?_
    try simp only [go_sem,s1.k,s1.r,s1.c,s1.p]
    refine AD h (fun h=>?_) (fun h=>?_)
    ·try simp only [go_sem,s1.k,s1.r,s1.c,s1.p]
     cases h
     simp only [go_sem,s1.k,s1.r,s1.c,s1.p]
    ·try simp only [go_sem,s1.k,s1.r,s1.c,s1.p]
     refine AB ?_
     try simp only [go_sem,s1.k,s1.r,s1.c,s1.p]
     refine Am (AH rfl rfl (ih0 a0 (IntKind.i64.wrap (u+1)) f1 g1 c1 s1 h1 _ h):) (.one ⟨_,.done _,[],[],?_⟩)
     try simp only [go_sem,s1.k,s1.r,s1.c,s1.p]
   ·try simp only [go_sem,s1.k,s1.r,s1.c,s1.p]
    refine AB ?_
    try simp only [go_sem,s1.k,s1.r,s1.c,s1.p]
    cases h
    simp only [go_sem,s1.k,s1.r,s1.c,s1.p]
theorem Iw (a0:List Net) (f1:(Net→Option Bool)) (g1:FuncId) (c1:List AV) (s1:Still c1) (h1:∀ (y0:Net) (q:Bool),f1 y0=some q→AC Tryz.prog g1 (.agg (Net.avs y0)::c1) (.bool q)) (r:Int) (h:DW a0 f1=some r):AC Tryz.prog 196 [.ro (List.map Net.ds a0),.fn g1 c1] (.int .i64 r):=by
 unfold DW at h
 refine AY mixed Tryz.func196 rfl rfl rfl (by kernel_rfl) (by kernel_rfl) ?_
 try simp only [go_sem,s1.k,s1.r,s1.c,s1.p]
 refine AZ (AH rfl rfl (HQ fuel a0 0 f1 g1 c1 s1 h1 _ h):) (.one ⟨_,.done _,[],[],?_⟩)
 try simp only [go_sem,s1.k,s1.r,s1.c,s1.p]
theorem HR (a0:List Net) (f1:(Net→Option Bool)) (g1:FuncId) (c1:List AV) (s1:Still c1) (h1:∀ (y0:Net) (q:Bool),f1 y0=some q→AC Tryz.prog g1 (.agg (Net.avs y0)::c1) (.bool q)) (r:Bool) (h:Bz a0 f1=some r):AC Tryz.prog 136 [.ro (List.map Net.ds a0),.fn g1 c1] (.bool r):=by
 unfold Bz at h
 refine AY mixed Tryz.func136 rfl rfl rfl (by kernel_rfl) (by kernel_rfl) ?_
 try simp only [go_sem,s1.k,s1.r,s1.c,s1.p]
 replace h:=AF h; obtain⟨u,w,h⟩:=h
 refine AK (Iw _ _ g1 c1 s1 h1 _ w) ?_
 try simp only [go_sem,s1.k,s1.r,s1.c,s1.p]
 refine AB ?_
 try simp only [go_sem,s1.k,s1.r,s1.c,s1.p]
 cases h
 simp only [go_sem,s1.k,s1.r,s1.c,s1.p]
theorem KE (a0 r) (h:EM a0=some r):AC Tryz.prog 137 [.agg (Net.avs a0)] (.bool r):=by
 unfold EM at h
 refine AY mixed Tryz.func137 rfl rfl rfl (by kernel_rfl) (by kernel_rfl) (Z ?_)
 replace h:=AF h; obtain⟨u,w,h⟩:=h
 refine AK (Li _ _ w) (Z ?_)
 refine AB (Z ?_)
 cases h
 simp only [go_sem]
theorem LY (a0 r) (h:D3 a0=some r):AC Tryz.prog 78 [.ro (List.map Net.ds a0)] (.bool r):=by
 unfold D3 at h
 refine AY mixed Tryz.func78 rfl rfl rfl (by kernel_rfl) (by kernel_rfl) (Z ?_)
 refine AD h (fun h=>Z ?_) (fun h=>Z ?_)
 ·replace h:=AF h; obtain⟨u,w,h⟩:=h
  refine AK (HR _ _ 137 [] (Still.of rfl) (fun y0 q hq=>KE y0  q hq) _ w) (Z ?_)
  refine AB (Z ?_)
  cases h
  simp only [go_sem]
 ·refine AB (Z ?_)
  cases h
  simp only [go_sem]
theorem Ol (n:Nat):(∀a0 u r,EN n a0 u=some r→A7 Tryz.prog Tryz.f73 [1,1,0,1,0] (.bool r) ⟨[(0,.ro (List.map Net.ds a0)),(3,.int .i64 u)],[],[]⟩):=by
 induction n with
 |zero=>exact((fun _ _ _ h=>by rw [EN] at h; cases h))
 | succ n ih=>
  have ih0:=ih
  ·intro a0 u r h
   rw [EN] at h
   refine AS rfl rfl (Z ?_)
   refine Ag (Z ?_)
   refine AD h (fun h=>Z ?_) (fun h=>Z ?_)
   ·refine AB (Z ?_)
    replace h:=AF h; obtain⟨w,y,h⟩:=h
    refine AR y (Net.ds_len _) (Z ?_)
    replace h:=AF h; obtain⟨q,g,h⟩:=h
    refine AK (QB _ _ g) (Z ?_)
    refine AB (Z ?_)
    refine AD h (fun h=>Z ?_) (fun h=>Z ?_)
    ·cases h
     simp only [go_sem]
    ·refine AB (Z ?_)
     refine Am (AH rfl rfl (ih0 a0 (IntKind.i64.wrap (u+1)) _ h):) (.one ⟨_,.done _,[],[],?_⟩)
     try simp only [go_sem]
   ·refine AB (Z ?_)
    cases h
    simp only [go_sem]
theorem SM (a0 r) (h:I8 a0=some r):AC Tryz.prog 73 [.ro (List.map Net.ds a0)] (.bool r):=by
 unfold I8 at h
 refine AY mixed Tryz.func73 rfl rfl rfl (by kernel_rfl) (by kernel_rfl) (Z ?_)
 refine AD h (fun h=>Z ?_) (fun h=>Z ?_)
 ·cases h
  simp only [go_sem]
 ·refine AB (Z ?_)
  refine AZ (AH rfl rfl (Ol fuel a0 0 _ h):) (.one ⟨_,.done _,[],[],?_⟩)
  try simp only [go_sem]
end Go.Proofs.YtckcfdggbbabfaaGreat.Ab
