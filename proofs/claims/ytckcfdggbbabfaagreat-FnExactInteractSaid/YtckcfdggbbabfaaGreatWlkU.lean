/-
 The functions do what their models say. Printed by wip/ab/gen.py.
-/
import Derived.Test.YtckcfdggbbabfaaGreatModU
import Derived.Test.YtckcfdggbbabfaaGreatTi2
import Derived.Test.YtckcfdggbbabfaaGreatWlk
namespace Go.Proofs.YtckcfdggbbabfaaGreat.Ab
set_option linter.unusedVariables false
set_option linter.unusedSimpArgs false
set_option maxRecDepth 20000
set_option maxHeartbeats 4000000
open Go.RowKit
theorem NJ (n:Nat):(∀u w y (z1:Option Nat) r,Cj n u w y=some r→Dp Tryz.prog Tryz.f120 [1,0,1,0] (.int .i64 r.1) [(1,⟨List.map Port.ds r.2,z1,0,false⟩)] [] ⟨[(0,.own 1),(1,.int .i64 w),(5,.int .i64 y)],[(1,some ⟨List.map Port.ds u,z1,0,false⟩)],[]⟩):=by
 induction n with
 |zero=>exact((fun _ _ _ _ _ h=>by rw [Cj] at h; cases h))
 | succ n ih=>
  have ih0:=ih
  ·intro u w y z1 r h
   rw [Cj] at h
   refine BB rfl rfl (Z ?_)
   refine Ah (Z ?_)
   refine AD h (fun h=>Z ?_) (fun h=>Z ?_)
   ·refine AB (Z ?_)
    replace h:=AF h; obtain⟨q,g,h⟩:=h
    refine AR g (Port.ds_len _) (Z ?_)
    replace h:=AF h; obtain⟨j,k,h⟩:=h
    refine Ac (AX g) (Z ?_)
    refine A9 (List.map Port.ds j) (by rw [← Az k]; simp only [List.map_set,go_sem,Port.ds_eq]) (Z ?_)
    replace h:=AF h; obtain⟨b,d,h⟩:=h
    refine AR d (Port.ds_len _) (Z ?_)
    replace h:=AF h; obtain⟨c,e,h⟩:=h
    refine Ac (AX d) (Z ?_)
    refine A9 (List.map Port.ds c) (by rw [← Az e]; simp only [List.map_set,go_sem,Port.ds_eq]) (Z ?_)
    refine AB (Z ?_)
    refine An (AN rfl rfl (ih0 c (IntKind.i64.wrap ((IntKind.i64.wrap (w+1))+1)) (IntKind.i64.wrap (y+1)) z1 _ h):) (.one ⟨_,.done _,[(1,1)],[],?_⟩)
    try simp only [go_sem]
   ·refine AB (Z ?_)
    cases h
    refine BY (.done _) [(1,1)] [] ?_
    simp only [go_sem]
theorem QG (a0 a1) (z1:Option Nat) (r) (h:G4 a0 a1=some r):AG Tryz.prog 120 [.own 1,.int .i64 a1] [(1,⟨List.map Port.ds a0,z1,0,false⟩)] [] (.int .i64 r.1) [(1,⟨List.map Port.ds r.2,z1,0,false⟩)] [] :=by
 unfold G4 at h
 refine Cm mixed Tryz.func120 rfl rfl rfl (by kernel_rfl) (by kernel_rfl) (Z ?_)
 refine Aa (AN rfl rfl (NJ fuel a0 a1 0 z1 _ h):) (.one ⟨_,.done _,[(1,1)],[],?_⟩)
 try simp only [go_sem]
theorem MP (n:Nat):(∀u w y (z1:Option Nat) r,CO n u w y=some r→Dp Tryz.prog Tryz.f71 [1,0,1,0] (.int .i64 r.1) [(1,⟨List.map Agent.ds r.2,z1,0,false⟩)] [] ⟨[(0,.own 1),(1,.int .i64 w),(5,.int .i64 y)],[(1,some ⟨List.map Agent.ds u,z1,0,false⟩)],[]⟩):=by
 induction n with
 |zero=>exact((fun _ _ _ _ _ h=>by rw [CO] at h; cases h))
 | succ n ih=>
  have ih0:=ih
  ·intro u w y z1 r h
   rw [CO] at h
   refine BB rfl rfl (Z ?_)
   refine Ah (Z ?_)
   refine AD h (fun h=>Z ?_) (fun h=>Z ?_)
   ·refine AB (Z ?_)
    replace h:=AF h; obtain⟨q,g,h⟩:=h
    refine AR g (Agent.ds_len _) (Z ?_)
    replace h:=AF h; obtain⟨j,k,h⟩:=h
    refine Ac (AX g) (Z ?_)
    refine A9 (List.map Agent.ds j) (by rw [← Az k]; simp only [List.map_set,go_sem,Agent.ds_eq]) (Z ?_)
    replace h:=AF h; obtain⟨b,d,h⟩:=h
    refine AR d (Agent.ds_len _) (Z ?_)
    replace h:=AF h; obtain⟨c,e,h⟩:=h
    refine Ac (AX d) (Z ?_)
    refine A9 (List.map Agent.ds c) (by rw [← Az e]; simp only [List.map_set,go_sem,Agent.ds_eq]) (Z ?_)
    replace h:=AF h; obtain⟨i,l,h⟩:=h
    refine AR l (Agent.ds_len _) (Z ?_)
    replace h:=AF h; obtain⟨t,s,h⟩:=h
    refine Ac (AX l) (Z ?_)
    refine A9 (List.map Agent.ds t) (by rw [← Az s]; simp only [List.map_set,go_sem,Agent.ds_eq]) (Z ?_)
    replace h:=AF h; obtain⟨o,z,h⟩:=h
    refine AR z (Agent.ds_len _) (Z ?_)
    refine Ac (AX z) (Z ?_)
    replace h:=AF h; obtain⟨u1,u2,h⟩:=h
    replace h:=AF h; obtain⟨u3,u4,h⟩:=h
    refine AP ⟨[(3000176096,.sub 1 0 [(5,Int.toNat y,3)],none)],[(1,3000176096)],[],[],[],true⟩ (by kernel_rfl) (OO _ _ none _ u2) (by kernel_rfl) (Z ?_)
    refine Ac (Dt (r:=List.map Au o.data) (AX z) (Agent.ds_len _) (by simp only [go_sem,Agent.ds_eq])) (Z ?_)
    refine A9 ((List.map Agent.ds t).set (Int.toNat y) [.int .i64 o.kind,.int .i64 o.level,.int .i64 o.value,.gone,.sl (List.map Port.ds o.ports)]) ((GT (AX z) (d':=.sl (List.map Au o.data)) (by simp only [go_sem,Agent.ds_eq])).trans (by simp only [go_sem,Agent.ds_eq])) (Z ?_)
    refine BR (U5 (Kb (AX z)) rfl rfl) (Z ?_)
    refine A9 (List.map Agent.ds u3) (((GT (Kb (AX z)) (d':=.gone) rfl).trans (List.set_set ..)).trans (by rw [← Az u4]; simp only [List.map_set,go_sem,Agent.ds_eq])) (Z ?_)
    refine AB (Z ?_)
    replace h:=AF h; obtain⟨u5,u6,h⟩:=h
    refine AR u6 (Agent.ds_len _) (Z ?_)
    refine Ac (AX u6) (Z ?_)
    replace h:=AF h; obtain⟨u7,u8,h⟩:=h
    replace h:=AF h; obtain⟨u9,u10,h⟩:=h
    refine AP ⟨[(3000192096,.sub 1 0 [(5,Int.toNat y,4)],none)],[(1,3000192096)],[],[],[],true⟩ (by kernel_rfl) (QG _ _ none _ u8) (by kernel_rfl) (Z ?_)
    refine Ac (Dt (r:=List.map Port.ds u5.ports) (AX u6) (Agent.ds_len _) (by simp only [go_sem,Agent.ds_eq])) (Z ?_)
    refine A9 ((List.map Agent.ds u3).set (Int.toNat y) [.int .i64 u5.kind,.int .i64 u5.level,.int .i64 u5.value,.sl (List.map Au u5.data),.gone]) ((GT (AX u6) (d':=.sl (List.map Port.ds u5.ports)) (by simp only [go_sem,Agent.ds_eq])).trans (by simp only [go_sem,Agent.ds_eq])) (Z ?_)
    refine BR (U5 (Kb (AX u6)) rfl rfl) (Z ?_)
    refine A9 (List.map Agent.ds u9) (((GT (Kb (AX u6)) (d':=.gone) rfl).trans (List.set_set ..)).trans (by rw [← Az u10]; simp only [List.map_set,go_sem,Agent.ds_eq])) (Z ?_)
    refine AB (Z ?_)
    refine An (AN rfl rfl (ih0 u9 u7.1 (IntKind.i64.wrap (y+1)) z1 _ h):) (.one ⟨_,.done _,[(1,1)],[],?_⟩)
    try simp only [go_sem]
   ·refine AB (Z ?_)
    cases h
    refine BY (.done _) [(1,1)] [] ?_
    simp only [go_sem]
theorem J1 (a0 a1) (z1:Option Nat) (r) (h:E0 a0 a1=some r):AG Tryz.prog 71 [.own 1,.int .i64 a1] [(1,⟨List.map Agent.ds a0,z1,0,false⟩)] [] (.int .i64 r.1) [(1,⟨List.map Agent.ds r.2,z1,0,false⟩)] [] :=by
 unfold E0 at h
 refine Cm mixed Tryz.func71 rfl rfl rfl (by kernel_rfl) (by kernel_rfl) (Z ?_)
 refine Aa (AN rfl rfl (MP fuel a0 a1 0 z1 _ h):) (.one ⟨_,.done _,[(1,1)],[],?_⟩)
 try simp only [go_sem]
theorem NA (a0 a1) (z1:Option Nat) (r) (h:Fb a0 a1=some r):AG Tryz.prog 27 [.agg [.own 1],.int .i64 a1] [(1,⟨List.map Agent.ds a0.agents,z1,0,false⟩)] [] (.int .i64 r.1) [(1,⟨List.map Agent.ds r.2,z1,0,false⟩)] [] :=by
 unfold Fb at h
 refine Cm mixed Tryz.func27 rfl rfl rfl (by kernel_rfl) (by kernel_rfl) (Z ?_)
 replace h:=AF h; obtain⟨u,w,h⟩:=h
 refine AP ⟨[],[(1,1)],[],[],[],true⟩ (by kernel_rfl) (J1 _ _ z1 _ w) (by kernel_rfl) (Z ?_)
 refine AB (Z ?_)
 cases h
 refine BY (.done _) [(1,1)] [] ?_
 simp only [go_sem]
theorem NK (n:Nat):(∀a0 u w r,Ck n a0 u w=some r→BG Tryz.prog Tryz.f149 [1,0,1,0] (.int .i64 r) ⟨[(0,.ro (List.map Port.ds a0)),(1,.int .i64 u),(5,.int .i64 w)],[],[]⟩):=by
 induction n with
 |zero=>exact((fun _ _ _ _ h=>by rw [Ck] at h; cases h))
 | succ n ih=>
  have ih0:=ih
  ·intro a0 u w r h
   rw [Ck] at h
   refine AT rfl rfl (Z ?_)
   refine Ah (Z ?_)
   refine AD h (fun h=>Z ?_) (fun h=>Z ?_)
   ·refine AB (Z ?_)
    replace h:=AF h; obtain⟨y,q,h⟩:=h
    refine AR q (Port.ds_len _) (Z ?_)
    refine AD h (fun h=>Z ?_) (fun h=>Z ?_)
    ·cases h
     simp only [go_sem]
    ·refine AB (Z ?_)
     replace h:=AF h; obtain⟨g,j,h⟩:=h
     refine AR j (Port.ds_len _) (Z ?_)
     refine AD h (fun h=>Z ?_) (fun h=>Z ?_)
     ·cases h
      simp only [go_sem]
     ·refine AB (Z ?_)
      refine AB (Z ?_)
      refine An (AH rfl rfl (ih0 a0 (IntKind.i64.wrap ((IntKind.i64.wrap (u+1))+1)) (IntKind.i64.wrap (w+1)) _ h):) (.one ⟨_,.done _,[],[],?_⟩)
      try simp only [go_sem]
   ·refine AB (Z ?_)
    cases h
    simp only [go_sem]
theorem QH (a0 a1 r) (h:G5 a0 a1=some r):AC Tryz.prog 149 [.ro (List.map Port.ds a0),.int .i64 a1] (.int .i64 r):=by
 unfold G5 at h
 refine AZ mixed Tryz.func149 rfl rfl rfl (by kernel_rfl) (by kernel_rfl) (Z ?_)
 refine Aa (AH rfl rfl (NK fuel a0 a1 0 _ h):) (.one ⟨_,.done _,[],[],?_⟩)
 try simp only [go_sem]
theorem MQ (n:Nat):(∀a0 u w r,CP n a0 u w=some r→BG Tryz.prog Tryz.f83 [1,0,1,0] (.int .i64 r) ⟨[(0,.ro (List.map Agent.ds a0)),(1,.int .i64 u),(5,.int .i64 w)],[],[]⟩):=by
 induction n with
 |zero=>exact((fun _ _ _ _ h=>by rw [CP] at h; cases h))
 | succ n ih=>
  have ih0:=ih
  ·intro a0 u w r h
   rw [CP] at h
   refine AT rfl rfl (Z ?_)
   refine Ah (Z ?_)
   refine AD h (fun h=>Z ?_) (fun h=>Z ?_)
   ·refine AB (Z ?_)
    replace h:=AF h; obtain⟨y,q,h⟩:=h
    refine AR q (Agent.ds_len _) (Z ?_)
    refine AD h (fun h=>Z ?_) (fun h=>Z ?_)
    ·cases h
     simp only [go_sem]
    ·refine AB (Z ?_)
     replace h:=AF h; obtain⟨g,j,h⟩:=h
     refine AR j (Agent.ds_len _) (Z ?_)
     refine AD h (fun h=>Z ?_) (fun h=>Z ?_)
     ·cases h
      simp only [go_sem]
     ·refine AB (Z ?_)
      replace h:=AF h; obtain⟨k,b,h⟩:=h
      refine AR b (Agent.ds_len _) (Z ?_)
      refine AD h (fun h=>Z ?_) (fun h=>Z ?_)
      ·cases h
       simp only [go_sem]
      ·refine AB (Z ?_)
       replace h:=AF h; obtain⟨d,c,h⟩:=h
       refine AR c (Agent.ds_len _) (Z ?_)
       replace h:=AF h; obtain⟨e,i,h⟩:=h
       refine AJ (OP _ _ _ i) (Z ?_)
       refine AB (Z ?_)
       refine AD h (fun h=>Z ?_) (fun h=>Z ?_)
       ·cases h
        simp only [go_sem]
       ·refine AB (Z ?_)
        replace h:=AF h; obtain⟨l,t,h⟩:=h
        refine AR t (Agent.ds_len _) (Z ?_)
        replace h:=AF h; obtain⟨s,o,h⟩:=h
        refine AJ (QH _ _ _ o) (Z ?_)
        refine AB (Z ?_)
        refine AD h (fun h=>Z ?_) (fun h=>Z ?_)
        ·cases h
         simp only [go_sem]
        ·refine AB (Z ?_)
         refine An (AH rfl rfl (ih0 a0 s (IntKind.i64.wrap (w+1)) _ h):) (.one ⟨_,.done _,[],[],?_⟩)
         try simp only [go_sem]
   ·refine AB (Z ?_)
    cases h
    simp only [go_sem]
theorem Oa (a0 a1 r) (h:F9 a0 a1=some r):AC Tryz.prog 83 [.ro (List.map Agent.ds a0),.int .i64 a1] (.int .i64 r):=by
 unfold F9 at h
 refine AZ mixed Tryz.func83 rfl rfl rfl (by kernel_rfl) (by kernel_rfl) (Z ?_)
 refine Aa (AH rfl rfl (MQ fuel a0 a1 0 _ h):) (.one ⟨_,.done _,[],[],?_⟩)
 try simp only [go_sem]
theorem M9 (a0 a1 r) (h:GX a0 a1=some r):AC Tryz.prog 32 [.agg (Net.avs a0),.int .i64 a1] (.int .i64 r):=by
 unfold GX at h
 refine AZ mixed Tryz.func32 rfl rfl rfl (by kernel_rfl) (by kernel_rfl) (Z ?_)
 replace h:=AF h; obtain⟨u,w,h⟩:=h
 refine AJ (Oa _ _ _ w) (Z ?_)
 refine AB (Z ?_)
 refine AD h (fun h=>Z ?_) (fun h=>Z ?_)
 ·cases h
  simp only [go_sem]
 ·refine AB (Z ?_)
  cases h
  simp only [go_sem]
theorem Nt (n:Nat):(∀u w y (z1:Option Nat) r,C9 n u w y=some r→Dp Tryz.prog Tryz.f26 [1,0,1,0] (.int .i64 r.1) [(1,⟨List.map Net.ds r.2,z1,0,false⟩)] [] ⟨[(0,.own 1),(1,.int .i64 w),(5,.int .i64 y)],[(1,some ⟨List.map Net.ds u,z1,0,false⟩)],[]⟩):=by
 induction n with
 |zero=>exact((fun _ _ _ _ _ h=>by rw [C9] at h; cases h))
 | succ n ih=>
  have ih0:=ih
  ·intro u w y z1 r h
   rw [C9] at h
   refine BB rfl rfl (Z ?_)
   refine Ah (Z ?_)
   refine AD h (fun h=>Z ?_) (fun h=>Z ?_)
   ·refine AB (Z ?_)
    replace h:=AF h; obtain⟨q,g,h⟩:=h
    refine AR g (Net.ds_len _) (Z ?_)
    refine Ac (AX g) (Z ?_)
    replace h:=AF h; obtain⟨j,k,h⟩:=h
    replace h:=AF h; obtain⟨b,d,h⟩:=h
    refine AP ⟨[(3000080096,.sub 1 0 [(1,Int.toNat y,0)],none)],[(1,3000080096)],[],[],[],true⟩ (by kernel_rfl) (J1 _ _ none _ k) (by kernel_rfl) (Z ?_)
    refine Ac (Dt (r:=List.map Agent.ds q.agents) (AX g) (Net.ds_len _) (by simp only [go_sem,Net.ds_eq])) (Z ?_)
    refine A9 ((List.map Net.ds u).set (Int.toNat y) [.gone]) ((GT (AX g) (d':=.sl (List.map Agent.ds q.agents)) (by simp only [go_sem,Net.ds_eq])).trans (by simp only [go_sem,Net.ds_eq])) (Z ?_)
    refine BR (U5 (Kb (AX g)) rfl rfl) (Z ?_)
    refine A9 (List.map Net.ds b) (((GT (Kb (AX g)) (d':=.gone) rfl).trans (List.set_set ..)).trans (by rw [← Az d]; simp only [List.map_set,go_sem,Net.ds_eq])) (Z ?_)
    refine AB (Z ?_)
    refine An (AN rfl rfl (ih0 b j.1 (IntKind.i64.wrap (y+1)) z1 _ h):) (.one ⟨_,.done _,[(1,1)],[],?_⟩)
    try simp only [go_sem]
   ·refine AB (Z ?_)
    cases h
    refine BY (.done _) [(1,1)] [] ?_
    simp only [go_sem]
theorem Qj (a0 a1) (z1:Option Nat) (r) (h:GY a0 a1=some r):AG Tryz.prog 26 [.own 1,.int .i64 a1] [(1,⟨List.map Net.ds a0,z1,0,false⟩)] [] (.int .i64 r.1) [(1,⟨List.map Net.ds r.2,z1,0,false⟩)] [] :=by
 unfold GY at h
 refine Cm mixed Tryz.func26 rfl rfl rfl (by kernel_rfl) (by kernel_rfl) (Z ?_)
 refine Aa (AN rfl rfl (Nt fuel a0 a1 0 z1 _ h):) (.one ⟨_,.done _,[(1,1)],[],?_⟩)
 try simp only [go_sem]
theorem SS (a0 a1 r) (h:I8 a0 a1=some r):AC Tryz.prog 175 [.ro (List.map Port.ds a0),.int .i64 a1] (.int .i64 r):=by
 unfold I8 at h
 refine AZ mixed Tryz.func175 rfl rfl rfl (by kernel_rfl) (by kernel_rfl) (Z ?_)
 refine AD h (fun h=>Z ?_) (fun h=>Z ?_)
 ·cases h
  simp only [go_sem]
 ·refine AB (Z ?_)
  cases h
  simp only [go_sem]
theorem ST (a0 a1 r) (h:Hb a0 a1=some r):AC Tryz.prog 104 [.agg (Agent.avs a0),.int .i64 a1] (.int .i64 r):=by
 unfold Hb at h
 refine AZ mixed Tryz.func104 rfl rfl rfl (by kernel_rfl) (by kernel_rfl) (Z ?_)
 replace h:=AF h; obtain⟨u,w,h⟩:=h
 refine AJ (Qf _ _ _ w) (Z ?_)
 refine AB (Z ?_)
 refine AD h (fun h=>Z ?_) (fun h=>Z ?_)
 ·cases h
  simp only [go_sem]
 ·refine AB (Z ?_)
  replace h:=AF h; obtain⟨y,q,h⟩:=h
  refine AJ (SS _ _ _ q) (Z ?_)
  refine AB (Z ?_)
  refine AD h (fun h=>Z ?_) (fun h=>Z ?_)
  ·cases h
   simp only [go_sem]
  ·refine AB (Z ?_)
   cases h
   simp only [go_sem]
theorem Nu (n:Nat):(∀a0 u w r,Dk n a0 u w=some r→BG Tryz.prog Tryz.f56 [1,1,1,0,1,0] (.int .i64 r) ⟨[(0,.ro (List.map Agent.ds a0)),(1,.int .i64 u),(5,.int .i64 w)],[],[]⟩):=by
 induction n with
 |zero=>exact((fun _ _ _ _ h=>by rw [Dk] at h; cases h))
 | succ n ih=>
  have ih0:=ih
  ·intro a0 u w r h
   rw [Dk] at h
   refine AT rfl rfl (Z ?_)
   refine Ah (Z ?_)
   refine AD h (fun h=>Z ?_) (fun h=>Z ?_)
   ·refine AB (Z ?_)
    replace h:=AF h; obtain⟨y,q,h⟩:=h
    refine AR q (Agent.ds_len _) (Z ?_)
    replace h:=AF h; obtain⟨g,j,h⟩:=h
    refine AJ (ST _ _ _ j) (Z ?_)
    refine AB (Z ?_)
    refine AD h (fun h=>Z ?_) (fun h=>Z ?_)
    ·cases h
     simp only [go_sem]
    ·refine AB (Z ?_)
     refine An (AH rfl rfl (ih0 a0 g (IntKind.i64.wrap (w+1)) _ h):) (.one ⟨_,.done _,[],[],?_⟩)
     try simp only [go_sem]
   ·refine AB (Z ?_)
    cases h
    simp only [go_sem]
theorem Qm (a0 a1 r) (h:H1 a0 a1=some r):AC Tryz.prog 56 [.ro (List.map Agent.ds a0),.int .i64 a1] (.int .i64 r):=by
 unfold H1 at h
 refine AZ mixed Tryz.func56 rfl rfl rfl (by kernel_rfl) (by kernel_rfl) (Z ?_)
 refine AD h (fun h=>Z ?_) (fun h=>Z ?_)
 ·cases h
  simp only [go_sem]
 ·refine AB (Z ?_)
  refine Aa (AH rfl rfl (Nu fuel a0 (IntKind.i64.wrap (a1 - ((List.length a0:Nat):Int))) 0 _ h):) (.one ⟨_,.done _,[],[],?_⟩)
  try simp only [go_sem]
theorem P8 (a0 a1 r) (h:Jg a0 a1=some r):AC Tryz.prog 14 [.agg (Net.avs a0),.int .i64 a1] (.int .i64 r):=by
 unfold Jg at h
 refine AZ mixed Tryz.func14 rfl rfl rfl (by kernel_rfl) (by kernel_rfl) (Z ?_)
 replace h:=AF h; obtain⟨u,w,h⟩:=h
 refine AJ (Qm _ _ _ w) (Z ?_)
 refine AB (Z ?_)
 refine AD h (fun h=>Z ?_) (fun h=>Z ?_)
 ·cases h
  simp only [go_sem]
 ·refine AB (Z ?_)
  cases h
  simp only [go_sem]
theorem QI (n:Nat):(∀a0 u w r,En n a0 u w=some r→BG Tryz.prog Tryz.f13 [1,1,1,0,1,0] (.int .i64 r) ⟨[(0,.ro (List.map Net.ds a0)),(1,.int .i64 u),(5,.int .i64 w)],[],[]⟩):=by
 induction n with
 |zero=>exact((fun _ _ _ _ h=>by rw [En] at h; cases h))
 | succ n ih=>
  have ih0:=ih
  ·intro a0 u w r h
   rw [En] at h
   refine AT rfl rfl (Z ?_)
   refine Ah (Z ?_)
   refine AD h (fun h=>Z ?_) (fun h=>Z ?_)
   ·refine AB (Z ?_)
    replace h:=AF h; obtain⟨y,q,h⟩:=h
    refine AR q (Net.ds_len _) (Z ?_)
    replace h:=AF h; obtain⟨g,j,h⟩:=h
    refine AJ (P8 _ _ _ j) (Z ?_)
    refine AB (Z ?_)
    refine AD h (fun h=>Z ?_) (fun h=>Z ?_)
    ·cases h
     simp only [go_sem]
    ·refine AB (Z ?_)
     refine An (AH rfl rfl (ih0 a0 g (IntKind.i64.wrap (w+1)) _ h):) (.one ⟨_,.done _,[],[],?_⟩)
     try simp only [go_sem]
   ·refine AB (Z ?_)
    cases h
    simp only [go_sem]
theorem UH (a0 a1 r) (h:Kk a0 a1=some r):AC Tryz.prog 13 [.ro (List.map Net.ds a0),.int .i64 a1] (.int .i64 r):=by
 unfold Kk at h
 refine AZ mixed Tryz.func13 rfl rfl rfl (by kernel_rfl) (by kernel_rfl) (Z ?_)
 refine AD h (fun h=>Z ?_) (fun h=>Z ?_)
 ·cases h
  simp only [go_sem]
 ·refine AB (Z ?_)
  refine Aa (AH rfl rfl (QI fuel a0 (IntKind.i64.wrap (a1 - ((List.length a0:Nat):Int))) 0 _ h):) (.one ⟨_,.done _,[],[],?_⟩)
  try simp only [go_sem]
theorem UK (a0 r) (h:I9 a0=some r):AC Tryz.prog 218 [.agg (Port.avs a0)] (.agg (Port.rv r)):=by
 unfold I9 at h
 refine AZ mixed Tryz.func218 rfl rfl rfl (by kernel_rfl) (by kernel_rfl) (Z ?_)
 refine AB (Z ?_)
 refine AB (Z ?_)
 cases h
 simp only [go_sem]
theorem Ob (n:Nat):(∀a0 u w r,EB n a0 u w=some r→BG Tryz.prog Tryz.f180 [1,1,0,1,0] (.ow (some 2) (List.map Port.ds r)) ⟨[(0,.ro (List.map Port.ds a0)),(3,.own 1000001000),(4,.int .i64 w)],[(1000001000,some ⟨List.map Port.ds u,some 2,0,false⟩)],[]⟩):=by
 induction n with
 |zero=>exact((fun _ _ _ _ h=>by rw [EB] at h; cases h))
 | succ n ih=>
  have ih0:=ih
  ·intro a0 u w r h
   rw [EB] at h
   refine AT rfl rfl (Z ?_)
   refine Ah (Z ?_)
   refine AD h (fun h=>Z ?_) (fun h=>Z ?_)
   ·refine AB (Z ?_)
    replace h:=AF h; obtain⟨y,q,h⟩:=h
    refine AR q (Port.ds_len _) (Z ?_)
    replace h:=AF h; obtain⟨g,j,h⟩:=h
    refine AJ (UK _ _ j) (Z ?_)
    replace h:=AF h; obtain⟨k,b,h⟩:=h
    refine AR b (Port.ds_len _) (Z ?_)
    replace h:=AF h; obtain⟨d,c,h⟩:=h
    refine Ac (AX b) (Z ?_)
    refine A9 (List.map Port.ds d) (by rw [← Az c]; simp only [List.map_set,go_sem,Port.ds_eq]) (Z ?_)
    refine AB (Z ?_)
    refine An (AH rfl rfl (ih0 a0 d (IntKind.i64.wrap (w+1)) _ h):) (.one ⟨_,.done _,[(1000001000,1000001000)],[],?_⟩)
    try simp only [go_sem]
   ·refine AB (Z ?_)
    cases h
    simp only [go_sem]
theorem SU (a0 r) (h:JA a0=some r):AC Tryz.prog 180 [.ro (List.map Port.ds a0)] (.ow (some 2) (List.map Port.ds r)):=by
 unfold JA at h
 refine AZ mixed Tryz.func180 rfl rfl rfl (by kernel_rfl) (by kernel_rfl) (Z ?_)
 replace h:=AF h; obtain⟨u,w,h⟩:=h
 have hq_:=Hv w
 obtain⟨hv2002a,hv2002b,hv2002c⟩:=hq_
 refine BR (by refine⟨?_,?_,?_⟩ <;> omega) (Z ?_)
 refine A9 (List.map Port.ds u) (by rw [← hv2002c]; simp only [List.map_replicate,go_sem,Port.ds_eq]) (Z ?_)
 refine AB (Z ?_)
 refine Aa (AH rfl rfl (Ob fuel a0 u 0 _ h):) (.one ⟨_,.done _,[(1000001000,32032)],[],?_⟩)
 try simp only [go_sem]
theorem SV (a0 r) (h:Hc a0=some r):AC Tryz.prog 110 [.agg (Agent.avs a0)] (.agg (Agent.rv r)):=by
 unfold Hc at h
 refine AZ mixed Tryz.func110 rfl rfl rfl (by kernel_rfl) (by kernel_rfl) (Z ?_)
 refine AB (Z ?_)
 refine AB (Z ?_)
 replace h:=AF h; obtain⟨u,w,h⟩:=h
 refine AJ (Qg _ _ w) (Z ?_)
 refine AB (Z ?_)
 replace h:=AF h; obtain⟨y,q,h⟩:=h
 refine AJ (SU _ _ q) (Z ?_)
 refine AB (Z ?_)
 cases h
 simp only [go_sem]
theorem Nv (n:Nat):(∀a0 u w r,Dl n a0 u w=some r→BG Tryz.prog Tryz.f63 [1,1,0,1,0] (.ow (some 5) (List.map Agent.ds r)) ⟨[(0,.ro (List.map Agent.ds a0)),(3,.own 1000001000),(4,.int .i64 w)],[(1000001000,some ⟨List.map Agent.ds u,some 5,0,false⟩)],[]⟩):=by
 induction n with
 |zero=>exact((fun _ _ _ _ h=>by rw [Dl] at h; cases h))
 | succ n ih=>
  have ih0:=ih
  ·intro a0 u w r h
   rw [Dl] at h
   refine AT rfl rfl (Z ?_)
   refine Ah (Z ?_)
   refine AD h (fun h=>Z ?_) (fun h=>Z ?_)
   ·refine AB (Z ?_)
    replace h:=AF h; obtain⟨y,q,h⟩:=h
    refine AR q (Agent.ds_len _) (Z ?_)
    replace h:=AF h; obtain⟨g,j,h⟩:=h
    refine AJ (SV _ _ j) (Z ?_)
    replace h:=AF h; obtain⟨k,b,h⟩:=h
    refine AR b (Agent.ds_len _) (Z ?_)
    replace h:=AF h; obtain⟨d,c,h⟩:=h
    refine Ac (AX b) (Z ?_)
    refine A9 (List.map Agent.ds d) (by rw [← Az c]; simp only [List.map_set,go_sem,Agent.ds_eq]) (Z ?_)
    refine AB (Z ?_)
    refine An (AH rfl rfl (ih0 a0 d (IntKind.i64.wrap (w+1)) _ h):) (.one ⟨_,.done _,[(1000001000,1000001000)],[],?_⟩)
    try simp only [go_sem]
   ·refine AB (Z ?_)
    cases h
    simp only [go_sem]
theorem Qn (a0 r) (h:H2 a0=some r):AC Tryz.prog 63 [.ro (List.map Agent.ds a0)] (.ow (some 5) (List.map Agent.ds r)):=by
 unfold H2 at h
 refine AZ mixed Tryz.func63 rfl rfl rfl (by kernel_rfl) (by kernel_rfl) (Z ?_)
 replace h:=AF h; obtain⟨u,w,h⟩:=h
 have hq_:=Hv w
 obtain⟨hv2002a,hv2002b,hv2002c⟩:=hq_
 refine BR (by refine⟨?_,?_,?_⟩ <;> omega) (Z ?_)
 refine A9 (List.map Agent.ds u) (by rw [← hv2002c]; simp only [List.map_replicate,go_sem,Agent.ds_eq]) (Z ?_)
 refine AB (Z ?_)
 refine Aa (AH rfl rfl (Nv fuel a0 u 0 _ h):) (.one ⟨_,.done _,[(1000001000,32032)],[],?_⟩)
 try simp only [go_sem]
theorem IF (a0 r) (h:F3 a0=some r):AC Tryz.prog 18 [.agg (Net.avs a0)] (.agg (Net.rv r)):=by
 unfold F3 at h
 refine AZ mixed Tryz.func18 rfl rfl rfl (by kernel_rfl) (by kernel_rfl) (Z ?_)
 refine AB (Z ?_)
 refine AB (Z ?_)
 replace h:=AF h; obtain⟨u,w,h⟩:=h
 refine AJ (Qn _ _ w) (Z ?_)
 refine AB (Z ?_)
 cases h
 simp only [go_sem]
theorem QJ (n:Nat):(∀a0 u w r,Eo n a0 u w=some r→BG Tryz.prog Tryz.f17 [1,1,0,1,0] (.ow (some 1) (List.map Net.ds r)) ⟨[(0,.ro (List.map Net.ds a0)),(3,.own 1000001000),(4,.int .i64 w)],[(1000001000,some ⟨List.map Net.ds u,some 1,0,false⟩)],[]⟩):=by
 induction n with
 |zero=>exact((fun _ _ _ _ h=>by rw [Eo] at h; cases h))
 | succ n ih=>
  have ih0:=ih
  ·intro a0 u w r h
   rw [Eo] at h
   refine AT rfl rfl (Z ?_)
   refine Ah (Z ?_)
   refine AD h (fun h=>Z ?_) (fun h=>Z ?_)
   ·refine AB (Z ?_)
    replace h:=AF h; obtain⟨y,q,h⟩:=h
    refine AR q (Net.ds_len _) (Z ?_)
    replace h:=AF h; obtain⟨g,j,h⟩:=h
    refine AJ (IF _ _ j) (Z ?_)
    replace h:=AF h; obtain⟨k,b,h⟩:=h
    refine AR b (Net.ds_len _) (Z ?_)
    replace h:=AF h; obtain⟨d,c,h⟩:=h
    refine Ac (AX b) (Z ?_)
    refine A9 (List.map Net.ds d) (by rw [← Az c]; simp only [List.map_set,go_sem,Net.ds_eq]) (Z ?_)
    refine AB (Z ?_)
    refine An (AH rfl rfl (ih0 a0 d (IntKind.i64.wrap (w+1)) _ h):) (.one ⟨_,.done _,[(1000001000,1000001000)],[],?_⟩)
    try simp only [go_sem]
   ·refine AB (Z ?_)
    cases h
    simp only [go_sem]
theorem Id (a0 r) (h:F2 a0=some r):AC Tryz.prog 17 [.ro (List.map Net.ds a0)] (.ow (some 1) (List.map Net.ds r)):=by
 unfold F2 at h
 refine AZ mixed Tryz.func17 rfl rfl rfl (by kernel_rfl) (by kernel_rfl) (Z ?_)
 replace h:=AF h; obtain⟨u,w,h⟩:=h
 have hq_:=Hv w
 obtain⟨hv2002a,hv2002b,hv2002c⟩:=hq_
 refine BR (by refine⟨?_,?_,?_⟩ <;> omega) (Z ?_)
 refine A9 (List.map Net.ds u) (by rw [← hv2002c]; simp only [List.map_replicate,go_sem,Net.ds_eq]) (Z ?_)
 refine AB (Z ?_)
 refine Aa (AH rfl rfl (QJ fuel a0 u 0 _ h):) (.one ⟨_,.done _,[(1000001000,32032)],[],?_⟩)
 try simp only [go_sem]
theorem UL (a0 a1 r) (h:JB a0 a1=some r):AC Tryz.prog 222 [.agg (Port.avs a0),.agg (Port.avs a1)] (.bool r):=by
 unfold JB at h
 refine AZ mixed Tryz.func222 rfl rfl rfl (by kernel_rfl) (by kernel_rfl) (Z ?_)
 refine AD h (fun h=>Z ?_) (fun h=>Z ?_)
 ·cases h
  simp only [go_sem]
 ·refine AB (Z ?_)
  refine AD h (fun h=>Z ?_) (fun h=>Z ?_)
  ·cases h
   simp only [go_sem]
  ·refine AB (Z ?_)
   cases h
   simp only [go_sem]
theorem Oc (n:Nat):(∀a0 a1 u r,EC n a0 a1 u=some r→BG Tryz.prog Tryz.f187 [1,1,0,1,0] (.bool r) ⟨[(0,.ro (List.map Port.ds a0)),(1,.ro (List.map Port.ds a1)),(5,.int .i64 u)],[],[]⟩):=by
 induction n with
 |zero=>exact((fun _ _ _ _ h=>by rw [EC] at h; cases h))
 | succ n ih=>
  have ih0:=ih
  ·intro a0 a1 u r h
   rw [EC] at h
   refine AT rfl rfl (Z ?_)
   refine Ah (Z ?_)
   refine AD h (fun h=>Z ?_) (fun h=>Z ?_)
   ·refine AB (Z ?_)
    refine Af [] .fin (by kernel_rfl) (Z ?_)
    replace h:=AF h; obtain⟨w,y,h⟩:=h
    refine AR y (Port.ds_len _) (Z ?_)
    replace h:=AF h; obtain⟨q,g,h⟩:=h
    refine AR g (Port.ds_len _) (Z ?_)
    replace h:=AF h; obtain⟨j,k,h⟩:=h
    refine AJ (UL _ _ _ k) (Z ?_)
    refine AB (Z ?_)
    refine AD h (fun h=>Z ?_) (fun h=>Z ?_)
    ·cases h
     simp only [go_sem]
    ·refine AB (Z ?_)
     refine An (AH rfl rfl (ih0 a0 a1 (IntKind.i64.wrap (u+1)) _ h):) (.one ⟨_,.done _,[],[],?_⟩)
     try simp only [go_sem]
   ·refine AB (Z ?_)
    cases h
    simp only [go_sem]
theorem SW (a0 a1 r) (h:JC a0 a1=some r):AC Tryz.prog 187 [.ro (List.map Port.ds a0),.ro (List.map Port.ds a1)] (.bool r):=by
 unfold JC at h
 refine AZ mixed Tryz.func187 rfl rfl rfl (by kernel_rfl) (by kernel_rfl) (Z ?_)
 refine AD h (fun h=>Z ?_) (fun h=>Z ?_)
 ·cases h
  simp only [go_sem]
 ·refine AB (Z ?_)
  refine Aa (AH rfl rfl (Oc fuel a0 a1 0 _ h):) (.one ⟨_,.done _,[],[],?_⟩)
  try simp only [go_sem]
theorem SX (a0 a1 r) (h:Hd a0 a1=some r):AC Tryz.prog 119 [.agg (Agent.avs a0),.agg (Agent.avs a1)] (.bool r):=by
 unfold Hd at h
 refine AZ mixed Tryz.func119 rfl rfl rfl (by kernel_rfl) (by kernel_rfl) (Z ?_)
 refine AD h (fun h=>Z ?_) (fun h=>Z ?_)
 ·cases h
  simp only [go_sem]
 ·refine AB (Z ?_)
  refine AD h (fun h=>Z ?_) (fun h=>Z ?_)
  ·cases h
   simp only [go_sem]
  ·refine AB (Z ?_)
   refine AD h (fun h=>Z ?_) (fun h=>Z ?_)
   ·cases h
    simp only [go_sem]
   ·refine AB (Z ?_)
    replace h:=AF h; obtain⟨u,w,h⟩:=h
    refine AJ (Qh _ _ _ w) (Z ?_)
    refine AB (Z ?_)
    refine AD h (fun h=>Z ?_) (fun h=>Z ?_)
    ·cases h
     simp only [go_sem]
    ·refine AB (Z ?_)
     replace h:=AF h; obtain⟨y,q,h⟩:=h
     refine AJ (SW _ _ _ q) (Z ?_)
     refine AB (Z ?_)
     refine AD h (fun h=>Z ?_) (fun h=>Z ?_)
     ·cases h
      simp only [go_sem]
     ·refine AB (Z ?_)
      cases h
      simp only [go_sem]
theorem Nw (n:Nat):(∀a0 a1 u r,Dm n a0 a1 u=some r→BG Tryz.prog Tryz.f69 [1,1,0,1,0] (.bool r) ⟨[(0,.ro (List.map Agent.ds a0)),(1,.ro (List.map Agent.ds a1)),(5,.int .i64 u)],[],[]⟩):=by
 induction n with
 |zero=>exact((fun _ _ _ _ h=>by rw [Dm] at h; cases h))
 | succ n ih=>
  have ih0:=ih
  ·intro a0 a1 u r h
   rw [Dm] at h
   refine AT rfl rfl (Z ?_)
   refine Ah (Z ?_)
   refine AD h (fun h=>Z ?_) (fun h=>Z ?_)
   ·refine AB (Z ?_)
    refine Af [] .fin (by kernel_rfl) (Z ?_)
    replace h:=AF h; obtain⟨w,y,h⟩:=h
    refine AR y (Agent.ds_len _) (Z ?_)
    replace h:=AF h; obtain⟨q,g,h⟩:=h
    refine AR g (Agent.ds_len _) (Z ?_)
    replace h:=AF h; obtain⟨j,k,h⟩:=h
    refine AJ (SX _ _ _ k) (Z ?_)
    refine AB (Z ?_)
    refine AD h (fun h=>Z ?_) (fun h=>Z ?_)
    ·cases h
     simp only [go_sem]
    ·refine AB (Z ?_)
     refine An (AH rfl rfl (ih0 a0 a1 (IntKind.i64.wrap (u+1)) _ h):) (.one ⟨_,.done _,[],[],?_⟩)
     try simp only [go_sem]
   ·refine AB (Z ?_)
    cases h
    simp only [go_sem]
theorem Qo (a0 a1 r) (h:H3 a0 a1=some r):AC Tryz.prog 69 [.ro (List.map Agent.ds a0),.ro (List.map Agent.ds a1)] (.bool r):=by
 unfold H3 at h
 refine AZ mixed Tryz.func69 rfl rfl rfl (by kernel_rfl) (by kernel_rfl) (Z ?_)
 refine AD h (fun h=>Z ?_) (fun h=>Z ?_)
 ·cases h
  simp only [go_sem]
 ·refine AB (Z ?_)
  refine Aa (AH rfl rfl (Nw fuel a0 a1 0 _ h):) (.one ⟨_,.done _,[],[],?_⟩)
  try simp only [go_sem]
theorem IG (a0 a1 r) (h:FI a0 a1=some r):AC Tryz.prog 23 [.agg (Net.avs a0),.agg (Net.avs a1)] (.bool r):=by
 unfold FI at h
 refine AZ mixed Tryz.func23 rfl rfl rfl (by kernel_rfl) (by kernel_rfl) (Z ?_)
 replace h:=AF h; obtain⟨u,w,h⟩:=h
 refine AJ (Qo _ _ _ w) (Z ?_)
 refine AB (Z ?_)
 refine AD h (fun h=>Z ?_) (fun h=>Z ?_)
 ·cases h
  simp only [go_sem]
 ·refine AB (Z ?_)
  cases h
  simp only [go_sem]
theorem QK (n:Nat):(∀a0 a1 u r,Ep n a0 a1 u=some r→BG Tryz.prog Tryz.f22 [1,1,0,1,0] (.bool r) ⟨[(0,.ro (List.map Net.ds a0)),(1,.ro (List.map Net.ds a1)),(5,.int .i64 u)],[],[]⟩):=by
 induction n with
 |zero=>exact((fun _ _ _ _ h=>by rw [Ep] at h; cases h))
 | succ n ih=>
  have ih0:=ih
  ·intro a0 a1 u r h
   rw [Ep] at h
   refine AT rfl rfl (Z ?_)
   refine Ah (Z ?_)
   refine AD h (fun h=>Z ?_) (fun h=>Z ?_)
   ·refine AB (Z ?_)
    refine Af [] .fin (by kernel_rfl) (Z ?_)
    replace h:=AF h; obtain⟨w,y,h⟩:=h
    refine AR y (Net.ds_len _) (Z ?_)
    replace h:=AF h; obtain⟨q,g,h⟩:=h
    refine AR g (Net.ds_len _) (Z ?_)
    replace h:=AF h; obtain⟨j,k,h⟩:=h
    refine AJ (IG _ _ _ k) (Z ?_)
    refine AB (Z ?_)
    refine AD h (fun h=>Z ?_) (fun h=>Z ?_)
    ·cases h
     simp only [go_sem]
    ·refine AB (Z ?_)
     refine An (AH rfl rfl (ih0 a0 a1 (IntKind.i64.wrap (u+1)) _ h):) (.one ⟨_,.done _,[],[],?_⟩)
     try simp only [go_sem]
   ·refine AB (Z ?_)
    cases h
    simp only [go_sem]
theorem UG (a0 a1 r) (h:I4 a0 a1=some r):AC Tryz.prog 22 [.ro (List.map Net.ds a0),.ro (List.map Net.ds a1)] (.bool r):=by
 unfold I4 at h
 refine AZ mixed Tryz.func22 rfl rfl rfl (by kernel_rfl) (by kernel_rfl) (Z ?_)
 refine AD h (fun h=>Z ?_) (fun h=>Z ?_)
 ·cases h
  simp only [go_sem]
 ·refine AB (Z ?_)
  refine Aa (AH rfl rfl (QK fuel a0 a1 0 _ h):) (.one ⟨_,.done _,[],[],?_⟩)
  try simp only [go_sem]
theorem OI (a0 r) (h:I5 a0=some r):AC Tryz.prog 108 [.ro (List.map Au a0)] (.ow (some 1) (List.map Au r)):=by
 unfold I5 at h
 refine AZ mixed Tryz.func108 rfl rfl rfl (by kernel_rfl) (by kernel_rfl) (Z ?_)
 replace h:=AF h; obtain⟨u,w,h⟩:=h
 have hq_:=BS w
 obtain⟨hv2002a,hv2002b⟩:=hq_
 refine EJ false (Z ?_)
 refine BR (Fu (by intro x; exact⟨rfl,by simp [go_sem,D.flat]⟩) _) (Z ?_)
 refine BR (by refine⟨?_,?_⟩ <;> (try simp only [List.length_map,List.length_append,List.length_cons,List.length_nil] at*) <;> (try unfold maxLen) <;> omega) (Z ?_)
 refine A9 (List.map Au u) (by rw [← hv2002b]; simp only [List.map_append,List.map_cons,List.map_nil,List.nil_append,List.append_nil,go_sem,slD]) (Z ?_)
 refine AB (Z ?_)
 cases h
 simp only [go_sem]
theorem DF (a0 r) (h:s_l11OwnAgent a0=some r):AC Tryz.prog 122 [.rop (Agent.avs a0) 0] (.agg (Agent.rv r)):=by
 unfold s_l11OwnAgent at h
 refine AZ mixed Tryz.func122 rfl rfl rfl (by kernel_rfl) (by kernel_rfl) (Z ?_)
 refine AB (Z ?_)
 refine Af [false,false,false,false,false,false,false,false,false,false,false,false,false,false,false,false,false,false,false,false,false,false,false,false,true] (Tr.sq [24] .fin) (by kernel_rfl) (Z ?_)
 replace h:=AF h; obtain⟨u,w,h⟩:=h
 refine AJ (OI _ _ w) (Z ?_)
 replace h:=AF h; obtain⟨y,q,h⟩:=h
 have hq_:=BS q
 obtain⟨hv2022a,hv2022b⟩:=hq_
 refine BR (by rfl) (Z ?_)
 refine EJ false (Z ?_)
 refine BR (Fu (by intro x; exact⟨(Port.ds_len _),by simp [Port.ds_eq,D.flat]⟩) _) (Z ?_)
 refine BR (by refine⟨?_,?_⟩ <;> (try simp only [List.length_map,List.length_append,List.length_cons,List.length_nil] at*) <;> (try unfold maxLen) <;> omega) (Z ?_)
 refine A9 (List.map Port.ds y) (by rw [← hv2022b]; simp only [List.nil_append]) (Z ?_)
 refine AB (Z ?_)
 cases h
 simp only [go_sem]
theorem Io (n:Nat):(∀ (a0:List Int) (u:Int) (f1:(Int→Option Bool)) (g1:FuncId) (c1:List AV) (s1:Still c1) (h1:∀ (y0:Int) (q:Bool),f1 y0=some q→AC Tryz.prog g1 (.int .i64 y0::c1) (.bool q)) (r:Int),BZ n a0 u f1=some r→BG Tryz.prog Tryz.f219 [1,0,1,0] (.int .i64 r) ⟨[(0,.ro (List.map Au a0)),(1,.fn g1 c1),(7,.int .i64 ((List.length a0:Nat):Int)),(8,.int .i64 u)],[],[]⟩):=by
 induction n with
 |zero=>exact((fun _ _ _ _ _ _ _ _ h=>by rw [BZ] at h; cases h))
 | succ n ih=>
  have ih0:=ih
  ·intro a0 u f1 g1 c1 s1 h1 r h
   rw [BZ] at h
   refine AT rfl rfl ?_
   try simp only [go_sem,s1.k,s1.r,s1.c,s1.p]
   refine Ah ?_
   try simp only [go_sem,s1.k,s1.r,s1.c,s1.p]
   refine AD h (fun h=>?_) (fun h=>?_)
   ·try simp only [go_sem,s1.k,s1.r,s1.c,s1.p]
    refine AB ?_
    try simp only [go_sem,s1.k,s1.r,s1.c,s1.p]
    replace h:=AF h; obtain⟨w,y,h⟩:=h
    refine AR y rfl ?_
    try simp only [go_sem,s1.k,s1.r,s1.c,s1.p]
    replace h:=AF h; obtain⟨g,j,h⟩:=h
    refine AJ (h1 _ _ j) ?_
    try simp only [go_sem,s1.k,s1.r,s1.c,s1.p]
    refine AB ?_
    try simp only [go_sem,s1.k,s1.r,s1.c,s1.p]
    refine AD h (fun h=>?_) (fun h=>?_)
    ·try simp only [go_sem,s1.k,s1.r,s1.c,s1.p]
     cases h
     simp only [go_sem,s1.k,s1.r,s1.c,s1.p]
    ·try simp only [go_sem,s1.k,s1.r,s1.c,s1.p]
     refine AB ?_
     try simp only [go_sem,s1.k,s1.r,s1.c,s1.p]
     refine An (AH rfl rfl (ih0 a0 (IntKind.i64.wrap (u+1)) f1 g1 c1 s1 h1 _ h):) (.one ⟨_,.done _,[],[],?_⟩)
     try simp only [go_sem,s1.k,s1.r,s1.c,s1.p]
   ·try simp only [go_sem,s1.k,s1.r,s1.c,s1.p]
    refine AB ?_
    try simp only [go_sem,s1.k,s1.r,s1.c,s1.p]
    cases h
    simp only [go_sem,s1.k,s1.r,s1.c,s1.p]
theorem J6 (a0:List Int) (f1:(Int→Option Bool)) (g1:FuncId) (c1:List AV) (s1:Still c1) (h1:∀ (y0:Int) (q:Bool),f1 y0=some q→AC Tryz.prog g1 (.int .i64 y0::c1) (.bool q)) (r:Int) (h:ED a0 f1=some r):AC Tryz.prog 219 [.ro (List.map Au a0),.fn g1 c1] (.int .i64 r):=by
 unfold ED at h
 refine AZ mixed Tryz.func219 rfl rfl rfl (by kernel_rfl) (by kernel_rfl) ?_
 try simp only [go_sem,s1.k,s1.r,s1.c,s1.p]
 refine Aa (AH rfl rfl (Io fuel a0 0 f1 g1 c1 s1 h1 _ h):) (.one ⟨_,.done _,[],[],?_⟩)
 try simp only [go_sem,s1.k,s1.r,s1.c,s1.p]
theorem Ip (a0:List Int) (f1:(Int→Option Bool)) (g1:FuncId) (c1:List AV) (s1:Still c1) (h1:∀ (y0:Int) (q:Bool),f1 y0=some q→AC Tryz.prog g1 (.int .i64 y0::c1) (.bool q)) (r:Bool) (h:Bs a0 f1=some r):AC Tryz.prog 181 [.ro (List.map Au a0),.fn g1 c1] (.bool r):=by
 unfold Bs at h
 refine AZ mixed Tryz.func181 rfl rfl rfl (by kernel_rfl) (by kernel_rfl) ?_
 try simp only [go_sem,s1.k,s1.r,s1.c,s1.p]
 replace h:=AF h; obtain⟨u,w,h⟩:=h
 refine AJ (J6 _ _ g1 c1 s1 h1 _ w) ?_
 try simp only [go_sem,s1.k,s1.r,s1.c,s1.p]
 refine AB ?_
 try simp only [go_sem,s1.k,s1.r,s1.c,s1.p]
 cases h
 simp only [go_sem,s1.k,s1.r,s1.c,s1.p]
theorem K9 (a0 r) (h:H4 a0=some r):AC Tryz.prog 241 [.int .i64 a0] (.bool r):=by
 unfold H4 at h
 refine AZ mixed Tryz.func241 rfl rfl rfl (by kernel_rfl) (by kernel_rfl) (Z ?_)
 refine AD h (fun h=>Z ?_) (fun h=>Z ?_)
 ·refine AB (Z ?_)
  cases h
  simp only [go_sem]
 ·refine AB (Z ?_)
  cases h
  simp only [go_sem]
theorem HA (a0:Int) (u:Bool) (r:Int) (h:Da a0 u=some r):BG Tryz.prog Tryz.f231 [1,0,0,1,1,1] (.int .i64 r) ⟨[(0,.int .i64 a0),(18,.bool u)],[],[]⟩:=by
 unfold Da at h
 refine AT rfl rfl (Z ?_)
 refine AD h (fun h=>Z ?_) (fun h=>Z ?_)
 ·cases h
  simp only [go_sem]
 ·refine AB (Z ?_)
  replace h:=AF h; obtain⟨w,y,h⟩:=h
  refine Ac y (Z ?_)
  cases h
  simp only [go_sem]
theorem HB (a0:Int) (a1:Int) (u:Bool) (r:Int) (h:Cz a0 a1 u=some r):BG Tryz.prog Tryz.f231 [1,0,0,1] (.int .i64 r) ⟨[(0,.int .i64 a0),(1,.int .i64 a1),(5,.bool u)],[],[]⟩:=by
 unfold Cz at h
 refine AT rfl rfl (Z ?_)
 refine AD h (fun h=>Z ?_) (fun h=>Z ?_)
 ·cases h
  simp only [go_sem]
 ·replace h:=AF h; obtain⟨w,y,h⟩:=h
  refine AJ (K9 _ _ y) (Z ?_)
  refine AD h (fun h=>Z ?_) (fun h=>Z ?_)
  ·refine AK (AH rfl rfl (HA a0 true _ h):) (.one ⟨_,.done _,[],[],?_⟩)
   try simp only [go_sem]
  ·refine AD h (fun h=>Z ?_) (fun h=>Z ?_)
   ·refine AK (AH rfl rfl (HA a0 true _ h):) (.one ⟨_,.done _,[],[],?_⟩)
    try simp only [go_sem]
   ·refine AK (AH rfl rfl (HA a0 (!decide (a1=0)) _ h):) (.one ⟨_,.done _,[],[],?_⟩)
    try simp only [go_sem]
theorem SY (a0 a1 r) (h:Fe a0 a1=some r):AC Tryz.prog 231 [.int .i64 a0,.int .i64 a1] (.int .i64 r):=by
 unfold Fe at h
 refine AZ mixed Tryz.func231 rfl rfl rfl (by kernel_rfl) (by kernel_rfl) (Z ?_)
 refine AD h (fun h=>Z ?_) (fun h=>Z ?_)
 ·refine AD h (fun h=>Z ?_) (fun h=>Z ?_)
  ·refine AK (AH rfl rfl (HB a0 a1 (decide (a1≤3)) _ h):) (.one ⟨_,.done _,[],[],?_⟩)
   try simp only [go_sem]
  ·refine AK (AH rfl rfl (HB a0 a1 false _ h):) (.one ⟨_,.done _,[],[],?_⟩)
   try simp only [go_sem]
 ·refine AK (AH rfl rfl (HB a0 a1 false _ h):) (.one ⟨_,.done _,[],[],?_⟩)
  try simp only [go_sem]
theorem Qp (a0 a1 r) (h:H5 a0 a1=some r):AC Tryz.prog 232 [.int .i64 a0,.int .i64 a1] (.int .i64 r):=by
 unfold H5 at h
 refine AZ mixed Tryz.func232 rfl rfl rfl (by kernel_rfl) (by kernel_rfl) (Z ?_)
 refine AD h (fun h=>Z ?_) (fun h=>Z ?_)
 ·cases h
  simp only [go_sem]
 ·refine AB (Z ?_)
  cases h
  simp only [go_sem]
theorem Il (a0 r) (h:Dg a0=some r):AC Tryz.prog 211 [.int .i64 a0] (.bool r):=by
 unfold Dg at h
 refine AZ mixed Tryz.func211 rfl rfl rfl (by kernel_rfl) (by kernel_rfl) (Z ?_)
 replace h:=AF h; obtain⟨u,w,h⟩:=h
 refine AJ (K9 _ _ w) (Z ?_)
 refine AD h (fun h=>Z ?_) (fun h=>Z ?_)
 ·refine AD h (fun h=>Z ?_) (fun h=>Z ?_)
  ·refine AD h (fun h=>Z ?_) (fun h=>Z ?_)
   ·refine AB (Z ?_)
    cases h
    simp only [go_sem]
   ·refine AB (Z ?_)
    cases h
    simp only [go_sem]
  ·refine AB (Z ?_)
   cases h
   simp only [go_sem]
 ·refine AB (Z ?_)
  cases h
  simp only [go_sem]
theorem M2 (a0 r) (h:Fa a0=some r):AC Tryz.prog 247 [.int .i64 a0] (.bool r):=by
 unfold Fa at h
 refine AZ mixed Tryz.func247 rfl rfl rfl (by kernel_rfl) (by kernel_rfl) (Z ?_)
 refine AD h (fun h=>Z ?_) (fun h=>Z ?_)
 ·refine AB (Z ?_)
  cases h
  simp only [go_sem]
 ·refine AB (Z ?_)
  cases h
  simp only [go_sem]
theorem GH (a0 a1 r) (h:C5 a0 a1=some r):AC Tryz.prog 233 [.int .i64 a0,.int .i64 a1] (.bool r):=by
 unfold C5 at h
 refine AZ mixed Tryz.func233 rfl rfl rfl (by kernel_rfl) (by kernel_rfl) (Z ?_)
 replace h:=AF h; obtain⟨u,w,h⟩:=h
 refine AJ (K9 _ _ w) (Z ?_)
 refine AD h (fun h=>Z ?_) (fun h=>Z ?_)
 ·refine AD h (fun h=>Z ?_) (fun h=>Z ?_)
  ·refine AB (Z ?_)
   cases h
   simp only [go_sem]
  ·replace h:=AF h; obtain⟨y,q,h⟩:=h
   refine AJ (Il _ _ q) (Z ?_)
   refine AD h (fun h=>Z ?_) (fun h=>Z ?_)
   ·replace h:=AF h; obtain⟨g,j,h⟩:=h
    refine AJ (M2 _ _ j) (Z ?_)
    refine AB (Z ?_)
    cases h
    simp only [go_sem]
   ·refine AB (Z ?_)
    cases h
    simp only [go_sem]
 ·refine AB (Z ?_)
  cases h
  simp only [go_sem]
theorem J2 (a0 r) (h:E1 a0=some r):AC Tryz.prog 235 [.int .i64 a0] (.bool r):=by
 unfold E1 at h
 refine AZ mixed Tryz.func235 rfl rfl rfl (by kernel_rfl) (by kernel_rfl) (Z ?_)
 refine AD h (fun h=>Z ?_) (fun h=>Z ?_)
 ·refine AB (Z ?_)
  cases h
  simp only [go_sem]
 ·refine AB (Z ?_)
  cases h
  simp only [go_sem]
theorem NL (a0 r) (h:Er a0=some r):AC Tryz.prog 234 [.int .i64 a0] (.bool r):=by
 unfold Er at h
 refine AZ mixed Tryz.func234 rfl rfl rfl (by kernel_rfl) (by kernel_rfl) (Z ?_)
 replace h:=AF h; obtain⟨u,w,h⟩:=h
 refine AJ (J2 _ _ w) (Z ?_)
 refine AB (Z ?_)
 cases h
 simp only [go_sem]
theorem QL (a0 r) (h:LP a0=some r):AC Tryz.prog 236 [.int .i64 a0] (.bool r):=by
 unfold LP at h
 refine AZ mixed Tryz.func236 rfl rfl rfl (by kernel_rfl) (by kernel_rfl) (Z ?_)
 refine AD h (fun h=>Z ?_) (fun h=>Z ?_)
 ·refine AB (Z ?_)
  cases h
  simp only [go_sem]
 ·refine AB (Z ?_)
  cases h
  simp only [go_sem]
theorem J3 (a0 r) (h:E2 a0=some r):AC Tryz.prog 237 [.int .i64 a0] (.bool r):=by
 unfold E2 at h
 refine AZ mixed Tryz.func237 rfl rfl rfl (by kernel_rfl) (by kernel_rfl) (Z ?_)
 refine AD h (fun h=>Z ?_) (fun h=>Z ?_)
 ·refine AB (Z ?_)
  cases h
  simp only [go_sem]
 ·refine AB (Z ?_)
  cases h
  simp only [go_sem]
theorem A0 (u:Bool) (w:Bool) (r:Bool) (h:As u w=some r):BG Tryz.prog Tryz.f201 [1,1,1,1,1] (.bool r) ⟨[(3,.bool u),(4,.bool w)],[],[]⟩:=by
 unfold As at h
 refine AT rfl rfl (Z ?_)
 refine AD h (fun h=>Z ?_) (fun h=>Z ?_)
 ·refine AB (Z ?_)
  cases h
  simp only [go_sem]
 ·refine AB (Z ?_)
  cases h
  simp only [go_sem]
theorem FR (a0:Agent) (u:Bool) (r:Bool) (h:Bz a0 u=some r):BG Tryz.prog Tryz.f201 [1,0,1] (.bool r) ⟨[(1,.box 1000000500 0),(32,.bool u)],[],[(1000000500,some [.int .i64 a0.kind,.int .i64 a0.level,.int .i64 a0.value,.ro (List.map Au a0.data),.ro (List.map Port.ds a0.ports)])]⟩:=by
 unfold Bz at h
 refine AT rfl rfl (Z ?_)
 refine AD h (fun h=>Z ?_) (fun h=>Z ?_)
 ·cases h
  simp only [go_sem]
 ·refine AB (Z ?_)
  refine Af [] .fin (by kernel_rfl) (Z ?_)
  refine AB (Z ?_)
  replace h:=AF h; obtain⟨w,y,h⟩:=h
  refine AJ (Ip _ _ 234 [] (Still.of rfl) (fun y0 q hq=>NL y0  q hq) _ y) (Z ?_)
  refine AB (Z ?_)
  refine AD h (fun h=>Z ?_) (fun h=>Z ?_)
  ·replace h:=AF h; obtain⟨g,j,h⟩:=h
   refine AJ (QL _ _ j) (Z ?_)
   refine AK (AH rfl rfl (A0 g (decide (((List.length a0.data:Nat):Int)=0)) _ h):) (.one ⟨_,.done _,[],[],?_⟩)
   try simp only [go_sem]
  ·refine AD h (fun h=>Z ?_) (fun h=>Z ?_)
   ·replace h:=AF h; obtain⟨k,b,h⟩:=h
    refine AJ (J3 _ _ b) (Z ?_)
    refine AK (AH rfl rfl (A0 k (decide (((List.length a0.data:Nat):Int)=0)) _ h):) (.one ⟨_,.done _,[],[],?_⟩)
    try simp only [go_sem]
   ·refine AD h (fun h=>Z ?_) (fun h=>Z ?_)
    ·replace h:=AF h; obtain⟨d,c,h⟩:=h
     refine AJ (J3 _ _ c) (Z ?_)
     refine AD h (fun h=>Z ?_) (fun h=>Z ?_)
     ·refine AD h (fun h=>Z ?_) (fun h=>Z ?_)
      ·replace h:=AF h; obtain⟨e,i,h⟩:=h
       refine AR i rfl (Z ?_)
       replace h:=AF h; obtain⟨l,t,h⟩:=h
       refine AJ (QL _ _ t) (Z ?_)
       refine AB (Z ?_)
       cases h
       simp only [go_sem]
      ·refine AB (Z ?_)
       cases h
       simp only [go_sem]
     ·refine AB (Z ?_)
      cases h
      simp only [go_sem]
    ·refine AD h (fun h=>Z ?_) (fun h=>Z ?_)
     ·refine AD h (fun h=>Z ?_) (fun h=>Z ?_)
      ·refine AK (AH rfl rfl (A0 (decide (a0.value<4)) (decide (((List.length a0.data:Nat):Int)=0)) _ h):) (.one ⟨_,.done _,[],[],?_⟩)
       try simp only [go_sem]
      ·refine AK (AH rfl rfl (A0 false (decide (((List.length a0.data:Nat):Int)=0)) _ h):) (.one ⟨_,.done _,[],[],?_⟩)
       try simp only [go_sem]
     ·refine AD h (fun h=>Z ?_) (fun h=>Z ?_)
      ·refine AD h (fun h=>Z ?_) (fun h=>Z ?_)
       ·refine AD h (fun h=>Z ?_) (fun h=>Z ?_)
        ·refine AK (AH rfl rfl (A0 (decide (a0.value=0)) (!w) _ h):) (.one ⟨_,.done _,[],[],?_⟩)
         try simp only [go_sem]
        ·refine AK (AH rfl rfl (A0 (decide (a0.value=0)) false _ h):) (.one ⟨_,.done _,[],[],?_⟩)
         try simp only [go_sem]
       ·refine AK (AH rfl rfl (A0 (decide (a0.value=0)) false _ h):) (.one ⟨_,.done _,[],[],?_⟩)
        try simp only [go_sem]
      ·refine AD h (fun h=>Z ?_) (fun h=>Z ?_)
       ·refine AD h (fun h=>Z ?_) (fun h=>Z ?_)
        ·refine AK (AH rfl rfl (A0 (decide (a0.value=0)) (!w) _ h):) (.one ⟨_,.done _,[],[],?_⟩)
         try simp only [go_sem]
        ·refine AK (AH rfl rfl (A0 (decide (a0.value=0)) false _ h):) (.one ⟨_,.done _,[],[],?_⟩)
         try simp only [go_sem]
       ·refine AD h (fun h=>Z ?_) (fun h=>Z ?_)
        ·replace h:=AF h; obtain⟨s,o,h⟩:=h
         refine AJ (J2 _ _ o) (Z ?_)
         refine AK (AH rfl rfl (A0 s (decide (((List.length a0.data:Nat):Int)=0)) _ h):) (.one ⟨_,.done _,[],[],?_⟩)
         try simp only [go_sem]
        ·refine AK (AH rfl rfl (A0 (decide (a0.value=0)) (decide (((List.length a0.data:Nat):Int)=0)) _ h):) (.one ⟨_,.done _,[],[],?_⟩)
         try simp only [go_sem]
theorem Od (a0 r) (h:GA a0=some r):AC Tryz.prog 201 [.agg (Agent.avs a0)] (.bool r):=by
 unfold GA at h
 refine AZ mixed Tryz.func201 rfl rfl rfl (by kernel_rfl) (by kernel_rfl) (Z ?_)
 refine Af [] .fin (by kernel_rfl) (Z ?_)
 refine AD h (fun h=>Z ?_) (fun h=>Z ?_)
 ·refine AK (AH rfl rfl (FR a0 true _ h):) (.one ⟨_,.done _,[],[(1000000500,1000)],?_⟩)
  try simp only [go_sem]
 ·replace h:=AF h; obtain⟨u,w,h⟩:=h
  refine AJ (Qp _ _ _ w) (Z ?_)
  replace h:=AF h; obtain⟨y,q,h⟩:=h
  refine AJ (SY _ _ _ q) (Z ?_)
  refine AD h (fun h=>Z ?_) (fun h=>Z ?_)
  ·refine AK (AH rfl rfl (FR a0 true _ h):) (.one ⟨_,.done _,[],[(1000000500,1000)],?_⟩)
   try simp only [go_sem]
  ·replace h:=AF h; obtain⟨g,j,h⟩:=h
   refine AJ (GH _ _ _ j) (Z ?_)
   refine AK (AH rfl rfl (FR a0 (!g) _ h):) (.one ⟨_,.done _,[],[(1000000500,1000)],?_⟩)
   try simp only [go_sem]
theorem MR (n:Nat):(∀a0 u r,CE n a0 u=some r→BG Tryz.prog Tryz.f152 [1,1,0,1,0] (.bool r) ⟨[(13,.ro (List.map Agent.ds a0)),(14,.int .i64 ((List.length a0:Nat):Int)),(15,.int .i64 u)],[],[]⟩)∧
    (∀a0 u w r,DK n a0 u w=some r→BG Tryz.prog Tryz.f152 [1,1,0,1,0,0,1,1,0,0,1,1] (.bool r) ⟨[(13,.ro (List.map Agent.ds a0)),(14,.int .i64 ((List.length a0:Nat):Int)),(15,.int .i64 u),(30,.bool w)],[],[]⟩):=by
 induction n with
 |zero=>exact⟨(fun _ _ _ h=>by rw [CE] at h; cases h),(fun _ _ _ _ h=>by rw [DK] at h; cases h)⟩
 | succ n ih=>
  obtain⟨ih0,ih1⟩:=ih
  refine⟨?_,?_⟩
  ·intro a0 u r h
   rw [CE] at h
   refine AT rfl rfl (Z ?_)
   refine Ah (Z ?_)
   refine AD h (fun h=>Z ?_) (fun h=>Z ?_)
   ·refine AB (Z ?_)
    replace h:=AF h; obtain⟨y,q,h⟩:=h
    refine AR q (Agent.ds_len _) (Z ?_)
    refine AB (Z ?_)
    replace h:=AF h; obtain⟨g,j,h⟩:=h
    refine AJ (Od _ _ j) (Z ?_)
    refine AD h (fun h=>Z ?_) (fun h=>Z ?_)
    ·refine AK (AH rfl rfl (ih1 a0 u true _ h):) (.one ⟨_,.done _,[],[],?_⟩)
     try simp only [go_sem]
    ·refine AK (AH rfl rfl (ih1 a0 u (!((decide (y.kind=1)) == (decide (u=0)))) _ h):) (.one ⟨_,.done _,[],[],?_⟩)
     try simp only [go_sem]
   ·refine AB (Z ?_)
    cases h
    simp only [go_sem]
  ·intro a0 u w r h
   rw [DK] at h
   refine AT rfl rfl (Z ?_)
   refine AD h (fun h=>Z ?_) (fun h=>Z ?_)
   ·cases h
    simp only [go_sem]
   ·refine AB (Z ?_)
    refine An (AH rfl rfl (ih0 a0 (IntKind.i64.wrap (u+1)) _ h):) (.one ⟨_,.done _,[],[],?_⟩)
    try simp only [go_sem]
theorem NM (n:Nat):(∀a0 u r,CE n a0 u=some r→BG Tryz.prog Tryz.f152 [1,1,0,1,0] (.bool r) ⟨[(13,.ro (List.map Agent.ds a0)),(14,.int .i64 ((List.length a0:Nat):Int)),(15,.int .i64 u)],[],[]⟩):=(MR n).1
theorem Ih (a0:List Agent) (u:Bool) (r:Bool) (h:Dx a0 u=some r):BG Tryz.prog Tryz.f152 [1,0,1] (.bool r) ⟨[(0,.ro (List.map Agent.ds a0)),(12,.bool u)],[],[]⟩:=by
 unfold Dx at h
 refine AT rfl rfl (Z ?_)
 refine AD h (fun h=>Z ?_) (fun h=>Z ?_)
 ·cases h
  simp only [go_sem]
 ·refine AB (Z ?_)
  refine Aa (AH rfl rfl (NM fuel a0 0 _ h):) (.one ⟨_,.done _,[],[],?_⟩)
  try simp only [go_sem]
theorem QM (a0 r) (h:G6 a0=some r):AC Tryz.prog 152 [.ro (List.map Agent.ds a0)] (.bool r):=by
 unfold G6 at h
 refine AZ mixed Tryz.func152 rfl rfl rfl (by kernel_rfl) (by kernel_rfl) (Z ?_)
 refine AD h (fun h=>Z ?_) (fun h=>Z ?_)
 ·refine AK (AH rfl rfl (Ih a0 true _ h):) (.one ⟨_,.done _,[],[],?_⟩)
  try simp only [go_sem]
 ·refine AK (AH rfl rfl (Ih a0 (decide (600<((List.length a0:Nat):Int))) _ h):) (.one ⟨_,.done _,[],[],?_⟩)
  try simp only [go_sem]
theorem HC (n:Nat):(∀ (a0:List Port) (u:Int) (f1:(Port→Option Bool)) (g1:FuncId) (c1:List AV) (s1:Still c1) (h1:∀ (y0:Port) (q:Bool),f1 y0=some q→AC Tryz.prog g1 (.agg (Port.avs y0)::c1) (.bool q)) (r:Int),A8 n a0 u f1=some r→BG Tryz.prog Tryz.f202 [1,0,1,0] (.int .i64 r) ⟨[(0,.ro (List.map Port.ds a0)),(1,.fn g1 c1),(7,.int .i64 ((List.length a0:Nat):Int)),(8,.int .i64 u)],[],[]⟩):=by
 induction n with
 |zero=>exact((fun _ _ _ _ _ _ _ _ h=>by rw [A8] at h; cases h))
 | succ n ih=>
  have ih0:=ih
  ·intro a0 u f1 g1 c1 s1 h1 r h
   rw [A8] at h
   refine AT rfl rfl ?_
   try simp only [go_sem,s1.k,s1.r,s1.c,s1.p]
   refine Ah ?_
   try simp only [go_sem,s1.k,s1.r,s1.c,s1.p]
   refine AD h (fun h=>?_) (fun h=>?_)
   ·try simp only [go_sem,s1.k,s1.r,s1.c,s1.p]
    refine AB ?_
    try simp only [go_sem,s1.k,s1.r,s1.c,s1.p]
    replace h:=AF h; obtain⟨w,y,h⟩:=h
    refine AR y (Port.ds_len _) ?_
    try simp only [go_sem,s1.k,s1.r,s1.c,s1.p]
    replace h:=AF h; obtain⟨g,j,h⟩:=h
    refine AJ (h1 _ _ j) ?_
    try simp only [go_sem,s1.k,s1.r,s1.c,s1.p]
    refine AB ?_
    try simp only [go_sem,s1.k,s1.r,s1.c,s1.p]
    refine AD h (fun h=>?_) (fun h=>?_)
    ·try simp only [go_sem,s1.k,s1.r,s1.c,s1.p]
     cases h
     simp only [go_sem,s1.k,s1.r,s1.c,s1.p]
    ·try simp only [go_sem,s1.k,s1.r,s1.c,s1.p]
     refine AB ?_
     try simp only [go_sem,s1.k,s1.r,s1.c,s1.p]
     refine An (AH rfl rfl (ih0 a0 (IntKind.i64.wrap (u+1)) f1 g1 c1 s1 h1 _ h):) (.one ⟨_,.done _,[],[],?_⟩)
     try simp only [go_sem,s1.k,s1.r,s1.c,s1.p]
   ·try simp only [go_sem,s1.k,s1.r,s1.c,s1.p]
    refine AB ?_
    try simp only [go_sem,s1.k,s1.r,s1.c,s1.p]
    cases h
    simp only [go_sem,s1.k,s1.r,s1.c,s1.p]
theorem IS (a0:List Port) (f1:(Port→Option Bool)) (g1:FuncId) (c1:List AV) (s1:Still c1) (h1:∀ (y0:Port) (q:Bool),f1 y0=some q→AC Tryz.prog g1 (.agg (Port.avs y0)::c1) (.bool q)) (r:Int) (h:C0 a0 f1=some r):AC Tryz.prog 202 [.ro (List.map Port.ds a0),.fn g1 c1] (.int .i64 r):=by
 unfold C0 at h
 refine AZ mixed Tryz.func202 rfl rfl rfl (by kernel_rfl) (by kernel_rfl) ?_
 try simp only [go_sem,s1.k,s1.r,s1.c,s1.p]
 refine Aa (AH rfl rfl (HC fuel a0 0 f1 g1 c1 s1 h1 _ h):) (.one ⟨_,.done _,[],[],?_⟩)
 try simp only [go_sem,s1.k,s1.r,s1.c,s1.p]
theorem HD (a0:List Port) (f1:(Port→Option Bool)) (g1:FuncId) (c1:List AV) (s1:Still c1) (h1:∀ (y0:Port) (q:Bool),f1 y0=some q→AC Tryz.prog g1 (.agg (Port.avs y0)::c1) (.bool q)) (r:Bool) (h:Bm a0 f1=some r):AC Tryz.prog 153 [.ro (List.map Port.ds a0),.fn g1 c1] (.bool r):=by
 unfold Bm at h
 refine AZ mixed Tryz.func153 rfl rfl rfl (by kernel_rfl) (by kernel_rfl) ?_
 try simp only [go_sem,s1.k,s1.r,s1.c,s1.p]
 replace h:=AF h; obtain⟨u,w,h⟩:=h
 refine AJ (IS _ _ g1 c1 s1 h1 _ w) ?_
 try simp only [go_sem,s1.k,s1.r,s1.c,s1.p]
 refine AB ?_
 try simp only [go_sem,s1.k,s1.r,s1.c,s1.p]
 cases h
 simp only [go_sem,s1.k,s1.r,s1.c,s1.p]
theorem MS (n:Nat):(∀a0 u w r,Bv n a0 u w=some r→BG Tryz.prog Tryz.f154 [1,1,0,1,0] (.ow (some 2) (List.map Port.ds r)) ⟨[(3,.own 1000000000),(10,.ro (List.map Agent.ds a0.agents)),(11,.int .i64 ((List.length a0.agents:Nat):Int)),(12,.int .i64 w)],[(1000000000,some ⟨List.map Port.ds u,some 2,0,false⟩)],[]⟩)∧
    (∀a0 w y q g r,Cl n a0 w y q g=some r→BG Tryz.prog Tryz.f154 [1,1,0,1,0,0,1,1,0,0,1,1,0] (.ow (some 2) (List.map Port.ds r)) ⟨[(3,.own 1000004000),(4,.int .i64 w),(10,.ro (List.map Agent.ds a0.agents)),(11,.int .i64 ((List.length a0.agents:Nat):Int)),(12,.int .i64 w),(19,.int .i64 ((List.length y.ports:Nat):Int)),(20,.int .i64 g)],[(1000004000,some ⟨List.map Port.ds q,some 2,0,false⟩)],[]⟩):=by
 induction n with
 |zero=>exact⟨(fun _ _ _ _ h=>by rw [Bv] at h; cases h),(fun _ _ _ _ _ _ h=>by rw [Cl] at h; cases h)⟩
 | succ n ih=>
  obtain⟨ih0,ih1⟩:=ih
  refine⟨?_,?_⟩
  ·intro a0 u w r h
   rw [Bv] at h
   refine AT rfl rfl (Z ?_)
   refine Ah (Z ?_)
   refine AD h (fun h=>Z ?_) (fun h=>Z ?_)
   ·refine AB (Z ?_)
    replace h:=AF h; obtain⟨y,j,h⟩:=h
    refine AR j (Agent.ds_len _) (Z ?_)
    refine AB (Z ?_)
    refine Aa (AH rfl rfl (ih1 a0 w y u 0 _ h):) (.one ⟨_,.done _,[(1000004000,1000000000)],[],?_⟩)
    try simp only [go_sem]
   ·refine AB (Z ?_)
    cases h
    simp only [go_sem]
  ·intro a0 w y q g r h
   rw [Cl] at h
   refine AT rfl rfl (Z ?_)
   refine Ah (Z ?_)
   refine AD h (fun h=>Z ?_) (fun h=>Z ?_)
   ·refine AB (Z ?_)
    replace h:=AF h; obtain⟨k,b,h⟩:=h
    have hq_:=BS b
    obtain⟨hv9005a,hv9005b⟩:=hq_
    refine EJ false (Z ?_)
    refine BR (by refine⟨?_,?_⟩ <;> (try simp only [List.length_map,List.length_append,List.length_cons,List.length_nil] at*) <;> (try unfold maxLen) <;> omega) (Z ?_)
    refine A9 (List.map Port.ds k) (by rw [← hv9005b]; simp only [List.map_append,List.map_cons,List.map_nil,List.nil_append,List.append_nil,go_sem,Port.ds_eq]) (Z ?_)
    refine AB (Z ?_)
    refine An (AH rfl rfl (ih1 a0 w y k (IntKind.i64.wrap (g+1)) _ h):) (.one ⟨_,.done _,[(1000004000,144080)],[],?_⟩)
    try simp only [go_sem]
   ·refine AB (Z ?_)
    refine An (AH rfl rfl (ih0 a0 q (IntKind.i64.wrap (w+1)) _ h):) (.one ⟨_,.done _,[(1000000000,1000004000)],[],?_⟩)
    try simp only [go_sem]
theorem NN (n:Nat):(∀a0 u w r,Bv n a0 u w=some r→BG Tryz.prog Tryz.f154 [1,1,0,1,0] (.ow (some 2) (List.map Port.ds r)) ⟨[(3,.own 1000000000),(10,.ro (List.map Agent.ds a0.agents)),(11,.int .i64 ((List.length a0.agents:Nat):Int)),(12,.int .i64 w)],[(1000000000,some ⟨List.map Port.ds u,some 2,0,false⟩)],[]⟩):=(MS n).1
theorem QN (a0 r) (h:G7 a0=some r):AC Tryz.prog 154 [.rop (Net.avs a0) 0] (.ow (some 2) (List.map Port.ds r)):=by
 unfold G7 at h
 refine AZ mixed Tryz.func154 rfl rfl rfl (by kernel_rfl) (by kernel_rfl) (Z ?_)
 refine Aa (AH rfl rfl (NN fuel a0 [] 0 _ h):) (.one ⟨_,.slot 3 2000000000 (some 2) false (by simp only [go_sem]) (by simp only [go_sem]) (.done _),[(1000000000,2000000000)],[],?_⟩)
 simp only [go_sem]
 all_goals try rfl
theorem EV (a0 a1 r) (h:Cp a0 a1=some r):AC Tryz.prog 156 [.rop (Net.avs a0) 0,.agg (Port.avs a1)] (.agg (Port.rv r)):=by
 unfold Cp at h
 refine AZ mixed Tryz.func156 rfl rfl rfl (by kernel_rfl) (by kernel_rfl) (Z ?_)
 refine AB (Z ?_)
 refine Af [false,false,false,false,false,false,false,false,false,false,false,false,false,true] (Tr.sq [13] .fin) (by kernel_rfl) (Z ?_)
 replace h:=AF h; obtain⟨u,w,h⟩:=h
 refine AR w (Agent.ds_len _) (Z ?_)
 replace h:=AF h; obtain⟨y,q,h⟩:=h
 refine AR q (Port.ds_len _) (Z ?_)
 refine AB (Z ?_)
 cases h
 simp only [go_sem]
theorem SZ (a0 a1 r) (h:JD a0 a1=some r):AC Tryz.prog 157 [.ro (List.map Agent.ds a0),.agg (Port.avs a1)] (.bool r):=by
 unfold JD at h
 refine AZ mixed Tryz.func157 rfl rfl rfl (by kernel_rfl) (by kernel_rfl) (Z ?_)
 refine Af [] .fin (by kernel_rfl) (Z ?_)
 refine AD h (fun h=>Z ?_) (fun h=>Z ?_)
 ·refine AD h (fun h=>Z ?_) (fun h=>Z ?_)
  ·refine AD h (fun h=>Z ?_) (fun h=>Z ?_)
   ·replace h:=AF h; obtain⟨u,w,h⟩:=h
    refine AR w (Agent.ds_len _) (Z ?_)
    refine AB (Z ?_)
    cases h
    simp only [go_sem]
   ·refine AB (Z ?_)
    cases h
    simp only [go_sem]
  ·refine AB (Z ?_)
   cases h
   simp only [go_sem]
 ·refine AB (Z ?_)
  cases h
  simp only [go_sem]
theorem Oe (a0 a1 r) (h:GB a0 a1=some r):AC Tryz.prog 155 [.agg (Port.avs a0),.rop (Net.avs a1) 0] (.bool r):=by
 unfold GB at h
 refine AZ mixed Tryz.func155 rfl rfl rfl (by kernel_rfl) (by kernel_rfl) (Z ?_)
 replace h:=AF h; obtain⟨u,w,h⟩:=h
 refine AJ (EV _ _ _ w) (Z ?_)
 refine AB (Z ?_)
 refine Af [] .fin (by kernel_rfl) (Z ?_)
 refine AD h (fun h=>Z ?_) (fun h=>Z ?_)
 ·refine AB (Z ?_)
  cases h
  simp only [go_sem]
 ·replace h:=AF h; obtain⟨y,q,h⟩:=h
  refine AJ (SZ _ _ _ q) (Z ?_)
  refine AD h (fun h=>Z ?_) (fun h=>Z ?_)
  ·refine AB (Z ?_)
   cases h
   simp only [go_sem]
  ·replace h:=AF h; obtain⟨g,j,h⟩:=h
   refine AJ (EV _ _ _ j) (Z ?_)
   refine AB (Z ?_)
   cases h
   simp only [go_sem]
theorem Lk (a0 r) (h:GU a0=some r):AC Tryz.prog 86 [.agg (Net.avs a0)] (.bool r):=by
 unfold GU at h
 refine AZ mixed Tryz.func86 rfl rfl rfl (by kernel_rfl) (by kernel_rfl) (Z ?_)
 replace h:=AF h; obtain⟨u,w,h⟩:=h
 refine AJ (QM _ _ w) (Z ?_)
 refine AB (Z ?_)
 refine AD h (fun h=>Z ?_) (fun h=>Z ?_)
 ·cases h
  simp only [go_sem]
 ·refine AB (Z ?_)
  replace h:=AF h; obtain⟨y,g,h⟩:=h
  refine AJ (QN _ _ g) (Z ?_)
  replace h:=AF h; obtain⟨j,k,h⟩:=h
  refine AJ (HD _ _ 155 [.rop [.ro (List.map Agent.ds a0.agents)] 0] (Still.of (by simp only [FM,GL,Bool.and_true,Bool.true_and,Bool.and_self])) (fun y0 q hq=>Oe y0 _ q hq) _ k) (Z ?_)
  refine AB (Z ?_)
  cases h
  simp only [go_sem]
theorem Bi (a0 a1 a2 r) (h:CY a0 a1 a2=some r):AC Tryz.prog 59 [.int .i64 a0,.int .i64 a1,.int .i64 a2] (.bool r):=by
 unfold CY at h
 refine AZ mixed Tryz.func59 rfl rfl rfl (by kernel_rfl) (by kernel_rfl) (Z ?_)
 refine AD h (fun h=>Z ?_) (fun h=>Z ?_)
 ·refine AB (Z ?_)
  cases h
  simp only [go_sem]
 ·refine AB (Z ?_)
  cases h
  simp only [go_sem]
theorem IK (a0 r) (h:Ch a0=some r):AC Tryz.prog 165 [.rop (Agent.avs a0) 0] (.int .i64 r):=by
 unfold Ch at h
 refine AZ mixed Tryz.func165 rfl rfl rfl (by kernel_rfl) (by kernel_rfl) (Z ?_)
 refine AD h (fun h=>Z ?_) (fun h=>Z ?_)
 ·cases h
  simp only [go_sem]
 ·refine AB (Z ?_)
  cases h
  simp only [go_sem]
theorem FK (u:Bool) (r:Int) (h:EE u=some r):BG Tryz.prog Tryz.f228 [1,1,1,0,1,0,1,1,1,1,1] (.int .i64 r) ⟨[(23,.bool u)],[],[]⟩:=by
 unfold EE at h
 refine AT rfl rfl (Z ?_)
 refine AD h (fun h=>Z ?_) (fun h=>Z ?_)
 ·cases h
  simp only [go_sem]
 ·refine AB (Z ?_)
  cases h
  simp only [go_sem]
theorem HE (a0:Int) (u:Bool) (r:Int) (h:E3 a0 u=some r):BG Tryz.prog Tryz.f228 [1,1,1,0,1,0,1,1,1] (.int .i64 r) ⟨[(13,.int .i64 a0),(19,.bool u)],[],[]⟩:=by
 unfold E3 at h
 refine AT rfl rfl (Z ?_)
 refine AD h (fun h=>Z ?_) (fun h=>Z ?_)
 ·cases h
  simp only [go_sem]
 ·refine AD h (fun h=>Z ?_) (fun h=>Z ?_)
  ·refine AK (AH rfl rfl (FK (decide (a0=2)) _ h):) (.one ⟨_,.done _,[],[],?_⟩)
   try simp only [go_sem]
  ·refine AD h (fun h=>Z ?_) (fun h=>Z ?_)
   ·refine AK (AH rfl rfl (FK (decide (a0=3)) _ h):) (.one ⟨_,.done _,[],[],?_⟩)
    try simp only [go_sem]
   ·refine AD h (fun h=>Z ?_) (fun h=>Z ?_)
    ·refine AK (AH rfl rfl (FK (decide (a0=4)) _ h):) (.one ⟨_,.done _,[],[],?_⟩)
     try simp only [go_sem]
    ·refine AK (AH rfl rfl (FK (decide (a0=7)) _ h):) (.one ⟨_,.done _,[],[],?_⟩)
     try simp only [go_sem]
theorem FL (a0:Int) (u:Bool) (r:Int) (h:EF a0 u=some r):BG Tryz.prog Tryz.f228 [1,1,1,0,1,0,1] (.int .i64 r) ⟨[(13,.int .i64 a0),(14,.bool u)],[],[]⟩:=by
 unfold EF at h
 refine AT rfl rfl (Z ?_)
 refine AD h (fun h=>Z ?_) (fun h=>Z ?_)
 ·cases h
  simp only [go_sem]
 ·refine AD h (fun h=>Z ?_) (fun h=>Z ?_)
  ·refine AK (AH rfl rfl (HE a0 (decide (a0=8)) _ h):) (.one ⟨_,.done _,[],[],?_⟩)
   try simp only [go_sem]
  ·refine AD h (fun h=>Z ?_) (fun h=>Z ?_)
   ·refine AK (AH rfl rfl (HE a0 (decide (a0=10)) _ h):) (.one ⟨_,.done _,[],[],?_⟩)
    try simp only [go_sem]
   ·refine AK (AH rfl rfl (HE a0 (decide (a0=11)) _ h):) (.one ⟨_,.done _,[],[],?_⟩)
    try simp only [go_sem]
theorem Sa (a0 a1 r) (h:Ga a0 a1=some r):AC Tryz.prog 228 [.int .i64 a0,.int .i64 a1] (.int .i64 r):=by
 unfold Ga at h
 refine AZ mixed Tryz.func228 rfl rfl rfl (by kernel_rfl) (by kernel_rfl) (Z ?_)
 refine AD h (fun h=>Z ?_) (fun h=>Z ?_)
 ·replace h:=AF h; obtain⟨u,w,h⟩:=h
  refine AJ (Bi _ _ _ _ w) (Z ?_)
  refine AB (Z ?_)
  refine AD h (fun h=>Z ?_) (fun h=>Z ?_)
  ·cases h
   simp only [go_sem]
  ·refine AB (Z ?_)
   cases h
   simp only [go_sem]
 ·refine AB (Z ?_)
  refine AD h (fun h=>Z ?_) (fun h=>Z ?_)
  ·cases h
   simp only [go_sem]
  ·refine AB (Z ?_)
   refine AD h (fun h=>Z ?_) (fun h=>Z ?_)
   ·refine AK (AH rfl rfl (FL a0 (decide (a0=1)) _ h):) (.one ⟨_,.done _,[],[],?_⟩)
    try simp only [go_sem]
   ·refine AD h (fun h=>Z ?_) (fun h=>Z ?_)
    ·refine AK (AH rfl rfl (FL a0 (decide (a0=5)) _ h):) (.one ⟨_,.done _,[],[],?_⟩)
     try simp only [go_sem]
    ·refine AD h (fun h=>Z ?_) (fun h=>Z ?_)
     ·refine AK (AH rfl rfl (FL a0 (decide (a0=6)) _ h):) (.one ⟨_,.done _,[],[],?_⟩)
      try simp only [go_sem]
     ·refine AK (AH rfl rfl (FL a0 (decide (a0=12)) _ h):) (.one ⟨_,.done _,[],[],?_⟩)
      try simp only [go_sem]
theorem Bl (u:Bool) (r:Bool) (h:BH u=some r):BG Tryz.prog Tryz.f195 [1,0,1,0,1] (.bool r) ⟨[(4,.bool u)],[],[]⟩:=by
 unfold BH at h
 refine AT rfl rfl (Z ?_)
 refine AD h (fun h=>Z ?_) (fun h=>Z ?_)
 ·cases h
  simp only [go_sem]
 ·refine AB (Z ?_)
  cases h
  simp only [go_sem]
theorem In (a0 r) (h:Dh a0=some r):AC Tryz.prog 195 [.int .i64 a0] (.bool r):=by
 unfold Dh at h
 refine AZ mixed Tryz.func195 rfl rfl rfl (by kernel_rfl) (by kernel_rfl) (Z ?_)
 refine AD h (fun h=>Z ?_) (fun h=>Z ?_)
 ·refine AK (AH rfl rfl (Bl (decide (a0=2)) _ h):) (.one ⟨_,.done _,[],[],?_⟩)
  try simp only [go_sem]
 ·refine AD h (fun h=>Z ?_) (fun h=>Z ?_)
  ·refine AK (AH rfl rfl (Bl (decide (a0=3)) _ h):) (.one ⟨_,.done _,[],[],?_⟩)
   try simp only [go_sem]
  ·refine AD h (fun h=>Z ?_) (fun h=>Z ?_)
   ·refine AK (AH rfl rfl (Bl (decide (a0=4)) _ h):) (.one ⟨_,.done _,[],[],?_⟩)
    try simp only [go_sem]
   ·refine AD h (fun h=>Z ?_) (fun h=>Z ?_)
    ·refine AK (AH rfl rfl (Bl (decide (a0=7)) _ h):) (.one ⟨_,.done _,[],[],?_⟩)
     try simp only [go_sem]
    ·refine AD h (fun h=>Z ?_) (fun h=>Z ?_)
     ·refine AK (AH rfl rfl (Bl (decide (a0=8)) _ h):) (.one ⟨_,.done _,[],[],?_⟩)
      try simp only [go_sem]
     ·refine AD h (fun h=>Z ?_) (fun h=>Z ?_)
      ·refine AK (AH rfl rfl (Bl (decide (a0=9)) _ h):) (.one ⟨_,.done _,[],[],?_⟩)
       try simp only [go_sem]
      ·refine AD h (fun h=>Z ?_) (fun h=>Z ?_)
       ·refine AK (AH rfl rfl (Bl (decide (a0=10)) _ h):) (.one ⟨_,.done _,[],[],?_⟩)
        try simp only [go_sem]
       ·refine AD h (fun h=>Z ?_) (fun h=>Z ?_)
        ·refine AK (AH rfl rfl (Bl (decide (a0=11)) _ h):) (.one ⟨_,.done _,[],[],?_⟩)
         try simp only [go_sem]
        ·refine AK (AH rfl rfl (Bl (decide (a0=12)) _ h):) (.one ⟨_,.done _,[],[],?_⟩)
         try simp only [go_sem]
theorem Sb (a0 r) (h:JE a0=some r):AC Tryz.prog 245 [.int .i64 a0] (.bool r):=by
 unfold JE at h
 refine AZ mixed Tryz.func245 rfl rfl rfl (by kernel_rfl) (by kernel_rfl) (Z ?_)
 replace h:=AF h; obtain⟨u,w,h⟩:=h
 refine AJ (Bi _ _ _ _ w) (Z ?_)
 refine AB (Z ?_)
 cases h
 simp only [go_sem]
theorem Gq (a0 a1 r) (h:EA a0 a1=some r):AC Tryz.prog 229 [.int .i64 a0,.int .i64 a1] (.bool r):=by
 unfold EA at h
 refine AZ mixed Tryz.func229 rfl rfl rfl (by kernel_rfl) (by kernel_rfl) (Z ?_)
 replace h:=AF h; obtain⟨u,w,h⟩:=h
 refine AJ (In _ _ w) (Z ?_)
 refine AB (Z ?_)
 refine AD h (fun h=>Z ?_) (fun h=>Z ?_)
 ·replace h:=AF h; obtain⟨y,q,h⟩:=h
  refine AJ (Bi _ _ _ _ q) (Z ?_)
  refine AB (Z ?_)
  cases h
  simp only [go_sem]
 ·refine AB (Z ?_)
  replace h:=AF h; obtain⟨g,j,h⟩:=h
  refine AJ (Sb _ _ j) (Z ?_)
  refine AD h (fun h=>Z ?_) (fun h=>Z ?_)
  ·refine AB (Z ?_)
   cases h
   simp only [go_sem]
  ·refine AB (Z ?_)
   cases h
   simp only [go_sem]
theorem OJ (a0 r) (h:H6 a0=some r):AC Tryz.prog 246 [.int .i64 a0] (.bool r):=by
 unfold H6 at h
 refine AZ mixed Tryz.func246 rfl rfl rfl (by kernel_rfl) (by kernel_rfl) (Z ?_)
 replace h:=AF h; obtain⟨u,w,h⟩:=h
 refine AJ (Bi _ _ _ _ w) (Z ?_)
 refine AB (Z ?_)
 cases h
 simp only [go_sem]
theorem MT (n:Nat):(∀a0 u r,CQ n a0 u=some r→BG Tryz.prog Tryz.f230 [1,0,1,0,1,1,1,1,1,1,1,1,1,1,1,0,1,0,1,0] (.bool r) ⟨[(0,.rop [.int .i64 a0.kind,.int .i64 a0.level,.int .i64 a0.value,.ro (List.map Au a0.data),.ro (List.map Port.ds a0.ports)] 0),(3,.int .i64 u)],[],[]⟩):=by
 induction n with
 |zero=>exact((fun _ _ _ h=>by rw [CQ] at h; cases h))
 | succ n ih=>
  have ih0:=ih
  ·intro a0 u r h
   rw [CQ] at h
   refine AT rfl rfl (Z ?_)
   refine Ah (Z ?_)
   refine AD h (fun h=>Z ?_) (fun h=>Z ?_)
   ·refine AB (Z ?_)
    replace h:=AF h; obtain⟨w,y,h⟩:=h
    refine AR y rfl (Z ?_)
    replace h:=AF h; obtain⟨q,g,h⟩:=h
    refine AJ (OJ _ _ g) (Z ?_)
    refine AB (Z ?_)
    refine AD h (fun h=>Z ?_) (fun h=>Z ?_)
    ·cases h
     simp only [go_sem]
    ·refine AB (Z ?_)
     refine An (AH rfl rfl (ih0 a0 (IntKind.i64.wrap (u+1)) _ h):) (.one ⟨_,.done _,[],[],?_⟩)
     try simp only [go_sem]
   ·refine AB (Z ?_)
    cases h
    simp only [go_sem]
theorem CX (a0:Agent) (u:Bool) (r:Bool) (h:B0 a0 u=some r):BG Tryz.prog Tryz.f230 [1,0,1,0,1,1,1,1,1,1,1,1,1,1,1,0,0,1] (.bool r) ⟨[(0,.rop [.int .i64 a0.kind,.int .i64 a0.level,.int .i64 a0.value,.ro (List.map Au a0.data),.ro (List.map Port.ds a0.ports)] 0),(130,.bool u)],[],[]⟩:=by
 unfold B0 at h
 refine AT rfl rfl (Z ?_)
 refine AD h (fun h=>Z ?_) (fun h=>Z ?_)
 ·cases h
  simp only [go_sem]
 ·refine AB (Z ?_)
  refine Aa (AH rfl rfl (MT fuel a0 0 _ h):) (.one ⟨_,.done _,[],[],?_⟩)
  try simp only [go_sem]
theorem IL (a0:Agent) (u:Bool) (r:Bool) (h:EP a0 u=some r):BG Tryz.prog Tryz.f230 [1,0,1,0,1,1,1,1,1,1,1,1,1,1,1] (.bool r) ⟨[(0,.rop [.int .i64 a0.kind,.int .i64 a0.level,.int .i64 a0.value,.ro (List.map Au a0.data),.ro (List.map Port.ds a0.ports)] 0),(92,.bool u)],[],[]⟩:=by
 unfold EP at h
 refine AT rfl rfl (Z ?_)
 refine AD h (fun h=>Z ?_) (fun h=>Z ?_)
 ·refine AD h (fun h=>Z ?_) (fun h=>Z ?_)
  ·refine AK (AH rfl rfl (CX a0 true _ h):) (.one ⟨_,.done _,[],[],?_⟩)
   try simp only [go_sem]
  ·refine AD h (fun h=>Z ?_) (fun h=>Z ?_)
   ·refine AD h (fun h=>Z ?_) (fun h=>Z ?_)
    ·refine AK (AH rfl rfl (CX a0 true _ h):) (.one ⟨_,.done _,[],[],?_⟩)
     try simp only [go_sem]
    ·refine AD h (fun h=>Z ?_) (fun h=>Z ?_)
     ·replace h:=AF h; obtain⟨w,y,h⟩:=h
      refine AJ (Bi _ _ _ _ y) (Z ?_)
      refine AK (AH rfl rfl (CX a0 (!w) _ h):) (.one ⟨_,.done _,[],[],?_⟩)
      try simp only [go_sem]
     ·refine AK (AH rfl rfl (CX a0 false _ h):) (.one ⟨_,.done _,[],[],?_⟩)
      try simp only [go_sem]
   ·refine AD h (fun h=>Z ?_) (fun h=>Z ?_)
    ·replace h:=AF h; obtain⟨w,y,h⟩:=h
     refine AJ (Bi _ _ _ _ y) (Z ?_)
     refine AK (AH rfl rfl (CX a0 (!w) _ h):) (.one ⟨_,.done _,[],[],?_⟩)
     try simp only [go_sem]
    ·refine AK (AH rfl rfl (CX a0 false _ h):) (.one ⟨_,.done _,[],[],?_⟩)
     try simp only [go_sem]
 ·refine AB (Z ?_)
  refine AD h (fun h=>Z ?_) (fun h=>Z ?_)
  ·refine AB (Z ?_)
   cases h
   simp only [go_sem]
  ·refine AB (Z ?_)
   cases h
   simp only [go_sem]
theorem Of (a0 r) (h:GC a0=some r):AC Tryz.prog 230 [.rop (Agent.avs a0) 0] (.bool r):=by
 unfold GC at h
 refine AZ mixed Tryz.func230 rfl rfl rfl (by kernel_rfl) (by kernel_rfl) (Z ?_)
 refine AD h (fun h=>Z ?_) (fun h=>Z ?_)
 ·refine AD h (fun h=>Z ?_) (fun h=>Z ?_)
  ·replace h:=AF h; obtain⟨u,w,h⟩:=h
   refine AJ (Bi _ _ _ _ w) (Z ?_)
   refine AB (Z ?_)
   cases h
   simp only [go_sem]
  ·refine AB (Z ?_)
   cases h
   simp only [go_sem]
 ·refine AD h (fun h=>Z ?_) (fun h=>Z ?_)
  ·refine AD h (fun h=>Z ?_) (fun h=>Z ?_)
   ·replace h:=AF h; obtain⟨y,q,h⟩:=h
    refine AJ (Bi _ _ _ _ q) (Z ?_)
    refine AB (Z ?_)
    cases h
    simp only [go_sem]
   ·refine AB (Z ?_)
    cases h
    simp only [go_sem]
  ·refine AD h (fun h=>Z ?_) (fun h=>Z ?_)
   ·refine AD h (fun h=>Z ?_) (fun h=>Z ?_)
    ·replace h:=AF h; obtain⟨g,j,h⟩:=h
     refine AJ (Bi _ _ _ _ j) (Z ?_)
     refine AD h (fun h=>Z ?_) (fun h=>Z ?_)
     ·replace h:=AF h; obtain⟨k,b,h⟩:=h
      refine AR b rfl (Z ?_)
      replace h:=AF h; obtain⟨d,c,h⟩:=h
      refine AJ (Bi _ _ _ _ c) (Z ?_)
      refine AB (Z ?_)
      cases h
      simp only [go_sem]
     ·refine AB (Z ?_)
      cases h
      simp only [go_sem]
    ·refine AB (Z ?_)
     cases h
     simp only [go_sem]
   ·refine AD h (fun h=>Z ?_) (fun h=>Z ?_)
    ·refine AD h (fun h=>Z ?_) (fun h=>Z ?_)
     ·replace h:=AF h; obtain⟨e,i,h⟩:=h
      refine AJ (Bi _ _ _ _ i) (Z ?_)
      refine AB (Z ?_)
      cases h
      simp only [go_sem]
     ·refine AB (Z ?_)
      cases h
      simp only [go_sem]
    ·refine AD h (fun h=>Z ?_) (fun h=>Z ?_)
     ·refine AD h (fun h=>Z ?_) (fun h=>Z ?_)
      ·replace h:=AF h; obtain⟨l,t,h⟩:=h
       refine AJ (OJ _ _ t) (Z ?_)
       refine AB (Z ?_)
       cases h
       simp only [go_sem]
      ·refine AB (Z ?_)
       cases h
       simp only [go_sem]
     ·refine AD h (fun h=>Z ?_) (fun h=>Z ?_)
      ·refine AK (AH rfl rfl (IL a0 (decide (a0.kind=10)) _ h):) (.one ⟨_,.done _,[],[],?_⟩)
       try simp only [go_sem]
      ·refine AK (AH rfl rfl (IL a0 (decide (a0.kind=11)) _ h):) (.one ⟨_,.done _,[],[],?_⟩)
       try simp only [go_sem]
theorem Qq (a0 r) (h:H7 a0=some r):AC Tryz.prog 200 [.rop (Agent.avs a0) 0] (.bool r):=by
 unfold H7 at h
 refine AZ mixed Tryz.func200 rfl rfl rfl (by kernel_rfl) (by kernel_rfl) (Z ?_)
 refine Af [] .fin (by kernel_rfl) (Z ?_)
 replace h:=AF h; obtain⟨u,w,h⟩:=h
 refine AJ (IK _ _ w) (Z ?_)
 replace h:=AF h; obtain⟨y,q,h⟩:=h
 refine AJ (Sa _ _ _ q) (Z ?_)
 refine AB (Z ?_)
 refine Af [] .fin (by kernel_rfl) (Z ?_)
 refine AD h (fun h=>Z ?_) (fun h=>Z ?_)
 ·refine AD h (fun h=>Z ?_) (fun h=>Z ?_)
  ·replace h:=AF h; obtain⟨g,j,h⟩:=h
   refine AJ (Gq _ _ _ j) (Z ?_)
   refine AD h (fun h=>Z ?_) (fun h=>Z ?_)
   ·replace h:=AF h; obtain⟨k,b,h⟩:=h
    refine AJ (Of _ _ b) (Z ?_)
    refine AB (Z ?_)
    cases h
    simp only [go_sem]
   ·refine AB (Z ?_)
    cases h
    simp only [go_sem]
  ·refine AB (Z ?_)
   cases h
   simp only [go_sem]
 ·refine AB (Z ?_)
  cases h
  simp only [go_sem]
theorem MU (n:Nat):(∀a0 u r,CF n a0 u=some r→BG Tryz.prog Tryz.f150 [1,1,0,1,0] (.bool r) ⟨[(0,.ro (List.map Agent.ds a0)),(3,.int .i64 u)],[],[]⟩)∧
    (∀a0 u w r,DL n a0 u w=some r→BG Tryz.prog Tryz.f150 [1,1,0,1,0,0,1,0,0,1] (.bool r) ⟨[(0,.ro (List.map Agent.ds a0)),(3,.int .i64 u),(29,.bool w)],[],[]⟩):=by
 induction n with
 |zero=>exact⟨(fun _ _ _ h=>by rw [CF] at h; cases h),(fun _ _ _ _ h=>by rw [DL] at h; cases h)⟩
 | succ n ih=>
  obtain⟨ih0,ih1⟩:=ih
  refine⟨?_,?_⟩
  ·intro a0 u r h
   rw [CF] at h
   refine AT rfl rfl (Z ?_)
   refine Ah (Z ?_)
   refine AD h (fun h=>Z ?_) (fun h=>Z ?_)
   ·refine AB (Z ?_)
    replace h:=AF h; obtain⟨y,q,h⟩:=h
    refine AR q (Agent.ds_len _) (Z ?_)
    replace h:=AF h; obtain⟨g,j,h⟩:=h
    refine AJ (Qq _ _ j) (Z ?_)
    refine AD h (fun h=>Z ?_) (fun h=>Z ?_)
    ·refine AK (AH rfl rfl (ih1 a0 u true _ h):) (.one ⟨_,.done _,[],[],?_⟩)
     try simp only [go_sem]
    ·replace h:=AF h; obtain⟨k,b,h⟩:=h
     refine AR b (Agent.ds_len _) (Z ?_)
     refine AK (AH rfl rfl (ih1 a0 u (!((decide (k.kind=1)) == (decide (u=0)))) _ h):) (.one ⟨_,.done _,[],[],?_⟩)
     try simp only [go_sem]
   ·refine AB (Z ?_)
    cases h
    simp only [go_sem]
  ·intro a0 u w r h
   rw [DL] at h
   refine AT rfl rfl (Z ?_)
   refine AD h (fun h=>Z ?_) (fun h=>Z ?_)
   ·cases h
    simp only [go_sem]
   ·refine AB (Z ?_)
    refine An (AH rfl rfl (ih0 a0 (IntKind.i64.wrap (u+1)) _ h):) (.one ⟨_,.done _,[],[],?_⟩)
    try simp only [go_sem]
theorem NO (n:Nat):(∀a0 u r,CF n a0 u=some r→BG Tryz.prog Tryz.f150 [1,1,0,1,0] (.bool r) ⟨[(0,.ro (List.map Agent.ds a0)),(3,.int .i64 u)],[],[]⟩):=(MU n).1
theorem QO (a0 r) (h:G8 a0=some r):AC Tryz.prog 150 [.ro (List.map Agent.ds a0)] (.bool r):=by
 unfold G8 at h
 refine AZ mixed Tryz.func150 rfl rfl rfl (by kernel_rfl) (by kernel_rfl) (Z ?_)
 replace h:=AF h; obtain⟨u,w,h⟩:=h
 refine AJ (Bi _ _ _ _ w) (Z ?_)
 refine AB (Z ?_)
 refine AD h (fun h=>Z ?_) (fun h=>Z ?_)
 ·cases h
  simp only [go_sem]
 ·refine AB (Z ?_)
  refine Aa (AH rfl rfl (NO fuel a0 0 _ h):) (.one ⟨_,.done _,[],[],?_⟩)
  try simp only [go_sem]
theorem Sc (a0 a1 r) (h:JF a0 a1=some r):AC Tryz.prog 151 [.ro (List.map Agent.ds a0),.agg (Port.avs a1)] (.bool r):=by
 unfold JF at h
 refine AZ mixed Tryz.func151 rfl rfl rfl (by kernel_rfl) (by kernel_rfl) (Z ?_)
 refine Af [] .fin (by kernel_rfl) (Z ?_)
 replace h:=AF h; obtain⟨u,w,h⟩:=h
 refine AJ (Bi _ _ _ _ w) (Z ?_)
 refine AD h (fun h=>Z ?_) (fun h=>Z ?_)
 ·replace h:=AF h; obtain⟨y,q,h⟩:=h
  refine AR q (Agent.ds_len _) (Z ?_)
  replace h:=AF h; obtain⟨g,j,h⟩:=h
  refine AJ (Bi _ _ _ _ j) (Z ?_)
  refine AB (Z ?_)
  cases h
  simp only [go_sem]
 ·refine AB (Z ?_)
  cases h
  simp only [go_sem]
theorem QP (n:Nat):(∀a0 u r,Dn n a0 u=some r→BG Tryz.prog Tryz.f84 [1,1,0,1,0] (.bool r) ⟨[(0,.rop [.ro (List.map Agent.ds a0.agents)] 0),(3,.int .i64 u)],[],[]⟩)∧
    (∀a0 u w y r,D6 n a0 u w y=some r→BG Tryz.prog Tryz.f84 [1,1,0,1,0,0,1,0,0,1,1,0] (.bool r) ⟨[(0,.rop [.ro (List.map Agent.ds a0.agents)] 0),(3,.int .i64 u),(4,.rop [.int .i64 w.kind,.int .i64 w.level,.int .i64 w.value,.ro (List.map Au w.data),.ro (List.map Port.ds w.ports)] 0),(5,.int .i64 y)],[],[]⟩)∧
    (∀a0 u y w q r,D7 n a0 u y w q=some r→BG Tryz.prog Tryz.f84 [1,1,0,1,0,0,1,0,0,1,1,0,0,1,0,0,1,1,1] (.bool r) ⟨[(0,.rop [.ro (List.map Agent.ds a0.agents)] 0),(3,.int .i64 u),(4,.rop [.int .i64 w.kind,.int .i64 w.level,.int .i64 w.value,.ro (List.map Au w.data),.ro (List.map Port.ds w.ports)] 0),(5,.int .i64 y),(76,.bool q)],[],[]⟩):=by
 induction n with
 |zero=>exact⟨(fun _ _ _ h=>by rw [Dn] at h; cases h),(fun _ _ _ _ _ h=>by rw [D6] at h; cases h),(fun _ _ _ _ _ _ h=>by rw [D7] at h; cases h)⟩
 | succ n ih=>
  obtain⟨ih0,ih1,ih2⟩:=ih
  refine⟨?_,?_,?_⟩
  ·intro a0 u r h
   rw [Dn] at h
   refine AT rfl rfl (Z ?_)
   refine Ah (Z ?_)
   refine AD h (fun h=>Z ?_) (fun h=>Z ?_)
   ·refine AB (Z ?_)
    replace h:=AF h; obtain⟨w,g,h⟩:=h
    refine AR g (Agent.ds_len _) (Z ?_)
    refine Aa (AH rfl rfl (ih1 a0 u w 0 _ h):) (.one ⟨_,.done _,[],[],?_⟩)
    try simp only [go_sem]
   ·refine AB (Z ?_)
    cases h
    simp only [go_sem]
  ·intro a0 u w y r h
   rw [D6] at h
   refine AT rfl rfl (Z ?_)
   refine Ah (Z ?_)
   refine AD h (fun h=>Z ?_) (fun h=>Z ?_)
   ·refine AB (Z ?_)
    refine AB (Z ?_)
    replace h:=AF h; obtain⟨j,k,h⟩:=h
    refine AR k (Port.ds_len _) (Z ?_)
    refine AB (Z ?_)
    refine Af [] .fin (by kernel_rfl) (Z ?_)
    refine AD h (fun h=>Z ?_) (fun h=>Z ?_)
    ·refine AK (AH rfl rfl (ih2 a0 u y w true _ h):) (.one ⟨_,.done _,[],[],?_⟩)
     try simp only [go_sem]
    ·replace h:=AF h; obtain⟨b,d,h⟩:=h
     refine AJ (Sc _ _ _ d) (Z ?_)
     refine AD h (fun h=>Z ?_) (fun h=>Z ?_)
     ·refine AK (AH rfl rfl (ih2 a0 u y w true _ h):) (.one ⟨_,.done _,[],[],?_⟩)
      try simp only [go_sem]
     ·replace h:=AF h; obtain⟨c,e,h⟩:=h
      refine AR e (Agent.ds_len _) (Z ?_)
      replace h:=AF h; obtain⟨i,l,h⟩:=h
      refine AR l (Port.ds_len _) (Z ?_)
      refine AK (AH rfl rfl (ih2 a0 u y w (!(decide (i.agent=u)&&decide (i.slot=y))) _ h):) (.one ⟨_,.done _,[],[],?_⟩)
      try simp only [go_sem]
   ·refine AB (Z ?_)
    refine An (AH rfl rfl (ih0 a0 (IntKind.i64.wrap (u+1)) _ h):) (.one ⟨_,.done _,[],[],?_⟩)
    try simp only [go_sem]
  ·intro a0 u y w q r h
   rw [D7] at h
   refine AT rfl rfl (Z ?_)
   refine AD h (fun h=>Z ?_) (fun h=>Z ?_)
   ·cases h
    simp only [go_sem]
   ·refine AB (Z ?_)
    refine An (AH rfl rfl (ih1 a0 u w (IntKind.i64.wrap (y+1)) _ h):) (.one ⟨_,.done _,[],[],?_⟩)
    try simp only [go_sem]
theorem Qr (n:Nat):(∀a0 u r,Dn n a0 u=some r→BG Tryz.prog Tryz.f84 [1,1,0,1,0] (.bool r) ⟨[(0,.rop [.ro (List.map Agent.ds a0.agents)] 0),(3,.int .i64 u)],[],[]⟩):=(QP n).1
theorem QE (a0 r) (h:Jh a0=some r):AC Tryz.prog 84 [.rop (Net.avs a0) 0] (.bool r):=by
 unfold Jh at h
 refine AZ mixed Tryz.func84 rfl rfl rfl (by kernel_rfl) (by kernel_rfl) (Z ?_)
 replace h:=AF h; obtain⟨u,w,h⟩:=h
 refine AJ (QO _ _ w) (Z ?_)
 refine AB (Z ?_)
 refine AD h (fun h=>Z ?_) (fun h=>Z ?_)
 ·cases h
  simp only [go_sem]
 ·refine AB (Z ?_)
  refine Aa (AH rfl rfl (Qr fuel a0 0 _ h):) (.one ⟨_,.done _,[],[],?_⟩)
  try simp only [go_sem]
theorem HN (n:Nat):(∀ (a0:List Net) (u:Int) (f1:(Net→Option Bool)) (g1:FuncId) (c1:List AV) (s1:Still c1) (h1:∀ (y0:Net) (q:Bool),f1 y0=some q→AC Tryz.prog g1 (.agg (Net.avs y0)::c1) (.bool q)) (r:Int),BI n a0 u f1=some r→BG Tryz.prog Tryz.f196 [1,0,1,0] (.int .i64 r) ⟨[(0,.ro (List.map Net.ds a0)),(1,.fn g1 c1),(7,.int .i64 ((List.length a0:Nat):Int)),(8,.int .i64 u)],[],[]⟩):=by
 induction n with
 |zero=>exact((fun _ _ _ _ _ _ _ _ h=>by rw [BI] at h; cases h))
 | succ n ih=>
  have ih0:=ih
  ·intro a0 u f1 g1 c1 s1 h1 r h
   rw [BI] at h
   refine AT rfl rfl ?_
   try simp only [go_sem,s1.k,s1.r,s1.c,s1.p]
   refine Ah ?_
   try simp only [go_sem,s1.k,s1.r,s1.c,s1.p]
   refine AD h (fun h=>?_) (fun h=>?_)
   ·try simp only [go_sem,s1.k,s1.r,s1.c,s1.p]
    refine AB ?_
    try simp only [go_sem,s1.k,s1.r,s1.c,s1.p]
    replace h:=AF h; obtain⟨w,y,h⟩:=h
    refine AR y (Net.ds_len _) ?_
    try simp only [go_sem,s1.k,s1.r,s1.c,s1.p]
    replace h:=AF h; obtain⟨g,j,h⟩:=h
    refine AJ (h1 _ _ j) ?_
    try simp only [go_sem,s1.k,s1.r,s1.c,s1.p]
    refine AB ?_
    try simp only [go_sem,s1.k,s1.r,s1.c,s1.p]
    refine AD h (fun h=>?_) (fun h=>?_)
    ·try simp only [go_sem,s1.k,s1.r,s1.c,s1.p]
     cases h
     simp only [go_sem,s1.k,s1.r,s1.c,s1.p]
    ·try simp only [go_sem,s1.k,s1.r,s1.c,s1.p]
     refine AB ?_
     try simp only [go_sem,s1.k,s1.r,s1.c,s1.p]
     refine An (AH rfl rfl (ih0 a0 (IntKind.i64.wrap (u+1)) f1 g1 c1 s1 h1 _ h):) (.one ⟨_,.done _,[],[],?_⟩)
     try simp only [go_sem,s1.k,s1.r,s1.c,s1.p]
   ·try simp only [go_sem,s1.k,s1.r,s1.c,s1.p]
    refine AB ?_
    try simp only [go_sem,s1.k,s1.r,s1.c,s1.p]
    cases h
    simp only [go_sem,s1.k,s1.r,s1.c,s1.p]
theorem Iq (a0:List Net) (f1:(Net→Option Bool)) (g1:FuncId) (c1:List AV) (s1:Still c1) (h1:∀ (y0:Net) (q:Bool),f1 y0=some q→AC Tryz.prog g1 (.agg (Net.avs y0)::c1) (.bool q)) (r:Int) (h:DO a0 f1=some r):AC Tryz.prog 196 [.ro (List.map Net.ds a0),.fn g1 c1] (.int .i64 r):=by
 unfold DO at h
 refine AZ mixed Tryz.func196 rfl rfl rfl (by kernel_rfl) (by kernel_rfl) ?_
 try simp only [go_sem,s1.k,s1.r,s1.c,s1.p]
 refine Aa (AH rfl rfl (HN fuel a0 0 f1 g1 c1 s1 h1 _ h):) (.one ⟨_,.done _,[],[],?_⟩)
 try simp only [go_sem,s1.k,s1.r,s1.c,s1.p]
theorem HO (a0:List Net) (f1:(Net→Option Bool)) (g1:FuncId) (c1:List AV) (s1:Still c1) (h1:∀ (y0:Net) (q:Bool),f1 y0=some q→AC Tryz.prog g1 (.agg (Net.avs y0)::c1) (.bool q)) (r:Bool) (h:Bw a0 f1=some r):AC Tryz.prog 136 [.ro (List.map Net.ds a0),.fn g1 c1] (.bool r):=by
 unfold Bw at h
 refine AZ mixed Tryz.func136 rfl rfl rfl (by kernel_rfl) (by kernel_rfl) ?_
 try simp only [go_sem,s1.k,s1.r,s1.c,s1.p]
 replace h:=AF h; obtain⟨u,w,h⟩:=h
 refine AJ (Iq _ _ g1 c1 s1 h1 _ w) ?_
 try simp only [go_sem,s1.k,s1.r,s1.c,s1.p]
 refine AB ?_
 try simp only [go_sem,s1.k,s1.r,s1.c,s1.p]
 cases h
 simp only [go_sem,s1.k,s1.r,s1.c,s1.p]
theorem J7 (a0 r) (h:EG a0=some r):AC Tryz.prog 137 [.agg (Net.avs a0)] (.bool r):=by
 unfold EG at h
 refine AZ mixed Tryz.func137 rfl rfl rfl (by kernel_rfl) (by kernel_rfl) (Z ?_)
 replace h:=AF h; obtain⟨u,w,h⟩:=h
 refine AJ (Lk _ _ w) (Z ?_)
 refine AB (Z ?_)
 cases h
 simp only [go_sem]
theorem La (a0 r) (h:Dw a0=some r):AC Tryz.prog 78 [.ro (List.map Net.ds a0)] (.bool r):=by
 unfold Dw at h
 refine AZ mixed Tryz.func78 rfl rfl rfl (by kernel_rfl) (by kernel_rfl) (Z ?_)
 refine AD h (fun h=>Z ?_) (fun h=>Z ?_)
 ·replace h:=AF h; obtain⟨u,w,h⟩:=h
  refine AJ (HO _ _ 137 [] (Still.of rfl) (fun y0 q hq=>J7 y0  q hq) _ w) (Z ?_)
  refine AB (Z ?_)
  cases h
  simp only [go_sem]
 ·refine AB (Z ?_)
  cases h
  simp only [go_sem]
theorem Og (n:Nat):(∀a0 u r,EH n a0 u=some r→BG Tryz.prog Tryz.f73 [1,1,0,1,0] (.bool r) ⟨[(0,.ro (List.map Net.ds a0)),(3,.int .i64 u)],[],[]⟩):=by
 induction n with
 |zero=>exact((fun _ _ _ h=>by rw [EH] at h; cases h))
 | succ n ih=>
  have ih0:=ih
  ·intro a0 u r h
   rw [EH] at h
   refine AT rfl rfl (Z ?_)
   refine Ah (Z ?_)
   refine AD h (fun h=>Z ?_) (fun h=>Z ?_)
   ·refine AB (Z ?_)
    replace h:=AF h; obtain⟨w,y,h⟩:=h
    refine AR y (Net.ds_len _) (Z ?_)
    replace h:=AF h; obtain⟨q,g,h⟩:=h
    refine AJ (QE _ _ g) (Z ?_)
    refine AB (Z ?_)
    refine AD h (fun h=>Z ?_) (fun h=>Z ?_)
    ·cases h
     simp only [go_sem]
    ·refine AB (Z ?_)
     refine An (AH rfl rfl (ih0 a0 (IntKind.i64.wrap (u+1)) _ h):) (.one ⟨_,.done _,[],[],?_⟩)
     try simp only [go_sem]
   ·refine AB (Z ?_)
    cases h
    simp only [go_sem]
theorem SN (a0 r) (h:I2 a0=some r):AC Tryz.prog 73 [.ro (List.map Net.ds a0)] (.bool r):=by
 unfold I2 at h
 refine AZ mixed Tryz.func73 rfl rfl rfl (by kernel_rfl) (by kernel_rfl) (Z ?_)
 refine AD h (fun h=>Z ?_) (fun h=>Z ?_)
 ·cases h
  simp only [go_sem]
 ·refine AB (Z ?_)
  refine Aa (AH rfl rfl (Og fuel a0 0 _ h):) (.one ⟨_,.done _,[],[],?_⟩)
  try simp only [go_sem]
end Go.Proofs.YtckcfdggbbabfaaGreat.Ab
