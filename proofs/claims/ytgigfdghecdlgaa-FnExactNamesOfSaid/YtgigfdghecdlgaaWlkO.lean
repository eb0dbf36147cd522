/-
 The functions do what their models say. Printed by wip/ab/gen.py.
-/
import Derived.Test.YtgigfdghecdlgaaModO
import Derived.Test.YtgigfdghecdlgaaTi2
import Derived.Test.YtgigfdghecdlgaaWlkN
namespace Go.Proofs.Ytgigfdghecdlgaa.Ab
set_option linter.unusedVariables false
set_option linter.unusedSimpArgs false
set_option maxRecDepth 20000
set_option maxHeartbeats 4000000
open Go.RowKit
theorem I8 (n:Nat):(∀a0 a1 a2 r,CC n a0 a1 a2=some r→AG Try.prog 30 [.rop [.int .i64 a0.kind,.int .i64 a0.value,.ro (List.map AM a0.data),.ro (List.map Core.ds a0.kids)] 0,.box 1 0,.own 1001] [(1001,⟨List.map AM a2,some 1,0,false⟩)] [(1,[.int .i64 a1])] (.own 1501) [(1501,⟨List.map AM r.1,some 1,0,false⟩)] [(1,[.int .i64 r.2])])∧
    (∀a0 a1 u r,Bb n a0 a1 u=some r→F6 Try.prog Try.f30 [1,1] (.own 1501) [(1501,⟨List.map AM r.1,some 1,0,false⟩)] [(1,[.int .i64 r.2])] ⟨[(0,.rop [.int .i64 a0.kind,.int .i64 a0.value,.ro (List.map AM a0.data),.ro (List.map Core.ds a0.kids)] 0),(1,.box 1 0),(2,.own 1000000000)],[(1000000000,some ⟨List.map AM u,some 1,0,false⟩)],[(1,some [.int .i64 a1])]⟩)∧
    (∀a0 w y q r,BI n a0 w y q=some r→F6 Try.prog Try.f30 [1,1,1,0,1,0] (.own 1501) [(1501,⟨List.map AM r.1,some 1,0,false⟩)] [(1,[.int .i64 r.2])] ⟨[(0,.rop [.int .i64 a0.kind,.int .i64 a0.value,.ro (List.map AM a0.data),.ro (List.map Core.ds a0.kids)] 0),(1,.box 1 0),(2,.own 1000002000),(7,.int .i64 q)],[(1000002000,some ⟨List.map AM y,some 1,0,false⟩)],[(1,some [.int .i64 w])]⟩):=by
 induction n with
 |zero=>exact⟨(fun _ _ _ _ h=>by rw [CC] at h; cases h),(fun _ _ _ _ h=>by rw [Bb] at h; cases h),(fun _ _ _ _ _ h=>by rw [BI] at h; cases h)⟩
 | succ n ih=>
  obtain⟨ih0,ih1,ih2⟩:=ih
  refine⟨?_,?_,?_⟩
  ·intro a0 a1 a2 r h
   rw [CC] at h
   refine agF Try.func30 mixed (h:=Z ?_)
   replace h:=AH h; obtain⟨g,j,h⟩:=h
   refine AK (My _ _ j) (Z ?_)
   refine AF ?_
   refine AD h (fun h=>Z ?_) (fun h=>Z ?_)
   ·replace h:=AH h; obtain⟨k,b,h⟩:=h
    have hq_:=AO b
    obtain⟨hv3005a,hv3005b⟩:=hq_
    refine BE false (Z ?_)
    refine Ak (by refine⟨?_,?_⟩ <;> (try simp only [List.length_map,List.length_append,List.length_cons,List.length_nil] at*) <;> (try unfold maxLen) <;> omega) (Z ?_)
    refine Ag (List.map AM k) (by rw [← hv3005b]; simp only [List.map_append,List.map_cons,List.map_nil,List.nil_append,List.append_nil,go_sem,slD]) (Z ?_)
    exact Ug (ih1 a0 a1 k _ h) [(1000000000,48080)] [(1,1)]
   ·exact Ug (ih1 a0 a1 a2 _ h) [(1000000000,1001)] [(1,1)]
  ·intro a0 a1 u r h
   rw [Bb] at h
   refine DH rfl rfl (Z ?_)
   exact loG (ih2 a0 (IntKind.i64.wrap (a1+1)) u 0 _ h) [(1000002000,1000000000)] [(1,1)]
  ·intro a0 w y q r h
   rw [BI] at h
   refine DH rfl rfl (Z ?_)
   refine A1 (Z ?_)
   refine AD h (fun h=>Z ?_) (fun h=>Z ?_)
   ·refine AF ?_
    replace h:=AH h; obtain⟨d,c,h⟩:=h
    refine AY c (Core.ds_len _) (Z ?_)
    replace h:=AH h; obtain⟨e,i,h⟩:=h
    refine caG ⟨[],[(1001,1000002000)],[(1,1,0)],[(1501,128128)],[],true⟩ (ih0 _ _ _ _ i) (Z ?_)
    refine AF ?_
    exact lpG (ih2 a0 e.2 e.1 (IntKind.i64.wrap (q+1)) _ h) [(1000002000,128128)] [(1,1)]
   ·refine AF ?_
    cases h
    refine EG (.done _) [(1501,1000002000)] [(1,1)] ?_
    simp only [go_sem]
theorem Jb (n:Nat):(∀a0 a1 a2 r,CC n a0 a1 a2=some r→AG Try.prog 30 [.rop [.int .i64 a0.kind,.int .i64 a0.value,.ro (List.map AM a0.data),.ro (List.map Core.ds a0.kids)] 0,.box 1 0,.own 1001] [(1001,⟨List.map AM a2,some 1,0,false⟩)] [(1,[.int .i64 a1])] (.own 1501) [(1501,⟨List.map AM r.1,some 1,0,false⟩)] [(1,[.int .i64 r.2])]):=(I8 n).1
theorem Jc (n:Nat):(∀a0 u w y r,CD n a0 u w y=some r→F6 Try.prog Try.f10 [1,1,1,1,1,0,1,0] (.tup [.own 1501,.int .i64 r.2]) [(1501,⟨List.map A2 r.1,some 1,0,false⟩)] [] ⟨[(1,.rop [.int .i64 a0.term.kind,.int .i64 a0.term.value,.ro (List.map AM a0.term.data),.ro (List.map Core.ds a0.term.kids),.ro (List.map A2 a0.labels)] 0),(5,.own 1000001000),(6,.own 1000001001),(7,.int .i64 y)],[(1000001000,some ⟨List.map AM u.1,some 1,0,false⟩),(1000001001,some ⟨List.map A2 w,some 1,0,false⟩)],[]⟩):=by
 induction n with
 |zero=>exact((fun _ _ _ _ _ h=>by rw [CD] at h; cases h))
 | succ n ih=>
  have ih0:=ih
  ·intro a0 u w y r h
   rw [CD] at h
   refine DH rfl rfl (Z ?_)
   refine A1 (Z ?_)
   refine AD h (fun h=>Z ?_) (fun h=>Z ?_)
   ·refine AF ?_
    replace h:=AH h; obtain⟨q,g,h⟩:=h
    refine AY g rfl (Z ?_)
    refine Fi (Di g) (Z ?_)
    replace h:=AH h; obtain⟨j,k,h⟩:=h
    refine Sh (Pb _ _ _ k) (by (first|rfl|(simp only [go_sem]; rfl))) (by first|rfl|(simp only [go_sem])) (Z ?_)
    refine AF ?_
    replace h:=AH h; obtain⟨b,d,h⟩:=h
    refine AK (Mz _ _ d) (Z ?_)
    replace h:=AH h; obtain⟨c,e,h⟩:=h
    have hq_:=AO e
    obtain⟨hv11004a,hv11004b⟩:=hq_
    refine BE false (Z ?_)
    refine Ak (by refine⟨?_,?_⟩ <;> (try simp only [List.length_map,List.length_append,List.length_cons,List.length_nil] at*) <;> (try unfold maxLen) <;> omega) (Z ?_)
    refine Ag (List.map A2 c) (by rw [← hv11004b]; simp only [List.map_append,List.map_cons,List.map_nil,List.nil_append,List.append_nil,go_sem,slD]) (Z ?_)
    refine AF ?_
    exact lpG (ih0 a0 u c (IntKind.i64.wrap (y+1)) _ h) [(1000001000,1000001000),(1000001001,176064)] []
   ·refine AF ?_
    cases h
    refine EG (.done _) [(1501,1000001001)] [] ?_
    simp only [go_sem]
theorem M0 (a0 r) (h:Fk a0=some r):AG Try.prog 10 [.agg [.int .i64 a0.term.kind,.int .i64 a0.term.value,.ro (List.map AM a0.term.data),.ro (List.map Core.ds a0.term.kids),.ro (List.map A2 a0.labels)]] [] [] (.tup [.own 1501,.int .i64 r.2]) [(1501,⟨List.map A2 r.1,some 1,0,false⟩)] [] :=by
 unfold Fk at h
 refine agF Try.func10 mixed (h:=Z ?_)
 replace h:=AH h; obtain⟨u,w,h⟩:=h
 refine AK (Pa _ _ w) (Z ?_)
 refine AF ?_
 refine AD h (fun h=>Z ?_) (fun h=>Z ?_)
 ·cases h
  refine EG (.lit 0 2000000000 3000 0 1 false [0] _ _ (by (first|rfl|(simp only [go_sem]; rfl))) (by simp only [go_sem]; rfl) (by (first|rfl|(simp only [go_sem]; rfl))) (by (first|rfl|(simp only [go_sem]; rfl))) (by decide) (by decide) (by simp only [go_sem]) (.done _)) [(1501,2000000000)] [] ?_
  simp only [go_sem]
  all_goals try rfl
 ·refine AF ?_
  refine AF ?_
  replace h:=AH h; obtain⟨y,q,h⟩:=h
  refine caG ⟨[(3000080016,.nils,some 1)],[(1001,3000080016)],[(1,4000,0)],[(1501,80016)],[],false⟩ (Jb fuel _ _ _ _ q) (Z ?_)
  refine AF ?_
  refine EU (BM rfl rfl (Jc fuel a0 y [] 0 _ h):) (.one ⟨_,.lit 6 2000000000 6000 0 1 false [] _ _ (by (first|rfl|(simp only [go_sem]; rfl))) (by simp only [go_sem]; rfl) (by (first|rfl|(simp only [go_sem]; rfl))) (by (first|rfl|(simp only [go_sem]; rfl))) (by decide) (by decide) (by simp only [go_sem]) (.frzB 1000 [(1,[]),(13,[])] [] _ _ _ (by (first|rfl|(simp only [go_sem]; rfl))) (by decide) (by rfl) (by (first|rfl|(simp only [go_sem]; rfl))) (by (first|rfl|(simp only [go_sem]; rfl))) (.done _)),[(1000001000,80016),(1000001001,2000000000)],[],?_⟩)
  simp only [go_sem]
  all_goals try rfl
theorem Jd (n:Nat):(∀u w y r,CE n u w y=some r→BY Try.prog Try.f11 [1,1,1,0,1,0] (.tup [.ow (some 1) (List.map A2 r.1),.int .i64 r.2]) ⟨[(4,.own 1000001000),(12,.own 1000001001),(13,.int .i64 ((List.length u:Nat):Int)),(14,.int .i64 y)],[(1000001000,some ⟨List.map A2 w,some 1,0,false⟩),(1000001001,some ⟨List.map (pD LabelNode.ds) u,some 1,0,true⟩)],[]⟩):=by
 induction n with
 |zero=>exact((fun _ _ _ _ h=>by rw [CE] at h; cases h))
 | succ n ih=>
  have ih0:=ih
  ·intro u w y r h
   rw [CE] at h
   refine AR rfl rfl (Z ?_)
   refine A1 (Z ?_)
   refine AD h (fun h=>Z ?_) (fun h=>Z ?_)
   ·refine AF ?_
    replace h:=AH h; obtain⟨q,g,h⟩:=h
    refine AY g rfl (Z ?_)
    refine Fi (Di g) (Z ?_)
    replace h:=AH h; obtain⟨j,k,h⟩:=h
    refine AK (FX _ _ k) (Z ?_)
    replace h:=AH h; obtain⟨b,d,h⟩:=h
    have hq_:=AO d
    obtain⟨hv8004a,hv8004b⟩:=hq_
    refine BE false (Z ?_)
    refine Ak (by refine⟨?_,?_⟩ <;> (try simp only [List.length_map,List.length_append,List.length_cons,List.length_nil] at*) <;> (try unfold maxLen) <;> omega) (Z ?_)
    refine Ag (List.map A2 b) (by rw [← hv8004b]; simp only [List.map_append,List.map_cons,List.map_nil,List.nil_append,List.append_nil,go_sem,slD]) (Z ?_)
    refine AF ?_
    exact lpF (ih0 u b (IntKind.i64.wrap (y+1)) _ h) [(1000001000,128064),(1000001001,1000001001)] []
   ·refine AF ?_
    cases h
    simp only [go_sem]
theorem Ie (a0 r) (h:Eh a0=some r):AC Try.prog 11 [.agg (Labelled.avs a0)] (.tup [.ow (some 1) (List.map A2 r.1),.int .i64 r.2]):=by
 unfold Eh at h
 refine acF Try.func11 mixed (h:=Z ?_)
 replace h:=AH h; obtain⟨u,w,h⟩:=h
 refine AK (H0 _ _ w) (Z ?_)
 refine AF ?_
 refine AD h (fun h=>Z ?_) (fun h=>Z ?_)
 ·cases h
  simp only [go_sem]
 ·refine AF ?_
  replace h:=AH h; obtain⟨y,q,h⟩:=h
  refine Sh (H1 _ _ q) (by (first|rfl|(simp only [go_sem]; rfl))) (by first|rfl|(simp only [go_sem])) (Z ?_)
  replace h:=AH h; obtain⟨g,j,h⟩:=h
  refine caG ⟨[(3000080032,.nils,some 1)],[(1001,3000080032)],[],[(1501,80032)],[],true⟩ (GC fuel _ _ _ j) (Z ?_)
  refine AF ?_
  refine EU (EB rfl rfl (Jd fuel g [] 0 _ h):) (.one ⟨_,.slot 4 2000000000 (some 1) false (by simp only [go_sem]) (by simp only [go_sem]) (.done _),[(1000001000,2000000000),(1000001001,80032)],[],?_⟩)
  simp only [go_sem]
  all_goals try rfl
theorem I9 (n:Nat):(∀u w r,BO n u w=some r→BY Try.prog Try.f32 [1,1,1,0,0] (.str r) ⟨[(0,.int .i64 u),(3,.str w)],[],[]⟩):=by
 induction n with
 |zero=>exact((fun _ _ _ h=>by rw [BO] at h; cases h))
 | succ n ih=>
  have ih0:=ih
  ·intro u w r h
   rw [BO] at h
   refine AR rfl rfl (Z ?_)
   refine A1 (Z ?_)
   refine AD h (fun h=>Z ?_) (fun h=>Z ?_)
   ·refine AF ?_
    refine Ak (by decide) (Z ?_)
    replace h:=AH h; obtain⟨y,q,h⟩:=h
    have hq_:=RH q
    obtain⟨hv6005a,hv6005b⟩:=hq_
    refine Xs (ns:=[(IntKind.u8.wrap (IntKind.i64.wrap (48+(Int.tmod u 10))))]) hv6005a ?_
    rw [hv6005b]
    try simp only [go_sem]
    replace h:=AH h; obtain⟨g,j,h⟩:=h
    have hq_:=Ec j
    obtain⟨hv6007a,hv6007b⟩:=hq_
    refine Ak hv6007a ?_
    rw [hv6007b]
    try simp only [go_sem]
    refine Ak (by decide) (Z ?_)
    exact lpF (ih0 (IntKind.i64.wrap (Int.tdiv u 10)) g _ h) [] []
   ·refine AF ?_
    replace h:=AH h; obtain⟨k,b,h⟩:=h
    have hq_:=Ec b
    obtain⟨hv8001a,hv8001b⟩:=hq_
    refine Ak hv8001a ?_
    rw [hv8001b]
    try simp only [go_sem]
    cases h
    simp only [go_sem]
theorem Hb (a0 r) (h:Cv a0=some r):AC Try.prog 32 [.int .i64 a0] (.str r):=by
 unfold Cv at h
 refine acF Try.func32 mixed (h:=Z ?_)
 refine AD h (fun h=>Z ?_) (fun h=>Z ?_)
 ·cases h
  simp only [go_sem]
 ·refine AF ?_
  exact loF (I9 fuel a0 (ByteArray.mk #[]) _ h) [] []
theorem HN (n:Nat):(∀u w y (z1:Option Nat) r,A8 n u w y=some r→F6 Try.prog Try.f14 [1,0,1,0] (.int .i64 r.1) [(1,⟨List.map A2 r.2,z1,0,false⟩)] [] ⟨[(0,.own 1),(1,.int .i64 w),(5,.int .i64 y)],[(1,some ⟨List.map A2 u,z1,0,false⟩)],[]⟩):=by
 induction n with
 |zero=>exact((fun _ _ _ _ _ h=>by rw [A8] at h; cases h))
 | succ n ih=>
  have ih0:=ih
  ·intro u w y z1 r h
   rw [A8] at h
   refine DH rfl rfl (Z ?_)
   refine A1 (Z ?_)
   refine AD h (fun h=>Z ?_) (fun h=>Z ?_)
   ·refine AF ?_
    replace h:=AH h; obtain⟨q,g,h⟩:=h
    refine AK (Hb _ _ g) (Z ?_)
    replace h:=AH h; obtain⟨j,k,h⟩:=h
    refine AY k rfl (Z ?_)
    replace h:=AH h; obtain⟨b,d,h⟩:=h
    refine Fi (Di k) (Z ?_)
    refine Ag (List.map A2 b) (by rw [← C1 d]; simp only [List.map_set,go_sem,slD]) (Z ?_)
    refine AF ?_
    refine AF ?_
    exact lpG (ih0 b (IntKind.i64.wrap (w+1)) (IntKind.i64.wrap (y+1)) z1 _ h) [(1,1)] []
   ·refine AF ?_
    cases h
    refine EG (.done _) [(1,1)] [] ?_
    simp only [go_sem]
theorem Fo (a0 a1) (z1:Option Nat) (r) (h:Cj a0 a1=some r):AG Try.prog 14 [.own 1,.int .i64 a1] [(1,⟨List.map A2 a0,z1,0,false⟩)] [] (.int .i64 r.1) [(1,⟨List.map A2 r.2,z1,0,false⟩)] [] :=by
 unfold Cj at h
 refine agF Try.func14 mixed (h:=Z ?_)
 exact loG (HN fuel a0 a1 0 z1 _ h) [(1,1)] []
theorem H2 (n:Nat):(∀u w y (z1:Option Nat) r,BJ n u w y=some r→F6 Try.prog Try.f55 [1,0,1,0] (.int .i64 r.1) [(1,⟨List.map AM r.2,z1,0,false⟩)] [] ⟨[(0,.own 1),(1,.int .i64 w),(5,.int .i64 y)],[(1,some ⟨List.map AM u,z1,0,false⟩)],[]⟩):=by
 induction n with
 |zero=>exact((fun _ _ _ _ _ h=>by rw [BJ] at h; cases h))
 | succ n ih=>
  have ih0:=ih
  ·intro u w y z1 r h
   rw [BJ] at h
   refine DH rfl rfl (Z ?_)
   refine A1 (Z ?_)
   refine AD h (fun h=>Z ?_) (fun h=>Z ?_)
   ·refine AF ?_
    replace h:=AH h; obtain⟨q,g,h⟩:=h
    refine AY g rfl (Z ?_)
    replace h:=AH h; obtain⟨j,k,h⟩:=h
    refine Fi (Di g) (Z ?_)
    refine Ag (List.map AM j) (by rw [← C1 k]; simp only [List.map_set,go_sem,slD]) (Z ?_)
    refine AF ?_
    exact lpG (ih0 j (IntKind.i64.wrap (w+1)) (IntKind.i64.wrap (y+1)) z1 _ h) [(1,1)] []
   ·refine AF ?_
    cases h
    refine EG (.done _) [(1,1)] [] ?_
    simp only [go_sem]
theorem GH (a0 a1) (z1:Option Nat) (r) (h:C4 a0 a1=some r):AG Try.prog 55 [.own 1,.int .i64 a1] [(1,⟨List.map AM a0,z1,0,false⟩)] [] (.int .i64 r.1) [(1,⟨List.map AM r.2,z1,0,false⟩)] [] :=by
 unfold C4 at h
 refine agF Try.func55 mixed (h:=Z ?_)
 exact loG (H2 fuel a0 a1 0 z1 _ h) [(1,1)] []
theorem Je (n:Nat):(∀a0 a1 (z1:Option Nat) r,CF n a0 a1=some r→AG Try.prog 56 [.own 1,.int .i64 a1] [(1,⟨List.map Core.ds a0,z1,0,false⟩)] [] (.int .i64 r.1) [(1,⟨List.map Core.ds r.2,z1,0,false⟩)] [])∧
    (∀u w y (z1:Option Nat) r,BV n u w y=some r→F6 Try.prog Try.f56 [1,0,1,0] (.int .i64 r.1) [(1,⟨List.map Core.ds r.2,z1,0,false⟩)] [] ⟨[(0,.own 1),(1,.int .i64 w),(5,.int .i64 y)],[(1,some ⟨List.map Core.ds u,z1,0,false⟩)],[]⟩):=by
 induction n with
 |zero=>exact⟨(fun _ _ _ _ h=>by rw [CF] at h; cases h),(fun _ _ _ _ _ h=>by rw [BV] at h; cases h)⟩
 | succ n ih=>
  obtain⟨ih0,ih1⟩:=ih
  refine⟨?_,?_⟩
  ·intro a0 a1 z1 r h
   rw [CF] at h
   refine agF Try.func56 mixed (h:=Z ?_)
   exact loG (ih1 a0 a1 0 z1 _ h) [(1,1)] []
  ·intro u w y z1 r h
   rw [BV] at h
   refine DH rfl rfl (Z ?_)
   refine A1 (Z ?_)
   refine AD h (fun h=>Z ?_) (fun h=>Z ?_)
   ·refine AF ?_
    replace h:=AH h; obtain⟨q,g,h⟩:=h
    refine AY g (Core.ds_len _) (Z ?_)
    replace h:=AH h; obtain⟨j,k,h⟩:=h
    refine Fi (Di g) (Z ?_)
    refine Ag (List.map Core.ds j) (by rw [← C1 k]; simp only [List.map_set,go_sem,Core.ds_eq]) (Z ?_)
    replace h:=AH h; obtain⟨b,d,h⟩:=h
    refine AY d (Core.ds_len _) (Z ?_)
    replace h:=AH h; obtain⟨c,e,h⟩:=h
    refine Fi (Di d) (Z ?_)
    refine Ag (List.map Core.ds c) (by rw [← C1 e]; simp only [List.map_set,go_sem,Core.ds_eq]) (Z ?_)
    replace h:=AH h; obtain⟨i,l,h⟩:=h
    refine AY l (Core.ds_len _) (Z ?_)
    refine Fi (Di l) (Z ?_)
    replace h:=AH h; obtain⟨t,s,h⟩:=h
    replace h:=AH h; obtain⟨o,z,h⟩:=h
    refine caG ⟨[(3000144096,.sub 1 0 [(4,Int.toNat y,2)],none)],[(1,3000144096)],[],[],[],true⟩ (GH _ _ none _ s) (Z ?_)
    refine Fi (Sj (r:=List.map AM i.data) (Di l) (Core.ds_len _) (by simp only [go_sem,Core.ds_eq])) (Z ?_)
    refine Ag ((List.map Core.ds c).set (Int.toNat y) [.int .i64 i.kind,.int .i64 i.value,.gone,.sl (List.map Core.ds i.kids)]) ((MZ (Di l) (d':=.sl (List.map AM i.data)) (by simp only [go_sem,Core.ds_eq])).trans (by simp only [go_sem,Core.ds_eq])) (Z ?_)
    refine Ak (Sk (MY (Di l)) rfl rfl) (Z ?_)
    refine Ag (List.map Core.ds o) (((MZ (MY (Di l)) (d':=.gone) rfl).trans (List.set_set ..)).trans (by rw [← C1 z]; simp only [List.map_set,go_sem,Core.ds_eq])) (Z ?_)
    refine AF ?_
    replace h:=AH h; obtain⟨u1,u2,h⟩:=h
    refine AY u2 (Core.ds_len _) (Z ?_)
    refine Fi (Di u2) (Z ?_)
    replace h:=AH h; obtain⟨u3,u4,h⟩:=h
    replace h:=AH h; obtain⟨u5,u6,h⟩:=h
    refine caG ⟨[(3000160096,.sub 1 0 [(4,Int.toNat y,3)],none)],[(1,3000160096)],[],[],[],true⟩ (ih0 _ _ none _ u4) (Z ?_)
    refine Fi (Sj (r:=List.map Core.ds u1.kids) (Di u2) (Core.ds_len _) (by simp only [go_sem,Core.ds_eq])) (Z ?_)
    refine Ag ((List.map Core.ds o).set (Int.toNat y) [.int .i64 u1.kind,.int .i64 u1.value,.sl (List.map AM u1.data),.gone]) ((MZ (Di u2) (d':=.sl (List.map Core.ds u1.kids)) (by simp only [go_sem,Core.ds_eq])).trans (by simp only [go_sem,Core.ds_eq])) (Z ?_)
    refine Ak (Sk (MY (Di u2)) rfl rfl) (Z ?_)
    refine Ag (List.map Core.ds u5) (((MZ (MY (Di u2)) (d':=.gone) rfl).trans (List.set_set ..)).trans (by rw [← C1 u6]; simp only [List.map_set,go_sem,Core.ds_eq])) (Z ?_)
    refine AF ?_
    exact lpG (ih1 u5 u3.1 (IntKind.i64.wrap (y+1)) z1 _ h) [(1,1)] []
   ·refine AF ?_
    cases h
    refine EG (.done _) [(1,1)] [] ?_
    simp only [go_sem]
theorem K2 (n:Nat):(∀a0 a1 (z1:Option Nat) r,CF n a0 a1=some r→AG Try.prog 56 [.own 1,.int .i64 a1] [(1,⟨List.map Core.ds a0,z1,0,false⟩)] [] (.int .i64 r.1) [(1,⟨List.map Core.ds r.2,z1,0,false⟩)] []):=(Je n).1
theorem LW (a0 a1) (z1:Option Nat) (z2:Option Nat) (r) (h:E9 a0 a1=some r):AG Try.prog 31 [.agg [.int .i64 a0.kind,.int .i64 a0.value,.own 1,.own 2],.int .i64 a1] [(1,⟨List.map AM a0.data,z1,0,false⟩),(2,⟨List.map Core.ds a0.kids,z2,0,false⟩)] [] (.int .i64 r.1) [(1,⟨List.map AM r.2.1,z1,0,false⟩),(2,⟨List.map Core.ds r.2.2,z2,0,false⟩)] [] :=by
 unfold E9 at h
 refine agF Try.func31 mixed (h:=Z ?_)
 replace h:=AH h; obtain⟨u,w,h⟩:=h
 refine caG ⟨[],[(1,1)],[],[],[],true⟩ (GH _ _ z1 _ w) (Z ?_)
 refine AF ?_
 replace h:=AH h; obtain⟨y,q,h⟩:=h
 refine caG ⟨[],[(1,2)],[],[],[],true⟩ (K2 fuel _ _ z2 _ q) (Z ?_)
 refine AF ?_
 cases h
 refine EG (.done _) [(1,1),(2,2)] [] ?_
 simp only [go_sem]
theorem If (a0 a1) (z1:Option Nat) (z2:Option Nat) (z3:Option Nat) (r) (h:Cw a0 a1=some r):AG Try.prog 13 [.agg [.int .i64 a0.term.kind,.int .i64 a0.term.value,.own 1,.own 2,.own 3],.int .i64 a1] [(1,⟨List.map AM a0.term.data,z1,0,false⟩),(2,⟨List.map Core.ds a0.term.kids,z2,0,false⟩),(3,⟨List.map A2 a0.labels,z3,0,false⟩)] [] (.int .i64 r.1) [(1,⟨List.map AM r.2.1,z1,0,false⟩),(2,⟨List.map Core.ds r.2.2.1,z2,0,false⟩),(3,⟨List.map A2 r.2.2.2,z3,0,false⟩)] [] :=by
 unfold Cw at h
 refine agF Try.func13 mixed (h:=Z ?_)
 replace h:=AH h; obtain⟨u,w,h⟩:=h
 refine caG ⟨[],[(1,1),(2,2)],[],[],[],true⟩ (LW _ _ z1 z2 _ w) (Z ?_)
 refine AF ?_
 replace h:=AH h; obtain⟨y,q,h⟩:=h
 refine caG ⟨[],[(1,3)],[],[],[],true⟩ (Fo _ _ z3 _ q) (Z ?_)
 refine AF ?_
 cases h
 refine EG (.done _) [(1,1),(2,2),(3,3)] [] ?_
 simp only [go_sem]
theorem HO (n:Nat):(∀a0 u w r,A9 n a0 u w=some r→BY Try.prog Try.f15 [1,0,1,0] (.int .i64 r) ⟨[(0,.ro (List.map A2 a0)),(1,.int .i64 u),(5,.int .i64 w)],[],[]⟩):=by
 induction n with
 |zero=>exact((fun _ _ _ _ h=>by rw [A9] at h; cases h))
 | succ n ih=>
  have ih0:=ih
  ·intro a0 u w r h
   rw [A9] at h
   refine AR rfl rfl (Z ?_)
   refine A1 (Z ?_)
   refine AD h (fun h=>Z ?_) (fun h=>Z ?_)
   ·refine AF ?_
    refine CO [] .fin (by kernel_rfl) (Z ?_)
    replace h:=AH h; obtain⟨y,q,h⟩:=h
    refine AY q rfl (Z ?_)
    replace h:=AH h; obtain⟨g,j,h⟩:=h
    refine AK (Hb _ _ j) (Z ?_)
    refine AF ?_
    refine AD h (fun h=>Z ?_) (fun h=>Z ?_)
    ·cases h
     simp only [go_sem]
    ·refine AF ?_
     refine AF ?_
     exact lpF (ih0 a0 (IntKind.i64.wrap (u+1)) (IntKind.i64.wrap (w+1)) _ h) [] []
   ·refine AF ?_
    cases h
    simp only [go_sem]
theorem Fp (a0 a1 r) (h:Ck a0 a1=some r):AC Try.prog 15 [.ro (List.map A2 a0),.int .i64 a1] (.int .i64 r):=by
 unfold Ck at h
 refine acF Try.func15 mixed (h:=Z ?_)
 exact loF (HO fuel a0 a1 0 _ h) [] []
theorem Dr (u:Int × (List ByteArray)) (w:Bool) (r:Bool) (h:Bd u w=some r):BY Try.prog Try.f4 [1,1,1,1,1,1,1,1,1,1,1,1,1,1,1,1,1,1,1,0,1] (.bool r) ⟨[(7,.own 1000002000),(10,.int .i64 u.1),(87,.bool w)],[(1000002000,some ⟨List.map A2 u.2,some 1,0,false⟩)],[]⟩:=by
 unfold Bd at h
 refine AR rfl rfl (Z ?_)
 refine AD h (fun h=>Z ?_) (fun h=>Z ?_)
 ·cases h
  simp only [go_sem]
 ·refine AF ?_
  replace h:=AH h; obtain⟨y,q,h⟩:=h
  refine AK (Fp _ _ _ q) (Z ?_)
  refine AF ?_
  refine AD h (fun h=>Z ?_) (fun h=>Z ?_)
  ·cases h
   simp only [go_sem]
  ·refine AF ?_
   refine AD h (fun h=>Z ?_) (fun h=>Z ?_)
   ·cases h
    simp only [go_sem]
   ·refine AF ?_
    cases h
    simp only [go_sem]
theorem Cc (a0:Labelled) (u:(List ByteArray) × Int) (w:(List ByteArray) × Int) (y:Bool) (r:Bool) (h:BG a0 u w y=some r):BY Try.prog Try.f4 [1,1,1,1,1,1,1,1,1,1,1,0,1] (.bool r) ⟨[(1,.box 1000001500 0),(4,.own 1000001000),(5,.int .i64 u.2),(7,.own 1000001001),(61,.bool y)],[(1000001000,some ⟨List.map A2 u.1,some 1,0,false⟩),(1000001001,some ⟨List.map A2 w.1,some 1,0,false⟩)],[(1000001500,some [.int .i64 a0.term.kind,.int .i64 a0.term.value,.ro (List.map AM a0.term.data),.ro (List.map Core.ds a0.term.kids),.ro (List.map A2 a0.labels)])]⟩:=by
 unfold BG at h
 refine AR rfl rfl (Z ?_)
 refine AD h (fun h=>Z ?_) (fun h=>Z ?_)
 ·cases h
  simp only [go_sem]
 ·refine AF ?_
  replace h:=AH h; obtain⟨q,g,h⟩:=h
  refine caG ⟨[],[(1,1000001001)],[],[],[],true⟩ (Fo _ _ (some 1) _ g) (Z ?_)
  refine AF ?_
  replace h:=AH h; obtain⟨j,k,h⟩:=h
  refine AK (Fp _ _ _ k) (Z ?_)
  refine AF ?_
  refine AD h (fun h=>Z ?_) (fun h=>Z ?_)
  ·cases h
   simp only [go_sem]
  ·refine AF ?_
   refine AD h (fun h=>Z ?_) (fun h=>Z ?_)
   ·cases h
    simp only [go_sem]
   ·refine AF ?_
    replace h:=AH h; obtain⟨b,d,h⟩:=h
    refine AK (DK _ _ d) (Z ?_)
    replace h:=AH h; obtain⟨c,e,h⟩:=h
    refine AK (Ie _ _ e) (Z ?_)
    refine AF ?_
    replace h:=AH h; obtain⟨i,l,h⟩:=h
    refine AK (Dq _ _ _ l) (Z ?_)
    refine AD h (fun h=>Z ?_) (fun h=>Z ?_)
    ·exact A4 (Dr q true _ h) [(1000002000,1000001001)] []
    ·exact A4 (Dr q (!decide (c.2 =u.2)) _ h) [(1000002000,1000001001)] []
theorem Ds (a0:Labelled) (u:(List ByteArray) × Int) (w:Labelled) (y:(List ByteArray) × Int) (q:Bool) (r:Bool) (h:Be a0 u w y q=some r):BY Try.prog Try.f4 [1,1,1,1,1,1,1,0,1] (.bool r) ⟨[(1,.box 1000000500 0),(4,.own 1000000000),(5,.int .i64 u.2),(6,.box 1000000501 0),(7,.own 1000000004),(8,.int .i64 y.2),(40,.bool q)],[(1000000000,some ⟨List.map A2 u.1,some 1,0,false⟩),(1000000001,some ⟨List.map AM w.term.data,some 1,0,false⟩),(1000000002,some ⟨List.map Core.ds w.term.kids,some 4,0,false⟩),(1000000003,some ⟨List.map A2 w.labels,some 1,0,false⟩),(1000000004,some ⟨List.map A2 y.1,some 1,0,false⟩)],[(1000000500,some [.int .i64 a0.term.kind,.int .i64 a0.term.value,.ro (List.map AM a0.term.data),.ro (List.map Core.ds a0.term.kids),.ro (List.map A2 a0.labels)]),(1000000501,some [.int .i64 w.term.kind,.int .i64 w.term.value,.own 1000000001,.own 1000000002,.own 1000000003])]⟩:=by
 unfold Be at h
 refine AR rfl rfl (Z ?_)
 refine AD h (fun h=>Z ?_) (fun h=>Z ?_)
 ·cases h
  simp only [go_sem]
 ·refine AF ?_
  refine CO [] .fin (by kernel_rfl) (Z ?_)
  replace h:=AH h; obtain⟨g,j,h⟩:=h
  refine AK (DK _ _ j) (Z ?_)
  replace h:=AH h; obtain⟨k,b,h⟩:=h
  refine AK (Ja _ _ _ b) (Z ?_)
  refine AF ?_
  refine AD h (fun h=>Z ?_) (fun h=>Z ?_)
  ·cases h
   simp only [go_sem]
  ·refine AF ?_
   replace h:=AH h; obtain⟨d,c,h⟩:=h
   refine caG ⟨[],[(1,1000000001),(2,1000000002),(3,1000000003)],[],[],[],true⟩ (If _ _ (some 1) (some 4) (some 1) _ c) (Z ?_)
   refine AF ?_
   refine AD h (fun h=>Z ?_) (fun h=>Z ?_)
   ·exact A4 (Cc a0 u y true _ h) [(1000001000,1000000000),(1000001001,1000000004)] [(1000001500,1000000500)]
   ·replace h:=AH h; obtain⟨e,i,h⟩:=h
    refine AK (Dq _ _ _ i) (Z ?_)
    refine AD h (fun h=>Z ?_) (fun h=>Z ?_)
    ·exact A4 (Cc a0 u y true _ h) [(1000001000,1000000000),(1000001001,1000000004)] [(1000001500,1000000500)]
    ·exact A4 (Cc a0 u y (!decide (y.2 =u.2)) _ h) [(1000001000,1000000000),(1000001001,1000000004)] [(1000001500,1000000500)]
theorem HM (a0 r) (h:C5 a0=some r):AC Try.prog 4 [.agg (Labelled.avs a0)] (.bool r):=by
 unfold C5 at h
 refine acF Try.func4 mixed (h:=Z ?_)
 replace h:=AH h; obtain⟨u,w,h⟩:=h
 refine AK (JZ _ _ _ w) (Z ?_)
 refine AF ?_
 refine AD h (fun h=>Z ?_) (fun h=>Z ?_)
 ·cases h
  simp only [go_sem]
 ·refine AF ?_
  replace h:=AH h; obtain⟨y,q,h⟩:=h
  refine AK (DK _ _ q) (Z ?_)
  replace h:=AH h; obtain⟨g,j,h⟩:=h
  refine caG ⟨[],[],[],[(1501,96032)],[],false⟩ (M0 _ _ j) (Z ?_)
  refine AF ?_
  replace h:=AH h; obtain⟨k,b,h⟩:=h
  refine AK (DK _ _ b) (Z ?_)
  refine AF ?_
  replace h:=AH h; obtain⟨d,c,h⟩:=h
  refine AK (Ie _ _ c) (Z ?_)
  refine AF ?_
  replace h:=AH h; obtain⟨e,i,h⟩:=h
  refine AK (Dq _ _ _ i) (Z ?_)
  refine AD h (fun h=>Z ?_) (fun h=>Z ?_)
  ·exact A4 (Ds a0 g k d true _ h) [(1000000000,96032),(1000000001,112016),(1000000002,112017),(1000000003,112018),(1000000004,128016)] [(1000000500,1000),(1000000501,7002)]
  ·exact A4 (Ds a0 g k d (!decide (d.2 =g.2)) _ h) [(1000000000,96032),(1000000001,112016),(1000000002,112017),(1000000003,112018),(1000000004,128016)] [(1000000500,1000),(1000000501,7002)]
end Go.Proofs.Ytgigfdghecdlgaa.Ab
