/-
 The functions do what their models say. Printed by wip/ab/gen.py.
-/
import Derived.Test.YtnfgeocnolheoaaGreatModB
import Derived.Test.YtnfgeocnolheoaaGreatTi2
import Derived.Test.YtnfgeocnolheoaaGreatWlkT
namespace Go.Proofs.YtnfgeocnolheoaaGreat.Ab
set_option linter.defProp false
set_option linter.unusedVariables false
set_option linter.unusedSimpArgs false
set_option maxRecDepth 20000
set_option maxHeartbeats 4000000
open Go.RowKit
theorem VX (n:Nat):(∀a0 r,IY n a0=some r→AC Tryz.prog 32 [.agg (TType.avs a0)] (.agg (TType.rv r)))∧
    (∀a0 u w r,Dq n a0 u w=some r→Af Tryz.prog Tryz.f32 [1,1,0,1,0] (.agg (TType.rv r)) ⟨[(1,.box 1000001500 0),(2,.box 1000001501 0),(3,.box 1000001502 0),(4,.int .i64 w)],[(1000001000,some ⟨List.map TType.ds u,some 3,0,false⟩)],[(1000001500,some [.int .i64 a0.kind,.str a0.name,.ro (a0.kids.map TType.ds)]),(1000001501,some [.int .i64 0,.str ByteArray.empty,.nils]),(1000001502,some [.int .i64 a0.kind,.str a0.name,.own 1000001000])]⟩):=by
 induction n with
 |zero=>exact⟨(fun _ _ h=>by rw [IY] at h; cases h),(fun _ _ _ _ h=>by rw [Dq] at h; cases h)⟩
 | succ n ih=>
  obtain⟨ih0,ih1⟩:=ih
  refine⟨?_,?_⟩
  ·intro a0 r h
   rw [IY] at h
   refine acF Tryz.func32 mixed (h:=Z ?_)
   refine AF ?_
   refine AF ?_
   refine D9 (C3 rfl rfl (ih1 a0 [] 0 _ h):) (.one ⟨_,.cell 2005 2 2000000000 (some 3) false _ (by simp only [go_sem]; rfl) (by rfl) (by simp only [go_sem]) (.done _),[(1000001000,2000000000)],[(1000001500,1000),(1000001501,1001),(1000001502,2005)],?_⟩)
   simp only [go_sem]
   all_goals try rfl
  ·intro a0 u w r h
   rw [Dq] at h
   refine AL rfl rfl (Z ?_)
   refine AT (Z ?_)
   refine AD h (fun h=>Z ?_) (fun h=>Z ?_)
   ·refine AF ?_
    refine AW [false,false,false,false,false,false,false,false,false,true,true,true] (Tr.sq [9,10,11] .fin) (by kernel_rfl) (Z ?_)
    replace h:=AB h; obtain⟨y,q,h⟩:=h
    refine AK q (TType.ds_len _) (Z ?_)
    replace h:=AB h; obtain⟨g,j,h⟩:=h
    refine AH (ih0 _ _ j) (Z ?_)
    replace h:=AB h; obtain⟨k,b,h⟩:=h
    have hq_:=Ca b
    obtain⟨hv6009a,hv6009b⟩:=hq_
    refine G9 false (Z ?_)
    refine Bl (by refine⟨?_,?_⟩ <;> (try simp only [List.length_map,List.length_append,List.length_cons,List.length_nil] at*) <;> (try unfold maxLen) <;> omega) (Z ?_)
    refine Av (k.map TType.ds) (by rw [← hv6009b]; simp only [List.map_append,List.map_cons,List.map_nil,List.nil_append,List.append_nil,go_sem,TType.ds_eq]) (Z ?_)
    refine AF ?_
    exact lpF (ih1 a0 k (IntKind.i64.wrap (w+1)) _ h) [(1000001000,96144)] [(1000001500,1000001500),(1000001501,1000001501),(1000001502,1000001502)]
   ·refine AF ?_
    cases h
    simp only [go_sem]
def XH (n:Nat):=(VX n).1
theorem TD (a0 a1 r) (h:IZ a0 a1=some r):AC Tryz.prog 13 [.agg (TProgram.avs a0),.int .i64 a1] (.tup [.agg (TType.rv r.1),.int .i64 r.2]):=by
 unfold IZ at h
 refine acF Tryz.func13 mixed (h:=Z ?_)
 refine AF ?_
 replace h:=AB h; obtain⟨u,w,h⟩:=h
 refine AH (Nm _ _ w) (Z ?_)
 refine AF ?_
 refine AD h (fun h=>Z ?_) (fun h=>Z ?_)
 ·cases h
  simp only [go_sem]
 ·refine AF ?_
  replace h:=AB h; obtain⟨y,q,h⟩:=h
  refine AH (IB _ _ _ _ q) (Z ?_)
  refine AF ?_
  refine AD h (fun h=>Z ?_) (fun h=>Z ?_)
  ·cases h
   simp only [go_sem]
  ·refine SV (.frzB 1000 [(2,[])] [] _ _ _ (by (first|rfl|(simp only [go_sem]; rfl))) (by decide) (by rfl) (by (first|rfl|(simp only [go_sem]; rfl))) (by (first|rfl|(simp only [go_sem]; rfl))) (.done _)) (Z ?_)
   all_goals try rfl
   replace h:=AB h; obtain⟨g,j,h⟩:=h
   refine AK j (Def.ds_len _) (Z ?_)
   replace h:=AB h; obtain⟨k,b,h⟩:=h
   refine Ak (dI (Ll fuel _ _ _ _ _ b) (.cons (.refl _) (.cons (.rop rfl) (.cons (.refl _) (.cons (.refl _) .nil))))) (by (first|rfl|(simp only [go_sem]; rfl))) (by first|rfl|(simp only [go_sem])) (Z ?_)
   refine AF ?_
   refine AD h (fun h=>Z ?_) (fun h=>Z ?_)
   ·cases h
    simp only [go_sem]
   ·refine AF ?_
    replace h:=AB h; obtain⟨d,c,h⟩:=h
    refine AH (XH fuel _ _ c) (Z ?_)
    refine AF ?_
    cases h
    simp only [go_sem]
theorem NT (a0 a1 r) (h:GR a0 a1=some r):AC Tryz.prog 34 [.agg (TProgram.avs a0),.int .i64 a1] (.bool r):=by
 unfold GR at h
 refine acF Tryz.func34 mixed (h:=Z ?_)
 refine AD h (fun h=>Z ?_) (fun h=>Z ?_)
 ·refine AF ?_
  cases h
  simp only [go_sem]
 ·refine AF ?_
  cases h
  simp only [go_sem]
theorem TE (n:Nat):(∀a0 r,F2 n a0=some r→AC Tryz.prog 36 [.agg (TType.avs a0)] (.agg (TType.rv r)))∧
    (∀a0 u w r,Cj n a0 u w=some r→Af Tryz.prog Tryz.f36 [1,1,0,1,0] (.agg (TType.rv r)) ⟨[(2,.box 1000001500 0),(3,.box 1000001501 0),(12,.ro (a0.kids.map TType.ds)),(13,.int .i64 (a0.kids.length:Int)),(14,.int .i64 w)],[(1000001000,some ⟨List.map TType.ds u,some 3,0,false⟩)],[(1000001500,some [.int .i64 0,.str ByteArray.empty,.nils]),(1000001501,some [.int .i64 a0.kind,.str a0.name,.own 1000001000])]⟩):=by
 induction n with
 |zero=>exact⟨(fun _ _ h=>by rw [F2] at h; cases h),(fun _ _ _ _ h=>by rw [Cj] at h; cases h)⟩
 | succ n ih=>
  obtain⟨ih0,ih1⟩:=ih
  refine⟨?_,?_⟩
  ·intro a0 r h
   rw [F2] at h
   refine acF Tryz.func36 mixed (h:=Z ?_)
   refine AF ?_
   refine AF ?_
   refine D9 (C3 rfl rfl (ih1 a0 [] 0 _ h):) (.one ⟨_,.cell 2005 2 2000000000 (some 3) false _ (by simp only [go_sem]; rfl) (by rfl) (by simp only [go_sem]) (.done _),[(1000001000,2000000000)],[(1000001500,1001),(1000001501,2005)],?_⟩)
   simp only [go_sem]
   all_goals try rfl
  ·intro a0 u w r h
   rw [Cj] at h
   refine AL rfl rfl (Z ?_)
   refine AT (Z ?_)
   refine AD h (fun h=>Z ?_) (fun h=>Z ?_)
   ·refine AF ?_
    replace h:=AB h; obtain⟨y,q,h⟩:=h
    refine AK q (TType.ds_len _) (Z ?_)
    refine AF ?_
    refine AW [false,false,false,false,false,true,true,true] (Tr.sq [5,6,7] .fin) (by kernel_rfl) (Z ?_)
    replace h:=AB h; obtain⟨g,j,h⟩:=h
    refine AH (ih0 _ _ j) (Z ?_)
    replace h:=AB h; obtain⟨k,b,h⟩:=h
    have hq_:=Ca b
    obtain⟨hv6005a,hv6005b⟩:=hq_
    refine G9 false (Z ?_)
    refine Bl (by refine⟨?_,?_⟩ <;> (try simp only [List.length_map,List.length_append,List.length_cons,List.length_nil] at*) <;> (try unfold maxLen) <;> omega) (Z ?_)
    refine Av (k.map TType.ds) (by rw [← hv6005b]; simp only [List.map_append,List.map_cons,List.map_nil,List.nil_append,List.append_nil,go_sem,TType.ds_eq]) (Z ?_)
    refine AF ?_
    exact lpF (ih1 a0 k (IntKind.i64.wrap (w+1)) _ h) [(1000001000,96080)] [(1000001500,1000001500),(1000001501,1000001501)]
   ·refine AF ?_
    cases h
    simp only [go_sem]
def Th (n:Nat):=(TE n).1
theorem Mt (a0 a1 r) (h:HI a0 a1=some r):AC Tryz.prog 14 [.agg (TProgram.avs a0),.int .i64 a1] (.tup [.agg (TType.rv r.1),.int .i64 r.2]):=by
 unfold HI at h
 refine acF Tryz.func14 mixed (h:=Z ?_)
 refine AF ?_
 replace h:=AB h; obtain⟨u,w,h⟩:=h
 refine AH (Lu _ _ w) (Z ?_)
 refine AF ?_
 refine AD h (fun h=>Z ?_) (fun h=>Z ?_)
 ·cases h
  simp only [go_sem]
 ·refine AF ?_
  replace h:=AB h; obtain⟨y,q,h⟩:=h
  refine AH (NT _ _ _ q) (Z ?_)
  refine AF ?_
  refine AD h (fun h=>Z ?_) (fun h=>Z ?_)
  ·cases h
   simp only [go_sem]
  ·refine AF ?_
   refine AW [] .fin (by kernel_rfl) (Z ?_)
   replace h:=AB h; obtain⟨g,j,h⟩:=h
   refine AK j (Def.ds_len _) (Z ?_)
   replace h:=AB h; obtain⟨k,b,h⟩:=h
   refine Ak (Lw fuel _ _ _ _ _ b) (by (first|rfl|(simp only [go_sem]; rfl))) (by first|rfl|(simp only [go_sem])) (Z ?_)
   refine AF ?_
   refine AD h (fun h=>Z ?_) (fun h=>Z ?_)
   ·cases h
    simp only [go_sem]
   ·refine AF ?_
    replace h:=AB h; obtain⟨d,c,h⟩:=h
    refine AH (Th fuel _ _ c) (Z ?_)
    refine AF ?_
    cases h
    simp only [go_sem]
theorem QU (n:Nat):(∀u w r,DG n u w=some r→Af Tryz.prog Tryz.f85 [1,1,1,0,0] (.str r) ⟨[(0,.int .i64 u),(3,.str w)],[],[]⟩):=by
 induction n with
 |zero=>exact((fun _ _ _ h=>by rw [DG] at h; cases h))
 | succ n ih=>
  have ih0:=ih
  ·intro u w r h
   rw [DG] at h
   refine AL rfl rfl (Z ?_)
   refine AT (Z ?_)
   refine AD h (fun h=>Z ?_) (fun h=>Z ?_)
   ·refine AF ?_
    refine Bl (by decide) (Z ?_)
    replace h:=AB h; obtain⟨y,q,h⟩:=h
    have hq_:=aX q
    obtain⟨hv6005a,hv6005b⟩:=hq_
    refine lx (ns:=[(IntKind.u8.wrap (IntKind.i64.wrap (48+(Int.tmod u 10))))]) hv6005a ?_
    rw [hv6005b]
    try simp only [go_sem]
    replace h:=AB h; obtain⟨g,j,h⟩:=h
    have hq_:=UT j
    obtain⟨hv6007a,hv6007b⟩:=hq_
    refine Bl hv6007a ?_
    rw [hv6007b]
    try simp only [go_sem]
    refine AF ?_
    refine Bl (by decide) (Z ?_)
    exact lpF (ih0 (IntKind.i64.wrap (Int.tdiv u 10)) g _ h) [] []
   ·refine AF ?_
    replace h:=AB h; obtain⟨k,b,h⟩:=h
    have hq_:=UT b
    obtain⟨hv8001a,hv8001b⟩:=hq_
    refine Bl hv8001a ?_
    rw [hv8001b]
    try simp only [go_sem]
    cases h
    simp only [go_sem]
theorem CR (a0 r) (h:B5 a0=some r):AC Tryz.prog 85 [.int .i64 a0] (.str r):=by
 unfold B5 at h
 refine acF Tryz.func85 mixed (h:=Z ?_)
 refine AD h (fun h=>Z ?_) (fun h=>Z ?_)
 ·cases h
  simp only [go_sem]
 ·refine AF ?_
  exact loF (QU fuel a0 (ByteArray.mk #[]) _ h) [] []
theorem RL (n:Nat):(∀a0 a1 (z1:Option Nat) r,C1 n a0 a1=some r→AG Tryz.prog 40 [.own 1,.int .i64 a1] [(1,⟨List.map TType.ds a0,z1,0,false⟩)] [] (.int .i64 r.1) [(1,⟨List.map TType.ds r.2,z1,0,false⟩)] [])∧
    (∀u w y (z1:Option Nat) r,DP n u w y=some r→EM Tryz.prog Tryz.f40 [1,0,1,0] (.int .i64 r.1) [(1,⟨List.map TType.ds r.2,z1,0,false⟩)] [] ⟨[(0,.own 1),(1,.int .i64 w),(5,.int .i64 y)],[(1,some ⟨List.map TType.ds u,z1,0,false⟩)],[]⟩):=by
 induction n with
 |zero=>exact⟨(fun _ _ _ _ h=>by rw [C1] at h; cases h),(fun _ _ _ _ _ h=>by rw [DP] at h; cases h)⟩
 | succ n ih=>
  obtain⟨ih0,ih1⟩:=ih
  refine⟨?_,?_⟩
  ·intro a0 a1 z1 r h
   rw [C1] at h
   refine agF Tryz.func40 mixed (h:=Z ?_)
   exact loG (ih1 a0 a1 0 z1 _ h) [(1,1)] []
  ·intro u w y z1 r h
   rw [DP] at h
   refine BI rfl rfl (Z ?_)
   refine AT (Z ?_)
   refine AD h (fun h=>Z ?_) (fun h=>Z ?_)
   ·refine AF ?_
    replace h:=AB h; obtain⟨q,g,h⟩:=h
    refine AK g (TType.ds_len _) (Z ?_)
    replace h:=AB h; obtain⟨j,k,h⟩:=h
    refine Ai (AX g) (Z ?_)
    refine Av (j.map TType.ds) (by rw [← Al k]; simp only [List.map_set,go_sem,TType.ds_eq]) (Z ?_)
    replace h:=AB h; obtain⟨b,d,h⟩:=h
    refine AH (CR _ _ d) (Z ?_)
    replace h:=AB h; obtain⟨c,e,h⟩:=h
    refine AK e (TType.ds_len _) (Z ?_)
    replace h:=AB h; obtain⟨i,l,h⟩:=h
    refine Ai (AX e) (Z ?_)
    refine Av (i.map TType.ds) (by rw [← Al l]; simp only [List.map_set,go_sem,TType.ds_eq]) (Z ?_)
    refine AF ?_
    replace h:=AB h; obtain⟨t,s,h⟩:=h
    refine AK s (TType.ds_len _) (Z ?_)
    refine Ai (AX s) (Z ?_)
    replace h:=AB h; obtain⟨o,z,h⟩:=h
    replace h:=AB h; obtain⟨u1,u2,h⟩:=h
    refine caG ⟨[(3000144096,.sub 1 0 [(3,Int.toNat y,2)],none)],[(1,3000144096)],[],[],[],true⟩ (ih0 _ _ none _ z) (Z ?_)
    refine Ai (KH (r:=List.map TType.ds t.kids) (AX s) (TType.ds_len _) (by simp only [go_sem,TType.ds_eq])) (Z ?_)
    refine Av ((i.map TType.ds).set (Int.toNat y) [.int .i64 t.kind,.str t.name,.gone]) ((Eo (AX s) (d':=.sl (t.kids.map TType.ds)) (by simp only [go_sem,TType.ds_eq])).trans (by simp only [go_sem,TType.ds_eq])) (Z ?_)
    refine Bl (KI (En (AX s)) rfl rfl) (Z ?_)
    refine Av (u1.map TType.ds) (((Eo (En (AX s)) (d':=.gone) rfl).trans (List.set_set ..)).trans (by rw [← Al u2]; simp only [List.map_set,go_sem,TType.ds_eq])) (Z ?_)
    refine AF ?_
    exact lpG (ih1 u1 o.1 (IntKind.i64.wrap (y+1)) z1 _ h) [(1,1)] []
   ·refine AF ?_
    cases h
    refine Aj (.done _) [(1,1)] [] ?_
    simp only [go_sem]
def GG (n:Nat):=(RL n).1
theorem KV (n:Nat):(∀u w y (z1:Option Nat) r,BS n u w y=some r→EM Tryz.prog Tryz.f86 [1,0,1,0] (.int .i64 r.1) [(1,⟨List.map Constructor.ds r.2,z1,0,false⟩)] [] ⟨[(0,.own 1),(1,.int .i64 w),(5,.int .i64 y)],[(1,some ⟨List.map Constructor.ds u,z1,0,false⟩)],[]⟩):=by
 induction n with
 |zero=>exact((fun _ _ _ _ _ h=>by rw [BS] at h; cases h))
 | succ n ih=>
  have ih0:=ih
  ·intro u w y z1 r h
   rw [BS] at h
   refine BI rfl rfl (Z ?_)
   refine AT (Z ?_)
   refine AD h (fun h=>Z ?_) (fun h=>Z ?_)
   ·refine AF ?_
    replace h:=AB h; obtain⟨q,g,h⟩:=h
    refine AH (CR _ _ g) (Z ?_)
    replace h:=AB h; obtain⟨j,k,h⟩:=h
    refine AK k (Constructor.ds_len _) (Z ?_)
    replace h:=AB h; obtain⟨b,d,h⟩:=h
    refine Ai (AX k) (Z ?_)
    refine Av (b.map Constructor.ds) (by rw [← Al d]; simp only [List.map_set,go_sem,Constructor.ds_eq]) (Z ?_)
    refine AF ?_
    replace h:=AB h; obtain⟨c,e,h⟩:=h
    refine AK e (Constructor.ds_len _) (Z ?_)
    refine Ai (AX e) (Z ?_)
    replace h:=AB h; obtain⟨i,l,h⟩:=h
    replace h:=AB h; obtain⟨t,s,h⟩:=h
    refine caG ⟨[(3000112096,.sub 1 0 [(2,Int.toNat y,1)],none)],[(1,3000112096)],[],[],[],true⟩ (GG fuel _ _ none _ l) (Z ?_)
    refine Ai (KH (r:=List.map TType.ds c.fields) (AX e) (Constructor.ds_len _) (by simp only [go_sem,Constructor.ds_eq])) (Z ?_)
    refine Av ((b.map Constructor.ds).set (Int.toNat y) [.str c.name,.gone]) ((Eo (AX e) (d':=.sl (c.fields.map TType.ds)) (by simp only [go_sem,Constructor.ds_eq])).trans (by simp only [go_sem,Constructor.ds_eq])) (Z ?_)
    refine Bl (KI (En (AX e)) rfl rfl) (Z ?_)
    refine Av (t.map Constructor.ds) (((Eo (En (AX e)) (d':=.gone) rfl).trans (List.set_set ..)).trans (by rw [← Al s]; simp only [List.map_set,go_sem,Constructor.ds_eq])) (Z ?_)
    refine AF ?_
    exact lpG (ih0 t i.1 (IntKind.i64.wrap (y+1)) z1 _ h) [(1,1)] []
   ·refine AF ?_
    cases h
    refine Aj (.done _) [(1,1)] [] ?_
    simp only [go_sem]
theorem L6 (a0 a1) (z1:Option Nat) (r) (h:FI a0 a1=some r):AG Tryz.prog 86 [.own 1,.int .i64 a1] [(1,⟨List.map Constructor.ds a0,z1,0,false⟩)] [] (.int .i64 r.1) [(1,⟨List.map Constructor.ds r.2,z1,0,false⟩)] [] :=by
 unfold FI at h
 refine agF Tryz.func86 mixed (h:=Z ?_)
 exact loG (KV fuel a0 a1 0 z1 _ h) [(1,1)] []
theorem Pa (n:Nat):(∀u w y (z1:Option Nat) r,DQ n u w y=some r→EM Tryz.prog Tryz.f38 [1,0,1,0] (.int .i64 r.1) [(1,⟨List.map Data.ds r.2,z1,0,false⟩)] [] ⟨[(0,.own 1),(1,.int .i64 w),(5,.int .i64 y)],[(1,some ⟨List.map Data.ds u,z1,0,false⟩)],[]⟩):=by
 induction n with
 |zero=>exact((fun _ _ _ _ _ h=>by rw [DQ] at h; cases h))
 | succ n ih=>
  have ih0:=ih
  ·intro u w y z1 r h
   rw [DQ] at h
   refine BI rfl rfl (Z ?_)
   refine AT (Z ?_)
   refine AD h (fun h=>Z ?_) (fun h=>Z ?_)
   ·refine AF ?_
    replace h:=AB h; obtain⟨q,g,h⟩:=h
    refine AH (CR _ _ g) (Z ?_)
    replace h:=AB h; obtain⟨j,k,h⟩:=h
    refine AK k (Data.ds_len _) (Z ?_)
    replace h:=AB h; obtain⟨b,d,h⟩:=h
    refine Ai (AX k) (Z ?_)
    refine Av (b.map Data.ds) (by rw [← Al d]; simp only [List.map_set,go_sem,Data.ds_eq]) (Z ?_)
    refine AF ?_
    replace h:=AB h; obtain⟨c,e,h⟩:=h
    refine AK e (Data.ds_len _) (Z ?_)
    refine Ai (AX e) (Z ?_)
    replace h:=AB h; obtain⟨i,l,h⟩:=h
    replace h:=AB h; obtain⟨t,s,h⟩:=h
    refine caG ⟨[(3000112096,.sub 1 0 [(2,Int.toNat y,1)],none)],[(1,3000112096)],[],[],[],true⟩ (L6 _ _ none _ l) (Z ?_)
    refine Ai (KH (r:=List.map Constructor.ds c.cons) (AX e) (Data.ds_len _) (by simp only [go_sem,Data.ds_eq])) (Z ?_)
    refine Av ((b.map Data.ds).set (Int.toNat y) [.str c.name,.gone]) ((Eo (AX e) (d':=.sl (c.cons.map Constructor.ds)) (by simp only [go_sem,Data.ds_eq])).trans (by simp only [go_sem,Data.ds_eq])) (Z ?_)
    refine Bl (KI (En (AX e)) rfl rfl) (Z ?_)
    refine Av (t.map Data.ds) (((Eo (En (AX e)) (d':=.gone) rfl).trans (List.set_set ..)).trans (by rw [← Al s]; simp only [List.map_set,go_sem,Data.ds_eq])) (Z ?_)
    refine AF ?_
    exact lpG (ih0 t i.1 (IntKind.i64.wrap (y+1)) z1 _ h) [(1,1)] []
   ·refine AF ?_
    cases h
    refine Aj (.done _) [(1,1)] [] ?_
    simp only [go_sem]
theorem TF (a0 a1) (z1:Option Nat) (r) (h:J4 a0 a1=some r):AG Tryz.prog 38 [.own 1,.int .i64 a1] [(1,⟨List.map Data.ds a0,z1,0,false⟩)] [] (.int .i64 r.1) [(1,⟨List.map Data.ds r.2,z1,0,false⟩)] [] :=by
 unfold J4 at h
 refine agF Tryz.func38 mixed (h:=Z ?_)
 exact loG (Pa fuel a0 a1 0 z1 _ h) [(1,1)] []
theorem NU (n:Nat):(∀u w y (z1:Option Nat) r,Cc n u w y=some r→EM Tryz.prog Tryz.f87 [1,0,1,0] (.int .i64 r.1) [(1,⟨List.map strD r.2,z1,0,false⟩)] [] ⟨[(0,.own 1),(1,.int .i64 w),(5,.int .i64 y)],[(1,some ⟨List.map strD u,z1,0,false⟩)],[]⟩):=by
 induction n with
 |zero=>exact((fun _ _ _ _ _ h=>by rw [Cc] at h; cases h))
 | succ n ih=>
  have ih0:=ih
  ·intro u w y z1 r h
   rw [Cc] at h
   refine BI rfl rfl (Z ?_)
   refine AT (Z ?_)
   refine AD h (fun h=>Z ?_) (fun h=>Z ?_)
   ·refine AF ?_
    replace h:=AB h; obtain⟨q,g,h⟩:=h
    refine AH (CR _ _ g) (Z ?_)
    replace h:=AB h; obtain⟨j,k,h⟩:=h
    refine AK k rfl (Z ?_)
    replace h:=AB h; obtain⟨b,d,h⟩:=h
    refine Ai (AX k) (Z ?_)
    refine Av (b.map strD) (by rw [← Al d]; simp only [List.map_set,go_sem,slD]) (Z ?_)
    refine AF ?_
    refine AF ?_
    exact lpG (ih0 b (IntKind.i64.wrap (w+1)) (IntKind.i64.wrap (y+1)) z1 _ h) [(1,1)] []
   ·refine AF ?_
    cases h
    refine Aj (.done _) [(1,1)] [] ?_
    simp only [go_sem]
theorem LB (a0 a1) (z1:Option Nat) (r) (h:Gd a0 a1=some r):AG Tryz.prog 87 [.own 1,.int .i64 a1] [(1,⟨List.map strD a0,z1,0,false⟩)] [] (.int .i64 r.1) [(1,⟨List.map strD r.2,z1,0,false⟩)] [] :=by
 unfold Gd at h
 refine agF Tryz.func87 mixed (h:=Z ?_)
 exact loG (NU fuel a0 a1 0 z1 _ h) [(1,1)] []
theorem RM (n:Nat):(∀a0 a1 (z1:Option Nat) r,E8 n a0 a1=some r→AG Tryz.prog 88 [.own 1,.int .i64 a1] [(1,⟨List.map Term.ds a0,z1,0,false⟩)] [] (.int .i64 r.1) [(1,⟨List.map Term.ds r.2,z1,0,false⟩)] [])∧
    (∀u w y (z1:Option Nat) r,DR n u w y=some r→EM Tryz.prog Tryz.f88 [1,0,1,0] (.int .i64 r.1) [(1,⟨List.map Term.ds r.2,z1,0,false⟩)] [] ⟨[(0,.own 1),(1,.int .i64 w),(5,.int .i64 y)],[(1,some ⟨List.map Term.ds u,z1,0,false⟩)],[]⟩):=by
 induction n with
 |zero=>exact⟨(fun _ _ _ _ h=>by rw [E8] at h; cases h),(fun _ _ _ _ _ h=>by rw [DR] at h; cases h)⟩
 | succ n ih=>
  obtain⟨ih0,ih1⟩:=ih
  refine⟨?_,?_⟩
  ·intro a0 a1 z1 r h
   rw [E8] at h
   refine agF Tryz.func88 mixed (h:=Z ?_)
   exact loG (ih1 a0 a1 0 z1 _ h) [(1,1)] []
  ·intro u w y z1 r h
   rw [DR] at h
   refine BI rfl rfl (Z ?_)
   refine AT (Z ?_)
   refine AD h (fun h=>Z ?_) (fun h=>Z ?_)
   ·refine AF ?_
    replace h:=AB h; obtain⟨q,g,h⟩:=h
    refine AK g (Term.ds_len _) (Z ?_)
    replace h:=AB h; obtain⟨j,k,h⟩:=h
    refine Ai (AX g) (Z ?_)
    refine Av (j.map Term.ds) (by rw [← Al k]; simp only [List.map_set,go_sem,Term.ds_eq]) (Z ?_)
    replace h:=AB h; obtain⟨b,d,h⟩:=h
    refine AK d (Term.ds_len _) (Z ?_)
    replace h:=AB h; obtain⟨c,e,h⟩:=h
    refine Ai (AX d) (Z ?_)
    refine Av (c.map Term.ds) (by rw [← Al e]; simp only [List.map_set,go_sem,Term.ds_eq]) (Z ?_)
    replace h:=AB h; obtain⟨i,l,h⟩:=h
    refine AH (CR _ _ l) (Z ?_)
    replace h:=AB h; obtain⟨t,s,h⟩:=h
    refine AK s (Term.ds_len _) (Z ?_)
    replace h:=AB h; obtain⟨o,z,h⟩:=h
    refine Ai (AX s) (Z ?_)
    refine Av (o.map Term.ds) (by rw [← Al z]; simp only [List.map_set,go_sem,Term.ds_eq]) (Z ?_)
    refine AF ?_
    replace h:=AB h; obtain⟨u1,u2,h⟩:=h
    refine AK u2 (Term.ds_len _) (Z ?_)
    replace h:=AB h; obtain⟨u3,u4,h⟩:=h
    refine Ai (AX u2) (Z ?_)
    refine Av (u3.map Term.ds) (by rw [← Al u4]; simp only [List.map_set,go_sem,Term.ds_eq]) (Z ?_)
    replace h:=AB h; obtain⟨u5,u6,h⟩:=h
    refine AH (CR _ _ u6) (Z ?_)
    replace h:=AB h; obtain⟨u7,u8,h⟩:=h
    refine AK u8 (Term.ds_len _) (Z ?_)
    replace h:=AB h; obtain⟨u9,u10,h⟩:=h
    refine Ai (AX u8) (Z ?_)
    refine Av (u9.map Term.ds) (by rw [← Al u10]; simp only [List.map_set,go_sem,Term.ds_eq]) (Z ?_)
    refine AF ?_
    replace h:=AB h; obtain⟨u11,u12,h⟩:=h
    refine AK u12 (Term.ds_len _) (Z ?_)
    refine Ai (AX u12) (Z ?_)
    replace h:=AB h; obtain⟨u13,u14,h⟩:=h
    replace h:=AB h; obtain⟨u15,u16,h⟩:=h
    refine caG ⟨[(3000240112,.sub 1 0 [(8,Int.toNat y,5)],none)],[(1,3000240112)],[],[],[],true⟩ (GG fuel _ _ none _ u14) (Z ?_)
    refine Ai (KH (r:=List.map TType.ds u11.typ.kids) (AX u12) (Term.ds_len _) (by simp only [go_sem,Term.ds_eq])) (Z ?_)
    refine Av ((u9.map Term.ds).set (Int.toNat y) [.int .i64 u11.kind,.int .i64 u11.num,.str u11.name,.int .i64 u11.typ.kind,.str u11.typ.name,.gone,.sl (u11.names.map strD),.sl (u11.kids.map Term.ds)]) ((Eo (AX u12) (d':=.sl (u11.typ.kids.map TType.ds)) (by simp only [go_sem,Term.ds_eq])).trans (by simp only [go_sem,Term.ds_eq])) (Z ?_)
    refine Bl (KI (En (AX u12)) rfl rfl) (Z ?_)
    refine Av (u15.map Term.ds) (((Eo (En (AX u12)) (d':=.gone) rfl).trans (List.set_set ..)).trans (by rw [← Al u16]; simp only [List.map_set,go_sem,Term.ds_eq])) (Z ?_)
    refine AF ?_
    replace h:=AB h; obtain⟨u17,u18,h⟩:=h
    refine AK u18 (Term.ds_len _) (Z ?_)
    refine Ai (AX u18) (Z ?_)
    replace h:=AB h; obtain⟨u19,u20,h⟩:=h
    replace h:=AB h; obtain⟨u21,u22,h⟩:=h
    refine caG ⟨[(3000256096,.sub 1 0 [(8,Int.toNat y,6)],none)],[(1,3000256096)],[],[],[],true⟩ (LB _ _ none _ u20) (Z ?_)
    refine Ai (KH (r:=List.map strD u17.names) (AX u18) (Term.ds_len _) (by simp only [go_sem,Term.ds_eq])) (Z ?_)
    refine Av ((u15.map Term.ds).set (Int.toNat y) [.int .i64 u17.kind,.int .i64 u17.num,.str u17.name,.int .i64 u17.typ.kind,.str u17.typ.name,.sl (u17.typ.kids.map TType.ds),.gone,.sl (u17.kids.map Term.ds)]) ((Eo (AX u18) (d':=.sl (u17.names.map strD)) (by simp only [go_sem,Term.ds_eq])).trans (by simp only [go_sem,Term.ds_eq])) (Z ?_)
    refine Bl (KI (En (AX u18)) rfl rfl) (Z ?_)
    refine Av (u21.map Term.ds) (((Eo (En (AX u18)) (d':=.gone) rfl).trans (List.set_set ..)).trans (by rw [← Al u22]; simp only [List.map_set,go_sem,Term.ds_eq])) (Z ?_)
    refine AF ?_
    replace h:=AB h; obtain⟨u23,u24,h⟩:=h
    refine AK u24 (Term.ds_len _) (Z ?_)
    refine Ai (AX u24) (Z ?_)
    replace h:=AB h; obtain⟨u25,u26,h⟩:=h
    replace h:=AB h; obtain⟨u27,u28,h⟩:=h
    refine caG ⟨[(3000272096,.sub 1 0 [(8,Int.toNat y,7)],none)],[(1,3000272096)],[],[],[],true⟩ (ih0 _ _ none _ u26) (Z ?_)
    refine Ai (KH (r:=List.map Term.ds u23.kids) (AX u24) (Term.ds_len _) (by simp only [go_sem,Term.ds_eq])) (Z ?_)
    refine Av ((u21.map Term.ds).set (Int.toNat y) [.int .i64 u23.kind,.int .i64 u23.num,.str u23.name,.int .i64 u23.typ.kind,.str u23.typ.name,.sl (u23.typ.kids.map TType.ds),.sl (u23.names.map strD),.gone]) ((Eo (AX u24) (d':=.sl (u23.kids.map Term.ds)) (by simp only [go_sem,Term.ds_eq])).trans (by simp only [go_sem,Term.ds_eq])) (Z ?_)
    refine Bl (KI (En (AX u24)) rfl rfl) (Z ?_)
    refine Av (u27.map Term.ds) (((Eo (En (AX u24)) (d':=.gone) rfl).trans (List.set_set ..)).trans (by rw [← Al u28]; simp only [List.map_set,go_sem,Term.ds_eq])) (Z ?_)
    refine AF ?_
    exact lpG (ih1 u27 u25.1 (IntKind.i64.wrap (y+1)) z1 _ h) [(1,1)] []
   ·refine AF ?_
    cases h
    refine Aj (.done _) [(1,1)] [] ?_
    simp only [go_sem]
def TG (n:Nat):=(RM n).1
theorem QV (n:Nat):(∀u w y (z1:Option Nat) r,Dr n u w y=some r→EM Tryz.prog Tryz.f39 [1,0,1,0] (.int .i64 r.1) [(1,⟨List.map Def.ds r.2,z1,0,false⟩)] [] ⟨[(0,.own 1),(1,.int .i64 w),(5,.int .i64 y)],[(1,some ⟨List.map Def.ds u,z1,0,false⟩)],[]⟩):=by
 induction n with
 |zero=>exact((fun _ _ _ _ _ h=>by rw [Dr] at h; cases h))
 | succ n ih=>
  have ih0:=ih
  ·intro u w y z1 r h
   rw [Dr] at h
   refine BI rfl rfl (Z ?_)
   refine AT (Z ?_)
   refine AD h (fun h=>Z ?_) (fun h=>Z ?_)
   ·refine AF ?_
    replace h:=AB h; obtain⟨q,g,h⟩:=h
    refine AH (CR _ _ g) (Z ?_)
    replace h:=AB h; obtain⟨j,k,h⟩:=h
    refine AK k (Def.ds_len _) (Z ?_)
    replace h:=AB h; obtain⟨b,d,h⟩:=h
    refine Ai (AX k) (Z ?_)
    refine Av (b.map Def.ds) (by rw [← Al d]; simp only [List.map_set,go_sem,Def.ds_eq]) (Z ?_)
    refine AF ?_
    replace h:=AB h; obtain⟨c,e,h⟩:=h
    refine AK e (Def.ds_len _) (Z ?_)
    replace h:=AB h; obtain⟨i,l,h⟩:=h
    refine Ai (AX e) (Z ?_)
    refine Av (i.map Def.ds) (by rw [← Al l]; simp only [List.map_set,go_sem,Def.ds_eq]) (Z ?_)
    replace h:=AB h; obtain⟨t,s,h⟩:=h
    refine AH (CR _ _ s) (Z ?_)
    replace h:=AB h; obtain⟨o,z,h⟩:=h
    refine AK z (Def.ds_len _) (Z ?_)
    replace h:=AB h; obtain⟨u1,u2,h⟩:=h
    refine Ai (AX z) (Z ?_)
    refine Av (u1.map Def.ds) (by rw [← Al u2]; simp only [List.map_set,go_sem,Def.ds_eq]) (Z ?_)
    refine AF ?_
    replace h:=AB h; obtain⟨u3,u4,h⟩:=h
    refine AK u4 (Def.ds_len _) (Z ?_)
    refine Ai (AX u4) (Z ?_)
    replace h:=AB h; obtain⟨u5,u6,h⟩:=h
    replace h:=AB h; obtain⟨u7,u8,h⟩:=h
    refine caG ⟨[(3000176112,.sub 1 0 [(12,Int.toNat y,3)],none)],[(1,3000176112)],[],[],[],true⟩ (GG fuel _ _ none _ u6) (Z ?_)
    refine Ai (KH (r:=List.map TType.ds u3.typ.kids) (AX u4) (Def.ds_len _) (by simp only [go_sem,Def.ds_eq])) (Z ?_)
    refine Av ((u1.map Def.ds).set (Int.toNat y) [.str u3.name,.int .i64 u3.typ.kind,.str u3.typ.name,.gone,.int .i64 u3.body.kind,.int .i64 u3.body.num,.str u3.body.name,.int .i64 u3.body.typ.kind,.str u3.body.typ.name,.sl (u3.body.typ.kids.map TType.ds),.sl (u3.body.names.map strD),.sl (u3.body.kids.map Term.ds)]) ((Eo (AX u4) (d':=.sl (u3.typ.kids.map TType.ds)) (by simp only [go_sem,Def.ds_eq])).trans (by simp only [go_sem,Def.ds_eq])) (Z ?_)
    refine Bl (KI (En (AX u4)) rfl rfl) (Z ?_)
    refine Av (u7.map Def.ds) (((Eo (En (AX u4)) (d':=.gone) rfl).trans (List.set_set ..)).trans (by rw [← Al u8]; simp only [List.map_set,go_sem,Def.ds_eq])) (Z ?_)
    refine AF ?_
    replace h:=AB h; obtain⟨u9,u10,h⟩:=h
    refine AK u10 (Def.ds_len _) (Z ?_)
    replace h:=AB h; obtain⟨u11,u12,h⟩:=h
    refine Ai (AX u10) (Z ?_)
    refine Av (u11.map Def.ds) (by rw [← Al u12]; simp only [List.map_set,go_sem,Def.ds_eq]) (Z ?_)
    replace h:=AB h; obtain⟨u13,u14,h⟩:=h
    refine AK u14 (Def.ds_len _) (Z ?_)
    replace h:=AB h; obtain⟨u15,u16,h⟩:=h
    refine Ai (AX u14) (Z ?_)
    refine Av (u15.map Def.ds) (by rw [← Al u16]; simp only [List.map_set,go_sem,Def.ds_eq]) (Z ?_)
    replace h:=AB h; obtain⟨u17,u18,h⟩:=h
    refine AH (CR _ _ u18) (Z ?_)
    replace h:=AB h; obtain⟨u19,u20,h⟩:=h
    refine AK u20 (Def.ds_len _) (Z ?_)
    replace h:=AB h; obtain⟨u21,u22,h⟩:=h
    refine Ai (AX u20) (Z ?_)
    refine Av (u21.map Def.ds) (by rw [← Al u22]; simp only [List.map_set,go_sem,Def.ds_eq]) (Z ?_)
    refine AF ?_
    replace h:=AB h; obtain⟨u23,u24,h⟩:=h
    refine AK u24 (Def.ds_len _) (Z ?_)
    replace h:=AB h; obtain⟨u25,u26,h⟩:=h
    refine Ai (AX u24) (Z ?_)
    refine Av (u25.map Def.ds) (by rw [← Al u26]; simp only [List.map_set,go_sem,Def.ds_eq]) (Z ?_)
    replace h:=AB h; obtain⟨u27,u28,h⟩:=h
    refine AH (CR _ _ u28) (Z ?_)
    replace h:=AB h; obtain⟨u29,u30,h⟩:=h
    refine AK u30 (Def.ds_len _) (Z ?_)
    replace h:=AB h; obtain⟨u31,u32,h⟩:=h
    refine Ai (AX u30) (Z ?_)
    refine Av (u31.map Def.ds) (by rw [← Al u32]; simp only [List.map_set,go_sem,Def.ds_eq]) (Z ?_)
    refine AF ?_
    replace h:=AB h; obtain⟨u33,u34,h⟩:=h
    refine AK u34 (Def.ds_len _) (Z ?_)
    refine Ai (AX u34) (Z ?_)
    replace h:=AB h; obtain⟨u35,u36,h⟩:=h
    replace h:=AB h; obtain⟨u37,u38,h⟩:=h
    refine caG ⟨[(3000352128,.sub 1 0 [(12,Int.toNat y,9)],none)],[(1,3000352128)],[],[],[],true⟩ (GG fuel _ _ none _ u36) (Z ?_)
    refine Ai (KH (r:=List.map TType.ds u33.body.typ.kids) (AX u34) (Def.ds_len _) (by simp only [go_sem,Def.ds_eq])) (Z ?_)
    refine Av ((u31.map Def.ds).set (Int.toNat y) [.str u33.name,.int .i64 u33.typ.kind,.str u33.typ.name,.sl (u33.typ.kids.map TType.ds),.int .i64 u33.body.kind,.int .i64 u33.body.num,.str u33.body.name,.int .i64 u33.body.typ.kind,.str u33.body.typ.name,.gone,.sl (u33.body.names.map strD),.sl (u33.body.kids.map Term.ds)]) ((Eo (AX u34) (d':=.sl (u33.body.typ.kids.map TType.ds)) (by simp only [go_sem,Def.ds_eq])).trans (by simp only [go_sem,Def.ds_eq])) (Z ?_)
    refine Bl (KI (En (AX u34)) rfl rfl) (Z ?_)
    refine Av (u37.map Def.ds) (((Eo (En (AX u34)) (d':=.gone) rfl).trans (List.set_set ..)).trans (by rw [← Al u38]; simp only [List.map_set,go_sem,Def.ds_eq])) (Z ?_)
    refine AF ?_
    replace h:=AB h; obtain⟨u39,u40,h⟩:=h
    refine AK u40 (Def.ds_len _) (Z ?_)
    refine Ai (AX u40) (Z ?_)
    replace h:=AB h; obtain⟨u41,u42,h⟩:=h
    replace h:=AB h; obtain⟨u43,u44,h⟩:=h
    refine caG ⟨[(3000368112,.sub 1 0 [(12,Int.toNat y,10)],none)],[(1,3000368112)],[],[],[],true⟩ (LB _ _ none _ u42) (Z ?_)
    refine Ai (KH (r:=List.map strD u39.body.names) (AX u40) (Def.ds_len _) (by simp only [go_sem,Def.ds_eq])) (Z ?_)
    refine Av ((u37.map Def.ds).set (Int.toNat y) [.str u39.name,.int .i64 u39.typ.kind,.str u39.typ.name,.sl (u39.typ.kids.map TType.ds),.int .i64 u39.body.kind,.int .i64 u39.body.num,.str u39.body.name,.int .i64 u39.body.typ.kind,.str u39.body.typ.name,.sl (u39.body.typ.kids.map TType.ds),.gone,.sl (u39.body.kids.map Term.ds)]) ((Eo (AX u40) (d':=.sl (u39.body.names.map strD)) (by simp only [go_sem,Def.ds_eq])).trans (by simp only [go_sem,Def.ds_eq])) (Z ?_)
    refine Bl (KI (En (AX u40)) rfl rfl) (Z ?_)
    refine Av (u43.map Def.ds) (((Eo (En (AX u40)) (d':=.gone) rfl).trans (List.set_set ..)).trans (by rw [← Al u44]; simp only [List.map_set,go_sem,Def.ds_eq])) (Z ?_)
    refine AF ?_
    replace h:=AB h; obtain⟨u45,u46,h⟩:=h
    refine AK u46 (Def.ds_len _) (Z ?_)
    refine Ai (AX u46) (Z ?_)
    replace h:=AB h; obtain⟨u47,u48,h⟩:=h
    replace h:=AB h; obtain⟨u49,u50,h⟩:=h
    refine caG ⟨[(3000384112,.sub 1 0 [(12,Int.toNat y,11)],none)],[(1,3000384112)],[],[],[],true⟩ (TG fuel _ _ none _ u48) (Z ?_)
    refine Ai (KH (r:=List.map Term.ds u45.body.kids) (AX u46) (Def.ds_len _) (by simp only [go_sem,Def.ds_eq])) (Z ?_)
    refine Av ((u43.map Def.ds).set (Int.toNat y) [.str u45.name,.int .i64 u45.typ.kind,.str u45.typ.name,.sl (u45.typ.kids.map TType.ds),.int .i64 u45.body.kind,.int .i64 u45.body.num,.str u45.body.name,.int .i64 u45.body.typ.kind,.str u45.body.typ.name,.sl (u45.body.typ.kids.map TType.ds),.sl (u45.body.names.map strD),.gone]) ((Eo (AX u46) (d':=.sl (u45.body.kids.map Term.ds)) (by simp only [go_sem,Def.ds_eq])).trans (by simp only [go_sem,Def.ds_eq])) (Z ?_)
    refine Bl (KI (En (AX u46)) rfl rfl) (Z ?_)
    refine Av (u49.map Def.ds) (((Eo (En (AX u46)) (d':=.gone) rfl).trans (List.set_set ..)).trans (by rw [← Al u50]; simp only [List.map_set,go_sem,Def.ds_eq])) (Z ?_)
    refine AF ?_
    exact lpG (ih0 u49 u47.1 (IntKind.i64.wrap (y+1)) z1 _ h) [(1,1)] []
   ·refine AF ?_
    cases h
    refine Aj (.done _) [(1,1)] [] ?_
    simp only [go_sem]
theorem Ti (a0 a1) (z1:Option Nat) (r) (h:LT a0 a1=some r):AG Tryz.prog 39 [.own 1,.int .i64 a1] [(1,⟨List.map Def.ds a0,z1,0,false⟩)] [] (.int .i64 r.1) [(1,⟨List.map Def.ds r.2,z1,0,false⟩)] [] :=by
 unfold LT at h
 refine agF Tryz.func39 mixed (h:=Z ?_)
 exact loG (QV fuel a0 a1 0 z1 _ h) [(1,1)] []
theorem QW (a0 a1) (z1:Option Nat) (z2:Option Nat) (r) (h:Ge a0 a1=some r):AG Tryz.prog 16 [.agg [.own 1,.own 2],.int .i64 a1] [(1,⟨List.map Data.ds a0.datas,z1,0,false⟩),(2,⟨List.map Def.ds a0.defs,z2,0,false⟩)] [] (.int .i64 r.1) [(1,⟨List.map Data.ds r.2.1,z1,0,false⟩),(2,⟨List.map Def.ds r.2.2,z2,0,false⟩)] [] :=by
 unfold Ge at h
 refine agF Tryz.func16 mixed (h:=Z ?_)
 replace h:=AB h; obtain⟨u,w,h⟩:=h
 refine caG ⟨[],[(1,1)],[],[],[],true⟩ (TF _ _ z1 _ w) (Z ?_)
 refine AF ?_
 replace h:=AB h; obtain⟨y,q,h⟩:=h
 refine caG ⟨[],[(1,2)],[],[],[],true⟩ (Ti _ _ z2 _ q) (Z ?_)
 refine AF ?_
 cases h
 refine Aj (.done _) [(1,1),(2,2)] [] ?_
 simp only [go_sem]
theorem Tj (a0 a1) (z1:Option Nat) (r) (h:JZ a0 a1=some r):AG Tryz.prog 17 [.agg [.int .i64 a0.kind,.str a0.name,.own 1],.int .i64 a1] [(1,⟨List.map TType.ds a0.kids,z1,0,false⟩)] [] (.int .i64 r.1) [(1,⟨List.map TType.ds r.2,z1,0,false⟩)] [] :=by
 unfold JZ at h
 refine agF Tryz.func17 mixed (h:=Z ?_)
 replace h:=AB h; obtain⟨u,w,h⟩:=h
 refine caG ⟨[],[(1,1)],[],[],[],true⟩ (GG fuel _ _ z1 _ w) (Z ?_)
 refine AF ?_
 cases h
 refine Aj (.done _) [(1,1)] [] ?_
 simp only [go_sem]
theorem RN (n:Nat):(∀a0 a1 r,E9 n a0 a1=some r→AC Tryz.prog 41 [.ro (a0.map TType.ds),.int .i64 a1] (.int .i64 r))∧
    (∀a0 u w r,DS n a0 u w=some r→Af Tryz.prog Tryz.f41 [1,0,1,0] (.int .i64 r) ⟨[(0,.ro (a0.map TType.ds)),(1,.int .i64 u),(5,.int .i64 w)],[],[]⟩):=by
 induction n with
 |zero=>exact⟨(fun _ _ _ h=>by rw [E9] at h; cases h),(fun _ _ _ _ h=>by rw [DS] at h; cases h)⟩
 | succ n ih=>
  obtain⟨ih0,ih1⟩:=ih
  refine⟨?_,?_⟩
  ·intro a0 a1 r h
   rw [E9] at h
   refine acF Tryz.func41 mixed (h:=Z ?_)
   exact loF (ih1 a0 a1 0 _ h) [] []
  ·intro a0 u w r h
   rw [DS] at h
   refine AL rfl rfl (Z ?_)
   refine AT (Z ?_)
   refine AD h (fun h=>Z ?_) (fun h=>Z ?_)
   ·refine AF ?_
    replace h:=AB h; obtain⟨y,q,h⟩:=h
    refine AK q (TType.ds_len _) (Z ?_)
    refine AD h (fun h=>Z ?_) (fun h=>Z ?_)
    ·cases h
     simp only [go_sem]
    ·refine AF ?_
     refine AW [] .fin (by kernel_rfl) (Z ?_)
     replace h:=AB h; obtain⟨g,j,h⟩:=h
     refine AK j (TType.ds_len _) (Z ?_)
     replace h:=AB h; obtain⟨k,b,h⟩:=h
     refine AH (CR _ _ b) (Z ?_)
     refine AF ?_
     refine AD h (fun h=>Z ?_) (fun h=>Z ?_)
     ·cases h
      simp only [go_sem]
     ·refine AF ?_
      replace h:=AB h; obtain⟨d,c,h⟩:=h
      refine AK c (TType.ds_len _) (Z ?_)
      replace h:=AB h; obtain⟨e,i,h⟩:=h
      refine AH (ih0 _ _ _ i) (Z ?_)
      refine AF ?_
      refine AD h (fun h=>Z ?_) (fun h=>Z ?_)
      ·cases h
       simp only [go_sem]
      ·refine AF ?_
       exact lpF (ih1 a0 e (IntKind.i64.wrap (w+1)) _ h) [] []
   ·refine AF ?_
    cases h
    simp only [go_sem]
def TH (n:Nat):=(RN n).1
theorem No (a0 a1 r) (h:H5 a0 a1=some r):AC Tryz.prog 18 [.agg (TType.avs a0),.int .i64 a1] (.int .i64 r):=by
 unfold H5 at h
 refine acF Tryz.func18 mixed (h:=Z ?_)
 replace h:=AB h; obtain⟨u,w,h⟩:=h
 refine AH (TH fuel _ _ _ w) (Z ?_)
 refine AF ?_
 refine AD h (fun h=>Z ?_) (fun h=>Z ?_)
 ·cases h
  simp only [go_sem]
 ·refine AF ?_
  cases h
  simp only [go_sem]
theorem Gp (u:TType × Int) (w:Int × (List TType)) (y:Bool) (r:Bool) (h:C7 u w y=some r):Af Tryz.prog Tryz.f5 [1,1,1,1,1,1,1,1,1,1,1,1,1,1,1,1,1,1,1,0,1] (.bool r) ⟨[(9,.box 1000002500 0),(12,.int .i64 w.1),(92,.bool y)],[(1000002000,some ⟨List.map TType.ds w.2,some 3,0,false⟩)],[(1000002500,some [.int .i64 u.1.kind,.str u.1.name,.own 1000002000])]⟩:=by
 unfold C7 at h
 refine AL rfl rfl (Z ?_)
 refine AD h (fun h=>Z ?_) (fun h=>Z ?_)
 ·cases h
  simp only [go_sem]
 ·refine AF ?_
  replace h:=AB h; obtain⟨q,g,h⟩:=h
  refine AH (No _ _ _ g) (Z ?_)
  refine AF ?_
  refine AD h (fun h=>Z ?_) (fun h=>Z ?_)
  ·cases h
   simp only [go_sem]
  ·refine AF ?_
   refine AD h (fun h=>Z ?_) (fun h=>Z ?_)
   ·cases h
    simp only [go_sem]
   ·refine AF ?_
    cases h
    simp only [go_sem]
theorem Ee (a0:TProgram) (a1:Int) (u:TType × Int) (w:TType × Int) (y:Bool) (r:Bool) (h:CL a0 a1 u w y=some r):Af Tryz.prog Tryz.f5 [1,1,1,1,1,1,1,1,1,1,1,0,1] (.bool r) ⟨[(1,.int .i64 a1),(2,.box 1000001500 0),(6,.box 1000001501 0),(7,.int .i64 u.2),(9,.box 1000001502 0),(65,.bool y)],[(1000001000,some ⟨List.map TType.ds u.1.kids,some 3,0,false⟩),(1000001001,some ⟨List.map TType.ds w.1.kids,some 3,0,false⟩)],[(1000001500,some [.ro (a0.datas.map Data.ds),.ro (a0.defs.map Def.ds)]),(1000001501,some [.int .i64 u.1.kind,.str u.1.name,.own 1000001000]),(1000001502,some [.int .i64 w.1.kind,.str w.1.name,.own 1000001001])]⟩:=by
 unfold CL at h
 refine AL rfl rfl (Z ?_)
 refine AD h (fun h=>Z ?_) (fun h=>Z ?_)
 ·cases h
  simp only [go_sem]
 ·refine AF ?_
  replace h:=AB h; obtain⟨q,g,h⟩:=h
  refine caG ⟨[],[(1,1000001001)],[],[],[],true⟩ (Tj _ _ (some 3) _ g) (Z ?_)
  refine AF ?_
  replace h:=AB h; obtain⟨j,k,h⟩:=h
  refine AH (No _ _ _ k) (Z ?_)
  refine AF ?_
  refine AD h (fun h=>Z ?_) (fun h=>Z ?_)
  ·cases h
   simp only [go_sem]
  ·refine AF ?_
   refine AD h (fun h=>Z ?_) (fun h=>Z ?_)
   ·cases h
    simp only [go_sem]
   ·refine AF ?_
    replace h:=AB h; obtain⟨b,d,h⟩:=h
    refine AH (D8 _ _ d) (Z ?_)
    replace h:=AB h; obtain⟨c,e,h⟩:=h
    refine AH (Mt _ _ _ e) (Z ?_)
    refine AF ?_
    replace h:=AB h; obtain⟨i,l,h⟩:=h
    refine AH (Ig fuel _ _ _ l) (Z ?_)
    refine AD h (fun h=>Z ?_) (fun h=>Z ?_)
    ·exact AU (Gp w q true _ h) [(1000002000,1000001001)] [(1000002500,1000001502)]
    ·exact AU (Gp w q (!decide (c.2 =u.2)) _ h) [(1000002000,1000001001)] [(1000002500,1000001502)]
theorem Gq (a0:TProgram) (a1:Int) (u:TType × Int) (w:TProgram) (y:TType × Int) (q:Bool) (r:Bool) (h:C8 a0 a1 u w y q=some r):Af Tryz.prog Tryz.f5 [1,1,1,1,1,1,1,0,1] (.bool r) ⟨[(1,.int .i64 a1),(2,.box 1000000500 0),(6,.box 1000000501 0),(7,.int .i64 u.2),(8,.box 1000000502 0),(9,.box 1000000503 0),(10,.int .i64 y.2),(44,.bool q)],[(1000000000,some ⟨List.map TType.ds u.1.kids,some 3,0,false⟩),(1000000001,some ⟨List.map Data.ds w.datas,some 2,0,false⟩),(1000000002,some ⟨List.map Def.ds w.defs,some 12,0,false⟩),(1000000003,some ⟨List.map TType.ds y.1.kids,some 3,0,false⟩)],[(1000000500,some [.ro (a0.datas.map Data.ds),.ro (a0.defs.map Def.ds)]),(1000000501,some [.int .i64 u.1.kind,.str u.1.name,.own 1000000000]),(1000000502,some [.own 1000000001,.own 1000000002]),(1000000503,some [.int .i64 y.1.kind,.str y.1.name,.own 1000000003])]⟩:=by
 unfold C8 at h
 refine AL rfl rfl (Z ?_)
 refine AD h (fun h=>Z ?_) (fun h=>Z ?_)
 ·cases h
  simp only [go_sem]
 ·refine AF ?_
  refine AW [] .fin (by kernel_rfl) (Z ?_)
  replace h:=AB h; obtain⟨g,j,h⟩:=h
  refine AH (D8 _ _ j) (Z ?_)
  replace h:=AB h; obtain⟨k,b,h⟩:=h
  refine AH (Mu _ _ _ b) (Z ?_)
  refine AF ?_
  refine AD h (fun h=>Z ?_) (fun h=>Z ?_)
  ·cases h
   simp only [go_sem]
  ·refine AF ?_
   replace h:=AB h; obtain⟨d,c,h⟩:=h
   refine caG ⟨[],[(1,1000000001),(2,1000000002)],[],[],[],true⟩ (QW _ _ (some 2) (some 12) _ c) (Z ?_)
   refine AF ?_
   refine AD h (fun h=>Z ?_) (fun h=>Z ?_)
   ·exact AU (Ee a0 a1 u y true _ h) [(1000001000,1000000000),(1000001001,1000000003)] [(1000001500,1000000500),(1000001501,1000000501),(1000001502,1000000503)]
   ·replace h:=AB h; obtain⟨e,i,h⟩:=h
    refine AH (Ig fuel _ _ _ i) (Z ?_)
    refine AD h (fun h=>Z ?_) (fun h=>Z ?_)
    ·exact AU (Ee a0 a1 u y true _ h) [(1000001000,1000000000),(1000001001,1000000003)] [(1000001500,1000000500),(1000001501,1000000501),(1000001502,1000000503)]
    ·exact AU (Ee a0 a1 u y (!decide (y.2 =u.2)) _ h) [(1000001000,1000000000),(1000001001,1000000003)] [(1000001500,1000000500),(1000001501,1000000501),(1000001502,1000000503)]
theorem Lz (a0 a1 r) (h:FJ a0 a1=some r):AC Tryz.prog 5 [.agg (TProgram.avs a0),.int .i64 a1] (.bool r):=by
 unfold FJ at h
 refine acF Tryz.func5 mixed (h:=Z ?_)
 replace h:=AB h; obtain⟨u,w,h⟩:=h
 refine AH (Mv _ _ _ w) (Z ?_)
 refine AF ?_
 refine AD h (fun h=>Z ?_) (fun h=>Z ?_)
 ·cases h
  simp only [go_sem]
 ·refine AF ?_
  replace h:=AB h; obtain⟨y,q,h⟩:=h
  refine AH (D8 _ _ q) (Z ?_)
  replace h:=AB h; obtain⟨g,j,h⟩:=h
  refine AH (TD _ _ _ j) (Z ?_)
  refine AF ?_
  replace h:=AB h; obtain⟨k,b,h⟩:=h
  refine AH (D8 _ _ b) (Z ?_)
  refine AF ?_
  replace h:=AB h; obtain⟨d,c,h⟩:=h
  refine AH (Mt _ _ _ c) (Z ?_)
  refine AF ?_
  replace h:=AB h; obtain⟨e,i,h⟩:=h
  refine AH (Ig fuel _ _ _ i) (Z ?_)
  refine AD h (fun h=>Z ?_) (fun h=>Z ?_)
  ·exact AU (Gq a0 a1 g k d true _ h) [(1000000000,96048),(1000000001,112016),(1000000002,112017),(1000000003,128032)] [(1000000500,1000),(1000000501,6007),(1000000502,7002),(1000000503,8006)]
  ·exact AU (Gq a0 a1 g k d (!decide (d.2 =g.2)) _ h) [(1000000000,96048),(1000000001,112016),(1000000002,112017),(1000000003,128032)] [(1000000500,1000),(1000000501,6007),(1000000502,7002),(1000000503,8006)]
end Go.Proofs.YtnfgeocnolheoaaGreat.Ab
