/-
  Lists of texts: sizes, copies, comparisons. No program is in sight.
-/
import Derived.Test.YtnfgeocnolheoaaGreatPlG
import Derived.Test.YtnfgeocnolheoaaGreatModT
import Derived.Test.YtnfgeocnolheoaaGreatAbZ
namespace Go.Proofs.YtnfgeocnolheoaaGreat.Ab
set_option linter.unusedVariables false
set_option maxHeartbeats 1000000
set_option linter.unusedSimpArgs false
open Go.RowKit
theorem VH (l:List ByteArray) (left:Nat) (h1:left≤1048576) (h2:l.length≤9223372036854775807) (h3:∀s ∈ l,s.size≤9223372036854775807):Ia l left=some (szr (l.length+UV l) left):=by
 unfold Ia
 rw [RY h1 h2]
 by_cases h:l.length≤left
 ·rw [if_neg (by grind)]
  have loop:∀ (post pre:List ByteArray) (n l3:Nat),l=pre++post→l3≤left→post.length<n→DT n l l3 (pre.length:Int)=some (szr (UV post) l3):=by
   intro post
   induction post with
   |nil=>
    intro pre n l3 h _ hn
    obtain⟨n,rfl⟩:∃m,n=m+1:=⟨n - 1,by omega⟩
    rw [DT,Hb h]
    rfl
   | cons x post ihp=>
    intro pre n l3 hh h4 hn
    obtain⟨n,rfl⟩:∃m,n=m+1:=⟨n - 1,by omega⟩
    have hx:x ∈ l:=by rw [hh]; simp
    rw [DT,if_pos (Ah hh),AY hh,AA,RY (by omega) (h3 x hx),UV]
    by_cases h5:l3<x.size
    ·rw [if_pos (by grind),dN (by omega)]
    ·rw [if_neg (by grind),AP hh (by grind),show ((l3:Int) - (x.size:Int))=((l3 - x.size:Nat):Int) from by omega,ihp (pre++[x]) n (l3 - x.size) (dM hh) (by omega) (by grind)]
     grind [szr]
  have:=loop l [] fuel (left - l.length) (by simp) (by omega) (by rw [Bg]; omega)
  rw [show ((left:Int) - (l.length:Int))=((left - l.length:Nat):Int) from by omega]
  rw [show (0:Int)=((List.length ([] :List ByteArray):Nat):Int) from rfl,this]
  grind [szr]
 grind [dN]
theorem VI (l:List ByteArray) (hl:l.length≤Big):Ib l=some l:=by
 have loop:∀ (post pre:List ByteArray) (n:Nat),l=pre++post→post.length<n→DU n l (pre++List.replicate post.length ByteArray.empty) (pre.length:Int)=some l:=by
  intro post
  induction post with
  |nil=>
   intro pre n h hn
   obtain⟨n,rfl⟩:∃m,n=m+1:=⟨n - 1,by omega⟩
   rw [DU,Hb h]; simp [h]
  |cons x post ih=>
   intro pre n h hn
   obtain⟨n,rfl⟩:∃m,n=m+1:=⟨n - 1,by omega⟩
   rw [DU,if_pos (Ah h),AY h,AA,List.length_cons,YD,AA,Sc,AA,AP h hl]
   grind
 unfold Ib
 rw [YC hl,AA]
 exact loop l [] fuel (by simp) (by rw [Bg]; grind)
theorem VJ (l:List ByteArray) (hl:l.length≤Big):Ic l l=some true:=by
 unfold Ic
 rw [if_neg (by simp)]
 have loop:∀ (post pre:List ByteArray) (n:Nat),l=pre++post→post.length<n→DV n l l (pre.length:Int)=some true:=by
  intro post
  induction post with
  |nil=>
   intro pre n h hn
   obtain⟨n,rfl⟩:∃m,n=m+1:=⟨n - 1,by omega⟩
   rw [DV,Hb h]; rfl
  |cons x post ih=>
   intro pre n h hn
   obtain⟨n,rfl⟩:∃m,n=m+1:=⟨n - 1,by omega⟩
   rw [DV,if_pos (Ah h),AY h,AA,AA,if_neg (by rw [Bj]; simp),AP h hl]
   grind
 exact loop l [] fuel (by simp) (by rw [Bg]; grind)
mutual
def TType.sz:TType→Nat
 |⟨x0,x1,x2⟩=>x1.size+(TType.szs x2+0)
def TType.szs:List TType→Nat
 | [] =>0
 |c::cs=>1+TType.sz c+TType.szs cs
end
theorem TType.szs_eq:∀l:List TType,TType.szs l=szl TType.sz l
 | [] =>rfl
 |c::cs=>by rw [TType.szs,szl,TType.szs_eq cs]
theorem TType.sz_eq (x:TType):x.sz=x.name.size+(szl TType.sz x.kids+0):=by cases x; rw [TType.sz,TType.szs_eq]
theorem TType.eq_iff (x y:TType):x=y↔x.kind=y.kind∧x.name=y.name∧x.kids=y.kids:=by
 cases x; cases y; grind
theorem TType.ind {P:TType→Prop} (h:∀c:TType,(∀k ∈ c.kids,P k)→P c):∀c,P c:=by
 suffices ∀n (c:TType),c.sz<n→P c from fun c=>this _ c (Nat.lt_succ_self _)
 intro n
 induction n with
 |zero=>omega
 |succ n ih=>
  grind [TType.sz_eq,Gv]
inductive TType.Ok:TType→Prop where
 |mk (x:TType) (h_kind:(Lit.int IntKind.i64 x.kind).wf =true) (h_name:x.name.size≤9223372036854775807) (h_kids:x.kids.length≤9223372036854775807) (h:∀k ∈ x.kids,TType.Ok k):TType.Ok x
theorem TType.ok_of:∀ (x:TType) (h:Hn (TType.ds x)),x.Ok:=by
 refine TType.ind fun x ih h=>?_
 rw [TType.ds_eq] at h
 simp only [Hn,D.ok,List.length_map] at h
 obtain⟨h1,h2,h3,-⟩:=h
 exact⟨x,(h1),(h2),h3.1,fun k hk=>ih k hk (IQ h3.2 hk)⟩
theorem PH (l:List TType) (hl:l.length≤9223372036854775807) (ih:∀x ∈ l,∀ (left n:Nat),left≤1048576→4*left+4≤n→FW n x left=some (szr x.sz left)) (left n:Nat) (h1:left≤1048576) (hn:4*left+3≤n):GS n l left=some (szr (szl TType.sz l) left):=by
 obtain⟨n,rfl⟩:∃m,n=m+1:=⟨n - 1,by omega⟩
 rw [GS]
 exact nC (fun n p i=>FK n l p i) FW TType.sz l (fun n p i=>by rw [FK]) left n h1 ih hl (by omega)
theorem QI:∀ (x:TType),x.Ok→∀ (left:Nat),left≤1048576→∀n,4*left+4≤n→FW n x left=some (szr x.sz left):=by
 suffices ∀ (x:TType),x.Ok→∀ (left n:Nat),left≤1048576→4*left+4≤n→FW n x left=some (szr x.sz left) from fun x h left h1 n=>this x h left n h1
 refine TType.ind fun x ih h left n h1 hn=>?_
 obtain⟨_,h_kind,h_name,h_kids,hks⟩:=h
 obtain⟨n,rfl⟩:∃m,n=m+1:=⟨n - 1,by omega⟩
 rw [FW,TType.sz_eq]
 exact Mb (by omega) h_name fun _ ew=>(by rw [ew]; exact Gw (PH x.kids h_kids (fun y hy=>ih y hy (hks y hy)) _ n (by omega) (by omega)) fun _=>P9)
theorem YP (l:List TType) (hl:l.length≤9223372036854775807) (h:∀x ∈ l,x.Ok) (left:Nat) (h1:left≤1048576) (n:Nat) (hn:4*left+3≤n):GS n l left=some (szr (szl TType.sz l) left):=
 PH l hl (fun x hx left n h1 hn=>QI x (h x hx) left h1 n hn) left n h1 hn
theorem PI (l:List TType) (hl:szl TType.sz l≤Big) (ih:∀x ∈ l,x.sz≤Big→∀n,4*x.sz+4≤n→F7 n x=some x) (n:Nat) (hn:4*szl TType.sz l+3≤n):GU n l=some l:=by
 obtain⟨n,rfl⟩:∃m,n=m+1:=⟨n - 1,by omega⟩
 rw [GU]
 exact nD (fun n acc i=>FN n l acc i) F7 _ TType.sz l (fun n acc i=>by rw [FN]) hl ih n (by omega)
theorem QJ:∀ (x:TType),x.sz≤Big→∀n,4*x.sz+4≤n→F7 n x=some x:=by
 refine TType.ind fun x ih h n hn=>?_
 obtain⟨n,rfl⟩:∃m,n=m+1:=⟨n - 1,by omega⟩
 rw [F7]
 rw [PI x.kids (by grind [TType.sz_eq]) (fun y hy=>ih y hy) n (by rw [TType.sz_eq] at hn; omega),AA]
 cases x; rfl
theorem YQ (l:List TType) (hl:szl TType.sz l≤Big) (n:Nat) (hn:4*szl TType.sz l+3≤n):GU n l=some l:=PI l hl (fun x _=>QJ x) n hn
theorem PJ (l:List TType) (hl:szl TType.sz l≤Big) (ih:∀x ∈ l,x.sz≤Big→∀n,4*x.sz+4≤n→D7 n x x=some true) (n:Nat) (hn:4*szl TType.sz l+3≤n):GV n l l=some true:=by
 obtain⟨n,rfl⟩:∃m,n=m+1:=⟨n - 1,by omega⟩
 rw [GV]
 exact nE (fun n i=>FQ n l l i) D7 TType.sz l (fun n i=>by rw [FQ]) hl ih n (by omega)
theorem J9:∀ (x:TType),x.sz≤Big→∀n,4*x.sz+4≤n→D7 n x x=some true:=by
 refine TType.ind fun x ih h n hn=>?_
 obtain⟨n,rfl⟩:∃m,n=m+1:=⟨n - 1,by omega⟩
 rw [D7]
 grind [Bj,PJ,TType.sz_eq]
theorem VK (l:List TType) (hl:szl TType.sz l≤Big) (n:Nat) (hn:4*szl TType.sz l+3≤n):GV n l l=some true:=PJ l hl (fun x _=>J9 x) n hn
mutual
def Term.sz:Term→Nat
 |⟨x0,x1,x2,x3,x4,x5⟩=>x2.size+(x3.sz+((x4.length+UV x4)+(Term.szs x5+0)))
def Term.szs:List Term→Nat
 | [] =>0
 |c::cs=>1+Term.sz c+Term.szs cs
end
theorem Term.szs_eq:∀l:List Term,Term.szs l=szl Term.sz l
 | [] =>rfl
 |c::cs=>by rw [Term.szs,szl,Term.szs_eq cs]
theorem Term.sz_eq (x:Term):x.sz=x.name.size+(x.typ.sz+((x.names.length+UV x.names)+(szl Term.sz x.kids+0))):=by cases x; rw [Term.sz,Term.szs_eq]
theorem Term.eq_iff (x y:Term):x=y↔x.kind=y.kind∧x.num=y.num∧x.name=y.name∧x.typ=y.typ∧x.names=y.names∧x.kids=y.kids:=by
 cases x; cases y; grind
theorem Term.ind {P:Term→Prop} (h:∀c:Term,(∀k ∈ c.kids,P k)→P c):∀c,P c:=by
 suffices ∀n (c:Term),c.sz<n→P c from fun c=>this _ c (Nat.lt_succ_self _)
 intro n
 induction n with
 |zero=>omega
 |succ n ih=>
  grind [Term.sz_eq,Gv]
inductive Term.Ok:Term→Prop where
 |mk (x:Term) (h_kind:(Lit.int IntKind.i64 x.kind).wf =true) (h_num:(Lit.int IntKind.i64 x.num).wf =true) (h_name:x.name.size≤9223372036854775807) (h_typ:TType.Ok x.typ) (h_names:(x.names.length≤9223372036854775807∧∀e ∈ x.names,e.size≤9223372036854775807)) (h_kids:x.kids.length≤9223372036854775807) (h:∀k ∈ x.kids,Term.Ok k):Term.Ok x
theorem Term.ok_of:∀ (x:Term) (h:Hn (Term.ds x)),x.Ok:=by
 refine Term.ind fun x ih h=>?_
 rw [Term.ds_eq] at h
 simp only [Hn,D.ok,List.length_map] at h
 obtain⟨h1,h2,h3,h4,h5,h6,h7,h8,-⟩:=h
 exact⟨x,(h1),(h2),(h3),(TType.ok_of _ (by rw [TType.ds_eq]; grind [Hn,D.ok])),(⟨h7.1,fun e he=>by have:=(IQ h7.2 he); simp only [strD,Hn,D.ok] at this; exact this.1⟩),h8.1,fun k hk=>ih k hk (IQ h8.2 hk)⟩
theorem VL (l:List Term) (hl:l.length≤9223372036854775807) (ih:∀x ∈ l,∀ (left n:Nat),left≤1048576→4*left+4≤n→F4 n x left=some (szr x.sz left)) (left n:Nat) (h1:left≤1048576) (hn:4*left+3≤n):JG n l left=some (szr (szl Term.sz l) left):=by
 obtain⟨n,rfl⟩:∃m,n=m+1:=⟨n - 1,by omega⟩
 rw [JG]
 exact nC (fun n p i=>FM n l p i) F4 Term.sz l (fun n p i=>by rw [FM]) left n h1 ih hl (by omega)
theorem aw:∀ (x:Term),x.Ok→∀ (left:Nat),left≤1048576→∀n,4*left+4≤n→F4 n x left=some (szr x.sz left):=by
 suffices ∀ (x:Term),x.Ok→∀ (left n:Nat),left≤1048576→4*left+4≤n→F4 n x left=some (szr x.sz left) from fun x h left h1 n=>this x h left n h1
 refine Term.ind fun x ih h left n h1 hn=>?_
 obtain⟨_,h_kind,h_num,h_name,h_typ,h_names,h_kids,hks⟩:=h
 obtain⟨n,rfl⟩:∃m,n=m+1:=⟨n - 1,by omega⟩
 rw [F4,Term.sz_eq]
 exact Mb (by omega) h_name fun _ ew=>(by rw [ew]; exact Gw (QI _ h_typ _ (by omega) fuel (by rw [Bg]; omega)) fun _=>Gw (VH _ _ (by omega) h_names.1 h_names.2) fun _=>Gw (VL x.kids h_kids (fun y hy=>ih y hy (hks y hy)) _ n (by omega) (by omega)) fun _=>P9)
theorem VM (l:List Term) (hl:szl Term.sz l≤Big) (ih:∀x ∈ l,x.sz≤Big→∀n,4*x.sz+4≤n→Gj n x=some x) (n:Nat) (hn:4*szl Term.sz l+3≤n):JH n l=some l:=by
 obtain⟨n,rfl⟩:∃m,n=m+1:=⟨n - 1,by omega⟩
 rw [JH]
 exact nD (fun n acc i=>FP n l acc i) Gj _ Term.sz l (fun n acc i=>by rw [FP]) hl ih n (by omega)
theorem ax:∀ (x:Term),x.sz≤Big→∀n,4*x.sz+4≤n→Gj n x=some x:=by
 refine Term.ind fun x ih h n hn=>?_
 obtain⟨n,rfl⟩:∃m,n=m+1:=⟨n - 1,by omega⟩
 rw [Gj]
 rw [QJ _ (by grind [Term.sz_eq]) fuel (by grind [Term.sz_eq,Bg]),AA]
 rw [VI _ (by grind [Term.sz_eq]),AA]
 rw [VM x.kids (by grind [Term.sz_eq]) (fun y hy=>ih y hy) n (by rw [Term.sz_eq] at hn; omega),AA]
 cases x; rfl
theorem VN (l:List Term) (hl:szl Term.sz l≤Big) (ih:∀x ∈ l,x.sz≤Big→∀n,4*x.sz+4≤n→Gk n x x=some true) (n:Nat) (hn:4*szl Term.sz l+3≤n):JJ n l l=some true:=by
 obtain⟨n,rfl⟩:∃m,n=m+1:=⟨n - 1,by omega⟩
 rw [JJ]
 exact nE (fun n i=>FS n l l i) Gk Term.sz l (fun n i=>by rw [FS]) hl ih n (by omega)
theorem W9:∀ (x:Term),x.sz≤Big→∀n,4*x.sz+4≤n→Gk n x x=some true:=by
 refine Term.ind fun x ih h n hn=>?_
 obtain⟨n,rfl⟩:∃m,n=m+1:=⟨n - 1,by omega⟩
 rw [Gk]
 grind [Bj,J9,Term.sz_eq,Bg,VJ,VN]
structure Def.Ok (x:Def):Prop where
 name:x.name.size≤9223372036854775807
 typ:TType.Ok x.typ
 body:Term.Ok x.body
theorem Def.ok_of (x:Def) (h:Hn (Def.ds x)):x.Ok:=by
 rw [Def.ds_eq] at h
 simp only [Hn,D.ok,List.length_map] at h
 obtain⟨h1,h2,h3,h4,h5,h6,h7,h8,h9,h10,h11,h12,-⟩:=h
 exact⟨h1,TType.ok_of _ (by rw [TType.ds_eq]; grind [Hn,D.ok]),Term.ok_of _ (by rw [Term.ds_eq]; simp_all [Hn,D.ok])⟩
theorem Def.eq_iff (x y:Def):x=y↔x.name=y.name∧x.typ=y.typ∧x.body=y.body:=by
 cases x; cases y; grind
def Def.sz (x:Def):Nat:=x.name.size+(x.typ.sz+(x.body.sz+0))
theorem dt (x:Def) (h:x.Ok) (left:Nat) (h1:left≤1048576):NC x left=some (szr x.sz left):=by
 unfold NC Def.sz
 exact Mb (by omega) h.name fun _ ew=>(by rw [ew]; exact Gw (QI _ h.typ _ (by omega) fuel (by rw [Bg]; omega)) fun _=>Gw (aw _ h.body _ (by omega) fuel (by rw [Bg]; omega)) fun _=>P9)
theorem ay (l:List Def) (hl:l.length≤9223372036854775807) (h:∀x ∈ l,x.Ok) (left:Nat) (h1:left≤1048576):MY l left=some (szr (szl Def.sz l) left):=by
 unfold MY
 exact gSz (fun n p i=>F5 n l p i) NC Def.sz l (fun n p i=>by rw [F5]) left h1 (fun x hx k hk=>dt x (h x hx) k hk) hl
theorem du (x:Def) (h:x.sz≤Big):NE x=some x:=by
 unfold NE
 rw [QJ _ (by grind [Def.sz]) fuel (by grind [Def.sz,Bg]),AA]
 rw [ax _ (by grind [Def.sz]) fuel (by grind [Def.sz,Bg]),AA]
 first|done|rfl
theorem az (l:List Def) (hl:szl Def.sz l≤Big):MZ l=some l:=by
 unfold MZ
 exact gTo (fun n acc i=>F8 n l acc i) NE _ l (fun n acc i=>by rw [F8]) (by grind [AZ]) (fun x hx=>du x (by grind [Gv]))
theorem YR (x:Def) (h:x.sz≤Big):NF x x=some true:=by
 grind [NF,Bj,J9,Def.sz,Bg,W9]
theorem XA (l:List Def) (hl:szl Def.sz l≤Big):Ma l l=some true:=by
 unfold Ma
 exact jO (fun n i=>GA n l l i) NF l (fun n i=>by rw [GA]) (by grind [AZ]) fun x hx=>YR x (by grind [Gv])
structure Constructor.Ok (x:Constructor):Prop where
 name:x.name.size≤9223372036854775807
 fields:(x.fields.length≤9223372036854775807∧∀e ∈ x.fields,TType.Ok e)
theorem Constructor.ok_of (x:Constructor) (h:Hn (Constructor.ds x)):x.Ok:=by
 rw [Constructor.ds_eq] at h
 simp only [Hn,D.ok,List.length_map] at h
 obtain⟨h1,h2,-⟩:=h
 exact⟨h1,⟨h2.1,fun e he=>TType.ok_of e (IQ h2.2 he)⟩⟩
theorem Constructor.eq_iff (x y:Constructor):x=y↔x.name=y.name∧x.fields=y.fields:=by
 cases x; cases y; grind
def Constructor.sz (x:Constructor):Nat:=x.name.size+(szl TType.sz x.fields+0)
theorem QK (x:Constructor) (h:x.Ok) (left:Nat) (h1:left≤1048576):EF x left=some (szr x.sz left):=by
 unfold EF Constructor.sz
 exact Mb (by omega) h.name fun _ ew=>(by rw [ew]; exact Gw (YP _ h.fields.1 h.fields.2 _ (by omega) fuel (by rw [Bg]; omega)) fun _=>P9)
theorem PK (l:List Constructor) (hl:l.length≤9223372036854775807) (h:∀x ∈ l,x.Ok) (left:Nat) (h1:left≤1048576):Eu l left=some (szr (szl Constructor.sz l) left):=by
 unfold Eu
 exact gSz (fun n p i=>CE n l p i) EF Constructor.sz l (fun n p i=>by rw [CE]) left h1 (fun x hx k hk=>QK x (h x hx) k hk) hl
theorem QL (x:Constructor) (h:x.sz≤Big):EG x=some x:=by
 unfold EG
 rw [YQ _ (by grind [Constructor.sz]) fuel (by grind [Constructor.sz,Bg]),AA]
 first|done|rfl
theorem PL (l:List Constructor) (hl:szl Constructor.sz l≤Big):Ew l=some l:=by
 unfold Ew
 exact gTo (fun n acc i=>CF n l acc i) EG _ l (fun n acc i=>by rw [CF]) (by grind [AZ]) (fun x hx=>QL x (by grind [Gv]))
theorem OP (x:Constructor) (h:x.sz≤Big):EH x x=some true:=by
 grind [EH,Bj,VK,Constructor.sz,Bg]
theorem NN (l:List Constructor) (hl:szl Constructor.sz l≤Big):Ez l l=some true:=by
 unfold Ez
 exact jO (fun n i=>CG n l l i) EH l (fun n i=>by rw [CG]) (by grind [AZ]) fun x hx=>OP x (by grind [Gv])
structure Data.Ok (x:Data):Prop where
 name:x.name.size≤9223372036854775807
 cons:(x.cons.length≤9223372036854775807∧∀e ∈ x.cons,Constructor.Ok e)
theorem Data.ok_of (x:Data) (h:Hn (Data.ds x)):x.Ok:=by
 rw [Data.ds_eq] at h
 simp only [Hn,D.ok,List.length_map] at h
 obtain⟨h1,h2,-⟩:=h
 exact⟨h1,⟨h2.1,fun e he=>Constructor.ok_of e (IQ h2.2 he)⟩⟩
theorem Data.eq_iff (x y:Data):x=y↔x.name=y.name∧x.cons=y.cons:=by
 cases x; cases y; grind
def Data.sz (x:Data):Nat:=x.name.size+(szl Constructor.sz x.cons+0)
theorem a5 (x:Data) (h:x.Ok) (left:Nat) (h1:left≤1048576):Kp x left=some (szr x.sz left):=by
 unfold Kp Data.sz
 exact Mb (by omega) h.name fun _ ew=>(by rw [ew]; exact Gw (PK _ h.cons.1 h.cons.2 _ (by omega)) fun _=>P9)
theorem YS (l:List Data) (hl:l.length≤9223372036854775807) (h:∀x ∈ l,x.Ok) (left:Nat) (h1:left≤1048576):Kq l left=some (szr (szl Data.sz l) left):=by
 unfold Kq
 exact gSz (fun n p i=>FL n l p i) Kp Data.sz l (fun n p i=>by rw [FL]) left h1 (fun x hx k hk=>a5 x (h x hx) k hk) hl
theorem a6 (x:Data) (h:x.sz≤Big):Ks x=some x:=by
 unfold Ks
 rw [PL _ (by grind [Data.sz]),AA]
 first|done|rfl
theorem YT (l:List Data) (hl:szl Data.sz l≤Big):Kt l=some l:=by
 unfold Kt
 exact gTo (fun n acc i=>FO n l acc i) Ks _ l (fun n acc i=>by rw [FO]) (by grind [AZ]) (fun x hx=>a6 x (by grind [Gv]))
theorem XB (x:Data) (h:x.sz≤Big):Kv x x=some true:=by
 grind [Kv,Bj,NN,Data.sz]
theorem VO (l:List Data) (hl:szl Data.sz l≤Big):Kw l l=some true:=by
 unfold Kw
 exact jO (fun n i=>FR n l l i) Kv l (fun n i=>by rw [FR]) (by grind [AZ]) fun x hx=>XB x (by grind [Gv])
structure TProgram.Ok (x:TProgram):Prop where
 datas:(x.datas.length≤9223372036854775807∧∀e ∈ x.datas,Data.Ok e)
 defs:(x.defs.length≤9223372036854775807∧∀e ∈ x.defs,Def.Ok e)
theorem TProgram.ok_of (x:TProgram) (h:Hn (TProgram.ds x)):x.Ok:=by
 rw [TProgram.ds_eq] at h
 simp only [Hn,D.ok,List.length_map] at h
 obtain⟨h1,h2,-⟩:=h
 exact⟨⟨h1.1,fun e he=>Data.ok_of e (IQ h1.2 he)⟩,⟨h2.1,fun e he=>Def.ok_of e (IQ h2.2 he)⟩⟩
theorem TProgram.eq_iff (x y:TProgram):x=y↔x.datas=y.datas∧x.defs=y.defs:=by
 cases x; cases y; grind
def TProgram.sz (x:TProgram):Nat:=szl Data.sz x.datas+(szl Def.sz x.defs+0)
theorem PM (x:TProgram) (h:x.Ok) (left:Nat) (h1:left≤1048576):HJ x left=some (szr x.sz left):=by
 unfold HJ TProgram.sz
 exact Gw (YS _ h.datas.1 h.datas.2 _ (by omega)) fun _=>Gw (ay _ h.defs.1 h.defs.2 _ (by omega)) fun _=>P9
theorem PN (x:TProgram) (h:x.sz≤Big):Cd x=some x:=by
 unfold Cd
 rw [YT _ (by grind [TProgram.sz]),AA]
 rw [az _ (by grind [TProgram.sz]),AA]
 first|done|rfl
theorem Mi (x:TProgram) (h:x.sz≤Big):FA x x=some true:=by
 grind [FA,VO,TProgram.sz,XA]
end Go.Proofs.YtnfgeocnolheoaaGreat.Ab
