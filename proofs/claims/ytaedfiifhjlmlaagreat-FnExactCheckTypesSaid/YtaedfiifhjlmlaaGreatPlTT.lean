/-
  Lists of texts: sizes, copies, comparisons. No program is in sight.
-/
import Derived.Test.YtaedfiifhjlmlaaGreatPlG
import Derived.Test.YtaedfiifhjlmlaaGreatModT
import Derived.Test.YtaedfiifhjlmlaaGreatAbZ
namespace Go.Proofs.YtaedfiifhjlmlaaGreat.Ab
set_option linter.unusedVariables false
set_option linter.unusedSimpArgs false
open Go.RowKit
theorem Sj (l:List ByteArray) (left:Nat) (h1:left≤1048576) (h2:l.length≤9223372036854775807) (h3:∀s ∈ l,s.size≤9223372036854775807):G4 l left=some (szr (l.length+NK l) left):=by
 unfold G4
 rw [NJ h1 h2]
 by_cases h:l.length≤left
 ·rw [if_neg (by simp; omega)]
  have loop:∀ (post pre:List ByteArray) (n l3:Nat),l=pre++post→l3≤left→post.length<n→Cj n l l3 (pre.length:Int)=some (szr (NK post) l3):=by
   intro post
   induction post with
   |nil=>
    intro pre n l3 h _ hn
    obtain⟨n,rfl⟩:∃m,n=m+1:=⟨n - 1,by omega⟩
    rw [Cj,HC h]
    simp [NK,szr]
   | cons x post ihp=>
    intro pre n l3 hh h4 hn
    obtain⟨n,rfl⟩:∃m,n=m+1:=⟨n - 1,by omega⟩
    have hx:x ∈ l:=by rw [hh]; simp
    rw [Cj,if_pos (Ai hh),AW hh,AA,NJ (by omega) (h3 x hx),NK]
    by_cases h5:l3<x.size
    ·rw [if_pos (by simp; omega),QS (by omega)]
    ·rw [if_neg (by simp; omega),AP hh (by unfold Big; omega),show ((l3:Int) - (x.size:Int))=((l3 - x.size:Nat):Int) from by omega,ihp (pre++[x]) n (l3 - x.size) (GS hh) (by omega) (by simp at hn; omega)]
     congr 1
     unfold szr
     by_cases h6:NK post≤l3 - x.size
     ·rw [if_pos h6,if_pos (by omega)]; congr 1; omega
     ·rw [if_neg h6,if_neg (by omega)]
  have:=loop l [] fuel (left - l.length) (by simp) (by omega) (by rw [BL]; omega)
  rw [show ((left:Int) - (l.length:Int))=((left - l.length:Nat):Int) from by omega]
  rw [show (0:Int)=((List.length ([] :List ByteArray):Nat):Int) from rfl,this]
  congr 1
  unfold szr
  by_cases h6:NK l≤left - l.length
  ·rw [if_pos h6,if_pos (by omega)]; congr 1; omega
  ·rw [if_neg h6,if_neg (by omega)]
 ·rw [if_pos (by simp; omega),QS (by omega)]
theorem Sk (l:List ByteArray) (hl:l.length≤Big):G6 l=some l:=by
 have loop:∀ (post pre:List ByteArray) (n:Nat),l=pre++post→post.length<n→Ck n l (pre++List.replicate post.length ByteArray.empty) (pre.length:Int)=some l:=by
  intro post
  induction post with
  |nil=>
   intro pre n h hn
   obtain⟨n,rfl⟩:∃m,n=m+1:=⟨n - 1,by omega⟩
   rw [Ck,HC h]; simp [h]
  |cons x post ih=>
   intro pre n h hn
   obtain⟨n,rfl⟩:∃m,n=m+1:=⟨n - 1,by omega⟩
   rw [Ck,if_pos (Ai h),AW h,AA,List.length_cons,VZ,AA,QR,AA,AP h hl]
   exact ih (pre++[x]) n (GS h) (by simp at hn; omega)
 unfold G6
 rw [VY hl,AA]
 exact loop l [] fuel (by simp) (by rw [BL]; unfold Big at hl; omega)
theorem Sl (l:List ByteArray) (hl:l.length≤Big):G8 l l=some true:=by
 unfold G8
 rw [if_neg (by simp)]
 have loop:∀ (post pre:List ByteArray) (n:Nat),l=pre++post→post.length<n→Cl n l l (pre.length:Int)=some true:=by
  intro post
  induction post with
  |nil=>
   intro pre n h hn
   obtain⟨n,rfl⟩:∃m,n=m+1:=⟨n - 1,by omega⟩
   rw [Cl,HC h]; rfl
  |cons x post ih=>
   intro pre n h hn
   obtain⟨n,rfl⟩:∃m,n=m+1:=⟨n - 1,by omega⟩
   rw [Cl,if_pos (Ai h),AW h,AA,AA,if_neg (by rw [BY]; simp),AP h hl]
   exact ih (pre++[x]) n (GS h) (by simp at hn; omega)
 exact loop l [] fuel (by simp) (by rw [BL]; unfold Big at hl; omega)
mutual
def TType.sz:TType→Nat
 |⟨x0,x1,x2⟩=>x1.size+(TType.szs x2+0)
def TType.szs:List TType→Nat
 | [] =>0
 |c::cs=>1+TType.sz c+TType.szs cs
end
theorem TType.szs_eq:∀l:List TType,TType.szs l=szl TType.sz l
 | [] =>rfl
 |c::cs=>by rw [TType.szs,szl,TType.szs_eq cs]
theorem TType.sz_eq (x:TType):x.sz=x.name.size+(szl TType.sz x.kids+0):=by cases x; rw [TType.sz,TType.szs_eq]
theorem TType.eq_iff (x y:TType):x=y↔x.kind=y.kind∧x.name=y.name∧x.kids=y.kids:=by
 cases x; cases y; simp only [TType.mk.injEq]
theorem TType.ind {P:TType→Prop} (h:∀c:TType,(∀k ∈ c.kids,P k)→P c):∀c,P c:=by
 suffices ∀n (c:TType),c.sz<n→P c from fun c=>this _ c (Nat.lt_succ_self _)
 intro n
 induction n with
 |zero=>intro c hc; omega
 |succ n ih=>
  intro c hc
  refine h c fun k hk=>ih k ?_
  have h1:=TType.sz_eq c
  have h2:=Fr (s:=TType.sz) hk
  omega
inductive TType.Ok:TType→Prop where
 |mk (x:TType) (h_kind:(Lit.int IntKind.i64 x.kind).wf =true) (h_name:x.name.size≤9223372036854775807) (h_kids:x.kids.length≤9223372036854775807) (h:∀k ∈ x.kids,TType.Ok k):TType.Ok x
theorem TType.ok_of:∀ (x:TType) (h:Gf (TType.ds x)),x.Ok:=by
 refine TType.ind fun x ih h=>?_
 rw [TType.ds_eq] at h
 simp only [Gf,D.ok,List.length_map] at h
 obtain⟨h1,h2,h3,-⟩:=h
 exact⟨x,(h1),(h2),h3.1,fun k hk=>ih k hk (Gx h3.2 hk)⟩
theorem NP (l:List TType) (hl:l.length≤9223372036854775807) (ih:∀x ∈ l,∀ (left n:Nat),left≤1048576→4*left+4≤n→EZ n x left=some (szr x.sz left)) (left n:Nat) (h1:left≤1048576) (hn:4*left+3≤n):FS n l left=some (szr (szl TType.sz l) left):=by
 obtain⟨n,rfl⟩:∃m,n=m+1:=⟨n - 1,by omega⟩
 rw [FS]
 exact gS (fun n p i=>EN n l p i) EZ TType.sz l (fun n p i=>by rw [EN]) left n h1 ih hl (by omega)
theorem OJ:∀ (x:TType),x.Ok→∀ (left:Nat),left≤1048576→∀n,4*left+4≤n→EZ n x left=some (szr x.sz left):=by
 suffices ∀ (x:TType),x.Ok→∀ (left n:Nat),left≤1048576→4*left+4≤n→EZ n x left=some (szr x.sz left) from fun x h left h1 n=>this x h left n h1
 refine TType.ind fun x ih h left n h1 hn=>?_
 obtain⟨_,h_kind,h_name,h_kids,hks⟩:=h
 obtain⟨n,rfl⟩:∃m,n=m+1:=⟨n - 1,by omega⟩
 rw [EZ,TType.sz_eq]
 exact K3 (by omega) h_name fun _ ew=>(by rw [ew]; exact Fs (NP x.kids h_kids (fun y hy=>ih y hy (hks y hy)) _ n (by omega) (by omega)) fun _=>OD)
theorem Vn (l:List TType) (hl:l.length≤9223372036854775807) (h:∀x ∈ l,x.Ok) (left:Nat) (h1:left≤1048576) (n:Nat) (hn:4*left+3≤n):FS n l left=some (szr (szl TType.sz l) left):=
 NP l hl (fun x hx left n h1 hn=>OJ x (h x hx) left h1 n hn) left n h1 hn
theorem NQ (l:List TType) (hl:szl TType.sz l≤Big) (ih:∀x ∈ l,x.sz≤Big→∀n,4*x.sz+4≤n→FA n x=some x) (n:Nat) (hn:4*szl TType.sz l+3≤n):FU n l=some l:=by
 obtain⟨n,rfl⟩:∃m,n=m+1:=⟨n - 1,by omega⟩
 rw [FU]
 exact gT (fun n acc i=>EQ n l acc i) FA _ TType.sz l (fun n acc i=>by rw [EQ]) hl ih n (by omega)
theorem OK:∀ (x:TType),x.sz≤Big→∀n,4*x.sz+4≤n→FA n x=some x:=by
 refine TType.ind fun x ih h n hn=>?_
 obtain⟨n,rfl⟩:∃m,n=m+1:=⟨n - 1,by omega⟩
 rw [FA]
 rw [NQ x.kids (by have:=h; rw [TType.sz_eq] at this; omega) (fun y hy=>ih y hy) n (by rw [TType.sz_eq] at hn; omega),AA]
 cases x; rfl
theorem Vo (l:List TType) (hl:szl TType.sz l≤Big) (n:Nat) (hn:4*szl TType.sz l+3≤n):FU n l=some l:=NQ l hl (fun x _=>OK x) n hn
theorem NR (l:List TType) (hl:szl TType.sz l≤Big) (ih:∀x ∈ l,x.sz≤Big→∀n,4*x.sz+4≤n→FD n x x=some true) (n:Nat) (hn:4*szl TType.sz l+3≤n):FW n l l=some true:=by
 obtain⟨n,rfl⟩:∃m,n=m+1:=⟨n - 1,by omega⟩
 rw [FW]
 exact gU (fun n i=>ET n l l i) FD TType.sz l (fun n i=>by rw [ET]) hl ih n (by omega)
theorem K8:∀ (x:TType),x.sz≤Big→∀n,4*x.sz+4≤n→FD n x x=some true:=by
 refine TType.ind fun x ih h n hn=>?_
 obtain⟨n,rfl⟩:∃m,n=m+1:=⟨n - 1,by omega⟩
 rw [FD]
 exact Ik (by simp) <| Ik (BY _) <| Fk (NR x.kids (by have:=h; rw [TType.sz_eq] at this; omega) (fun y hy=>ih y hy) n (by rw [TType.sz_eq] at hn; omega)) <| rfl
theorem Sm (l:List TType) (hl:szl TType.sz l≤Big) (n:Nat) (hn:4*szl TType.sz l+3≤n):FW n l l=some true:=NR l hl (fun x _=>K8 x) n hn
mutual
def Term.sz:Term→Nat
 |⟨x0,x1,x2,x3,x4,x5⟩=>x2.size+(x3.sz+((x4.length+NK x4)+(Term.szs x5+0)))
def Term.szs:List Term→Nat
 | [] =>0
 |c::cs=>1+Term.sz c+Term.szs cs
end
theorem Term.szs_eq:∀l:List Term,Term.szs l=szl Term.sz l
 | [] =>rfl
 |c::cs=>by rw [Term.szs,szl,Term.szs_eq cs]
theorem Term.sz_eq (x:Term):x.sz=x.name.size+(x.typ.sz+((x.names.length+NK x.names)+(szl Term.sz x.kids+0))):=by cases x; rw [Term.sz,Term.szs_eq]
theorem Term.eq_iff (x y:Term):x=y↔x.kind=y.kind∧x.num=y.num∧x.name=y.name∧x.typ=y.typ∧x.names=y.names∧x.kids=y.kids:=by
 cases x; cases y; simp only [Term.mk.injEq]
theorem Term.ind {P:Term→Prop} (h:∀c:Term,(∀k ∈ c.kids,P k)→P c):∀c,P c:=by
 suffices ∀n (c:Term),c.sz<n→P c from fun c=>this _ c (Nat.lt_succ_self _)
 intro n
 induction n with
 |zero=>intro c hc; omega
 |succ n ih=>
  intro c hc
  refine h c fun k hk=>ih k ?_
  have h1:=Term.sz_eq c
  have h2:=Fr (s:=Term.sz) hk
  omega
inductive Term.Ok:Term→Prop where
 |mk (x:Term) (h_kind:(Lit.int IntKind.i64 x.kind).wf =true) (h_num:(Lit.int IntKind.i64 x.num).wf =true) (h_name:x.name.size≤9223372036854775807) (h_typ:TType.Ok x.typ) (h_names:(x.names.length≤9223372036854775807∧∀e ∈ x.names,e.size≤9223372036854775807)) (h_kids:x.kids.length≤9223372036854775807) (h:∀k ∈ x.kids,Term.Ok k):Term.Ok x
theorem Term.ok_of:∀ (x:Term) (h:Gf (Term.ds x)),x.Ok:=by
 refine Term.ind fun x ih h=>?_
 rw [Term.ds_eq] at h
 simp only [Gf,D.ok,List.length_map] at h
 obtain⟨h1,h2,h3,h4,h5,h6,h7,h8,-⟩:=h
 exact⟨x,(h1),(h2),(h3),(TType.ok_of _ (by rw [TType.ds_eq]; simp only [Gf,D.ok,List.length_map]; exact⟨h4,h5,h6,trivial⟩)),(⟨h7.1,fun e he=>by have:=(Gx h7.2 he); simp only [strD,Gf,D.ok] at this; exact this.1⟩),h8.1,fun k hk=>ih k hk (Gx h8.2 hk)⟩
theorem Sn (l:List Term) (hl:l.length≤9223372036854775807) (ih:∀x ∈ l,∀ (left n:Nat),left≤1048576→4*left+4≤n→E7 n x left=some (szr x.sz left)) (left n:Nat) (h1:left≤1048576) (hn:4*left+3≤n):Hr n l left=some (szr (szl Term.sz l) left):=by
 obtain⟨n,rfl⟩:∃m,n=m+1:=⟨n - 1,by omega⟩
 rw [Hr]
 exact gS (fun n p i=>EP n l p i) E7 Term.sz l (fun n p i=>by rw [EP]) left n h1 ih hl (by omega)
theorem Xv:∀ (x:Term),x.Ok→∀ (left:Nat),left≤1048576→∀n,4*left+4≤n→E7 n x left=some (szr x.sz left):=by
 suffices ∀ (x:Term),x.Ok→∀ (left n:Nat),left≤1048576→4*left+4≤n→E7 n x left=some (szr x.sz left) from fun x h left h1 n=>this x h left n h1
 refine Term.ind fun x ih h left n h1 hn=>?_
 obtain⟨_,h_kind,h_num,h_name,h_typ,h_names,h_kids,hks⟩:=h
 obtain⟨n,rfl⟩:∃m,n=m+1:=⟨n - 1,by omega⟩
 rw [E7,Term.sz_eq]
 exact K3 (by omega) h_name fun _ ew=>(by rw [ew]; exact Fs (OJ _ h_typ _ (by omega) fuel (by rw [BL]; omega)) fun _=>Fs (Sj _ _ (by omega) h_names.1 h_names.2) fun _=>Fs (Sn x.kids h_kids (fun y hy=>ih y hy (hks y hy)) _ n (by omega) (by omega)) fun _=>OD)
theorem So (l:List Term) (hl:szl Term.sz l≤Big) (ih:∀x ∈ l,x.sz≤Big→∀n,4*x.sz+4≤n→Fh n x=some x) (n:Nat) (hn:4*szl Term.sz l+3≤n):Hs n l=some l:=by
 obtain⟨n,rfl⟩:∃m,n=m+1:=⟨n - 1,by omega⟩
 rw [Hs]
 exact gT (fun n acc i=>ES n l acc i) Fh _ Term.sz l (fun n acc i=>by rw [ES]) hl ih n (by omega)
theorem Xw:∀ (x:Term),x.sz≤Big→∀n,4*x.sz+4≤n→Fh n x=some x:=by
 refine Term.ind fun x ih h n hn=>?_
 obtain⟨n,rfl⟩:∃m,n=m+1:=⟨n - 1,by omega⟩
 rw [Fh]
 rw [OK _ (by have:=h; rw [Term.sz_eq] at this; omega) fuel (by have:=h; rw [Term.sz_eq] at this; rw [BL]; unfold Big at*; omega),AA]
 rw [Sk _ (by have:=h; rw [Term.sz_eq] at this; omega),AA]
 rw [So x.kids (by have:=h; rw [Term.sz_eq] at this; omega) (fun y hy=>ih y hy) n (by rw [Term.sz_eq] at hn; omega),AA]
 cases x; rfl
theorem Sp (l:List Term) (hl:szl Term.sz l≤Big) (ih:∀x ∈ l,x.sz≤Big→∀n,4*x.sz+4≤n→Fj n x x=some true) (n:Nat) (hn:4*szl Term.sz l+3≤n):Hu n l l=some true:=by
 obtain⟨n,rfl⟩:∃m,n=m+1:=⟨n - 1,by omega⟩
 rw [Hu]
 exact gU (fun n i=>EV n l l i) Fj Term.sz l (fun n i=>by rw [EV]) hl ih n (by omega)
theorem UU:∀ (x:Term),x.sz≤Big→∀n,4*x.sz+4≤n→Fj n x x=some true:=by
 refine Term.ind fun x ih h n hn=>?_
 obtain⟨n,rfl⟩:∃m,n=m+1:=⟨n - 1,by omega⟩
 rw [Fj]
 exact Ik (by simp) <| Ik (by simp) <| Ik (BY _) <| Fk (K8 _ (by have:=h; rw [Term.sz_eq] at this; omega) fuel (by have:=h; rw [Term.sz_eq] at this; rw [BL]; unfold Big at*; omega)) <| Fk (Sl _ (by have:=h; rw [Term.sz_eq] at this; omega)) <| Fk (Sp x.kids (by have:=h; rw [Term.sz_eq] at this; omega) (fun y hy=>ih y hy) n (by rw [Term.sz_eq] at hn; omega)) <| rfl
structure Def.Ok (x:Def):Prop where
 name:x.name.size≤9223372036854775807
 typ:TType.Ok x.typ
 body:Term.Ok x.body
theorem Def.ok_of (x:Def) (h:Gf (Def.ds x)):x.Ok:=by
 rw [Def.ds_eq] at h
 simp only [Gf,D.ok,List.length_map] at h
 obtain⟨h1,h2,h3,h4,h5,h6,h7,h8,h9,h10,h11,h12,-⟩:=h
 exact⟨h1,TType.ok_of _ (by rw [TType.ds_eq]; simp only [Gf,D.ok,List.length_map]; exact⟨h2,h3,h4,trivial⟩),Term.ok_of _ (by rw [Term.ds_eq]; simp only [Gf,D.ok,List.length_map]; exact⟨h5,h6,h7,h8,h9,h10,h11,h12,trivial⟩)⟩
theorem Def.eq_iff (x y:Def):x=y↔x.name=y.name∧x.typ=y.typ∧x.body=y.body:=by
 cases x; cases y; simp only [Def.mk.injEq]
def Def.sz (x:Def):Nat:=x.name.size+(x.typ.sz+(x.body.sz+0))
theorem ZU (x:Def) (h:x.Ok) (left:Nat) (h1:left≤1048576):Lc x left=some (szr x.sz left):=by
 unfold Lc Def.sz
 exact K3 (by omega) h.name fun _ ew=>(by rw [ew]; exact Fs (OJ _ h.typ _ (by omega) fuel (by rw [BL]; omega)) fun _=>Fs (Xv _ h.body _ (by omega) fuel (by rw [BL]; omega)) fun _=>OD)
theorem Xx (l:List Def) (hl:l.length≤9223372036854775807) (h:∀x ∈ l,x.Ok) (left:Nat) (h1:left≤1048576):K0 l left=some (szr (szl Def.sz l) left):=by
 unfold K0
 exact gSz (fun n p i=>E8 n l p i) Lc Def.sz l (fun n p i=>by rw [E8]) left h1 (fun x hx k hk=>ZU x (h x hx) k hk) hl
theorem ZV (x:Def) (h:x.sz≤Big):Lf x=some x:=by
 unfold Lf
 rw [OK _ (by have:=h; simp only [Def.sz] at this; omega) fuel (by have:=h; simp only [Def.sz] at this; rw [BL]; unfold Big at*; omega),AA]
 rw [Xw _ (by have:=h; simp only [Def.sz] at this; omega) fuel (by have:=h; simp only [Def.sz] at this; rw [BL]; unfold Big at*; omega),AA]
 first|done|rfl
theorem Xy (l:List Def) (hl:szl Def.sz l≤Big):K1 l=some l:=by
 unfold K1
 exact gTo (fun n acc i=>FB n l acc i) Lf _ l (fun n acc i=>by rw [FB]) (by have:=AZ Def.sz l; omega) (fun x hx=>ZV x (by have:=Fr (s:=Def.sz) hx; omega))
theorem Vp (x:Def) (h:x.sz≤Big):Lh x x=some true:=by
 unfold Lh
 exact Ik (BY _) <| Fk (K8 _ (by have:=h; simp only [Def.sz] at this; omega) fuel (by have:=h; simp only [Def.sz] at this; rw [BL]; unfold Big at*; omega)) <| Fk (UU _ (by have:=h; simp only [Def.sz] at this; omega) fuel (by have:=h; simp only [Def.sz] at this; rw [BL]; unfold Big at*; omega)) <| rfl
theorem UV (l:List Def) (hl:szl Def.sz l≤Big):K2 l l=some true:=by
 unfold K2
 exact dL (fun n i=>FE n l l i) Lh l (fun n i=>by rw [FE]) (by have:=AZ Def.sz l; omega) fun x hx=>Vp x (by have:=Fr (s:=Def.sz) hx; omega)
structure Constructor.Ok (x:Constructor):Prop where
 name:x.name.size≤9223372036854775807
 fields:(x.fields.length≤9223372036854775807∧∀e ∈ x.fields,TType.Ok e)
theorem Constructor.ok_of (x:Constructor) (h:Gf (Constructor.ds x)):x.Ok:=by
 rw [Constructor.ds_eq] at h
 simp only [Gf,D.ok,List.length_map] at h
 obtain⟨h1,h2,-⟩:=h
 exact⟨h1,⟨h2.1,fun e he=>TType.ok_of e (Gx h2.2 he)⟩⟩
theorem Constructor.eq_iff (x y:Constructor):x=y↔x.name=y.name∧x.fields=y.fields:=by
 cases x; cases y; simp only [Constructor.mk.injEq]
def Constructor.sz (x:Constructor):Nat:=x.name.size+(szl TType.sz x.fields+0)
theorem OL (x:Constructor) (h:x.Ok) (left:Nat) (h1:left≤1048576):DV x left=some (szr x.sz left):=by
 unfold DV Constructor.sz
 exact K3 (by omega) h.name fun _ ew=>(by rw [ew]; exact Fs (Vn _ h.fields.1 h.fields.2 _ (by omega) fuel (by rw [BL]; omega)) fun _=>OD)
theorem NS (l:List Constructor) (hl:l.length≤9223372036854775807) (h:∀x ∈ l,x.Ok) (left:Nat) (h1:left≤1048576):D3 l left=some (szr (szl Constructor.sz l) left):=by
 unfold D3
 exact gSz (fun n p i=>Bt n l p i) DV Constructor.sz l (fun n p i=>by rw [Bt]) left h1 (fun x hx k hk=>OL x (h x hx) k hk) hl
theorem OM (x:Constructor) (h:x.sz≤Big):DW x=some x:=by
 unfold DW
 rw [Vo _ (by have:=h; simp only [Constructor.sz] at this; omega) fuel (by have:=h; simp only [Constructor.sz] at this; rw [BL]; unfold Big at*; omega),AA]
 first|done|rfl
theorem NT (l:List Constructor) (hl:szl Constructor.sz l≤Big):D4 l=some l:=by
 unfold D4
 exact gTo (fun n acc i=>Bu n l acc i) DW _ l (fun n acc i=>by rw [Bu]) (by have:=AZ Constructor.sz l; omega) (fun x hx=>OM x (by have:=Fr (s:=Constructor.sz) hx; omega))
theorem Me (x:Constructor) (h:x.sz≤Big):DX x x=some true:=by
 unfold DX
 exact Ik (BY _) <| Fk (Sm _ (by have:=h; simp only [Constructor.sz] at this; omega) fuel (by have:=h; simp only [Constructor.sz] at this; rw [BL]; unfold Big at*; omega)) <| rfl
theorem Ll (l:List Constructor) (hl:szl Constructor.sz l≤Big):D7 l l=some true:=by
 unfold D7
 exact dL (fun n i=>Bv n l l i) DX l (fun n i=>by rw [Bv]) (by have:=AZ Constructor.sz l; omega) fun x hx=>Me x (by have:=Fr (s:=Constructor.sz) hx; omega)
structure Data.Ok (x:Data):Prop where
 name:x.name.size≤9223372036854775807
 cons:(x.cons.length≤9223372036854775807∧∀e ∈ x.cons,Constructor.Ok e)
theorem Data.ok_of (x:Data) (h:Gf (Data.ds x)):x.Ok:=by
 rw [Data.ds_eq] at h
 simp only [Gf,D.ok,List.length_map] at h
 obtain⟨h1,h2,-⟩:=h
 exact⟨h1,⟨h2.1,fun e he=>Constructor.ok_of e (Gx h2.2 he)⟩⟩
theorem Data.eq_iff (x y:Data):x=y↔x.name=y.name∧x.cons=y.cons:=by
 cases x; cases y; simp only [Data.mk.injEq]
def Data.sz (x:Data):Nat:=x.name.size+(szl Constructor.sz x.cons+0)
theorem Xz (x:Data) (h:x.Ok) (left:Nat) (h1:left≤1048576):JM x left=some (szr x.sz left):=by
 unfold JM Data.sz
 exact K3 (by omega) h.name fun _ ew=>(by rw [ew]; exact Fs (NS _ h.cons.1 h.cons.2 _ (by omega)) fun _=>OD)
theorem Vq (l:List Data) (hl:l.length≤9223372036854775807) (h:∀x ∈ l,x.Ok) (left:Nat) (h1:left≤1048576):JN l left=some (szr (szl Data.sz l) left):=by
 unfold JN
 exact gSz (fun n p i=>EO n l p i) JM Data.sz l (fun n p i=>by rw [EO]) left h1 (fun x hx k hk=>Xz x (h x hx) k hk) hl
theorem X0 (x:Data) (h:x.sz≤Big):JQ x=some x:=by
 unfold JQ
 rw [NT _ (by have:=h; simp only [Data.sz] at this; omega),AA]
 first|done|rfl
theorem Vr (l:List Data) (hl:szl Data.sz l≤Big):JR l=some l:=by
 unfold JR
 exact gTo (fun n acc i=>ER n l acc i) JQ _ l (fun n acc i=>by rw [ER]) (by have:=AZ Data.sz l; omega) (fun x hx=>X0 x (by have:=Fr (s:=Data.sz) hx; omega))
theorem UW (x:Data) (h:x.sz≤Big):JS x x=some true:=by
 unfold JS
 exact Ik (BY _) <| Fk (Ll _ (by have:=h; simp only [Data.sz] at this; omega)) <| rfl
theorem Sq (l:List Data) (hl:szl Data.sz l≤Big):JT l l=some true:=by
 unfold JT
 exact dL (fun n i=>EU n l l i) JS l (fun n i=>by rw [EU]) (by have:=AZ Data.sz l; omega) fun x hx=>UW x (by have:=Fr (s:=Data.sz) hx; omega)
structure TProgram.Ok (x:TProgram):Prop where
 datas:(x.datas.length≤9223372036854775807∧∀e ∈ x.datas,Data.Ok e)
 defs:(x.defs.length≤9223372036854775807∧∀e ∈ x.defs,Def.Ok e)
theorem TProgram.ok_of (x:TProgram) (h:Gf (TProgram.ds x)):x.Ok:=by
 rw [TProgram.ds_eq] at h
 simp only [Gf,D.ok,List.length_map] at h
 obtain⟨h1,h2,-⟩:=h
 exact⟨⟨h1.1,fun e he=>Data.ok_of e (Gx h1.2 he)⟩,⟨h2.1,fun e he=>Def.ok_of e (Gx h2.2 he)⟩⟩
theorem TProgram.eq_iff (x y:TProgram):x=y↔x.datas=y.datas∧x.defs=y.defs:=by
 cases x; cases y; simp only [TProgram.mk.injEq]
def TProgram.sz (x:TProgram):Nat:=szl Data.sz x.datas+(szl Def.sz x.defs+0)
theorem Sr (x:TProgram) (h:x.Ok) (left:Nat) (h1:left≤1048576):G5 x left=some (szr x.sz left):=by
 unfold G5 TProgram.sz
 exact Fs (Vq _ h.datas.1 h.datas.2 _ (by omega)) fun _=>Fs (Xx _ h.defs.1 h.defs.2 _ (by omega)) fun _=>OD
theorem Ss (x:TProgram) (h:x.sz≤Big):EE x=some x:=by
 unfold EE
 rw [Vr _ (by have:=h; simp only [TProgram.sz] at this; omega),AA]
 rw [Xy _ (by have:=h; simp only [TProgram.sz] at this; omega),AA]
 first|done|rfl
theorem Qd (x:TProgram) (h:x.sz≤Big):GA x x=some true:=by
 unfold GA
 exact Fk (Sq _ (by have:=h; simp only [TProgram.sz] at this; omega)) <| Fk (UV _ (by have:=h; simp only [TProgram.sz] at this; omega)) <| rfl
end Go.Proofs.YtaedfiifhjlmlaaGreat.Ab
