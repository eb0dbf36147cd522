/-
  Names that are bound, constructors that differ. No program is in sight.
-/
import Derived.Test.YtnfgeocnolheoaaGreatPlP
namespace Go.Proofs.YtnfgeocnolheoaaGreat.Ab
set_option linter.unusedVariables false
set_option maxHeartbeats 1000000
set_option linter.unusedSimpArgs false
open Go.RowKit
mutual
def Term.clT (D:ByteArray→Bool):Term→List ByteArray→Bool
 |⟨k,num,nm,ty,nms,ks⟩,b=>(!decide (k=1)||Id b nm||D nm)&&Term.clTs D ⟨k,num,nm,ty,nms,[]⟩ 0 ks b
def Term.clTs (D:ByteArray→Bool):Term→Nat→List Term→List ByteArray→Bool
 |_,_,[],_=>true
 |t,i,x::l,b=>Term.clT D x (b++Bk t i)&&Term.clTs D t (i+1) l b
end
theorem UW {D:ByteArray→Bool} {t u:Term} (h:∀i,Bk t i=Bk u i):∀ (l:List Term) (i:Nat) (b:List ByteArray),Term.clTs D t i l b=Term.clTs D u i l b
 | [],_,_=>by rw [Term.clTs,Term.clTs]
 |x::l,i,b=>by rw [Term.clTs,Term.clTs,h i,UW h l]
theorem Term.clT_eq (D:ByteArray→Bool) (t:Term) (b:List ByteArray):t.clT D b=((!decide (t.kind=1)||Id b t.name||D t.name)&&Term.clTs D t 0 t.kids b):=by
 obtain⟨k,num,nm,ty,nms,ks⟩:=t
 rw [Term.clT]
 congr 1
 exact UW (t:=⟨k,num,nm,ty,nms,[]⟩) (u:=⟨k,num,nm,ty,nms,ks⟩) (fun i=>rfl) ks 0 b
theorem Wi {D:ByteArray→Bool} (t:Term) (x:Term) (post:List Term) (b:List ByteArray):∀ (pre:List Term) (i:Nat),Term.clTs D t i (pre++x::post) b=true→x.clT D (b++Bk t (i+pre.length))=true
 | [],i,h=>by
  rw [List.nil_append,Term.clTs,Bool.and_eq_true] at h; grind
 |y::pre,i,h=>by
  rw [List.cons_append,Term.clTs,Bool.and_eq_true] at h
  have:=Wi t x post b pre (i+1) h.2
  rw [List.length_cons,show i+(pre.length+1)=i+1+pre.length from by omega]; omega
theorem Hc {D:ByteArray→Bool} {t x:Term} {pre post:List Term} {b:List ByteArray} (h:t.clT D b=true) (hh:t.kids=pre++x::post):x.clT D (b++Bk t pre.length)=true:=by
 rw [Term.clT_eq,Bool.and_eq_true,hh] at h
 have:=Wi t x post b pre 0 h.2
 rw [Nat.zero_add] at this; omega
theorem gJ {D:ByteArray→Bool} {t:Term} {b:List ByteArray} (h:t.clT D b=true) (h1:t.kind=1):Id b t.name=true∨D t.name=true:=by
 rw [Term.clT_eq,Bool.and_eq_true] at h
 grind
theorem dW (D:ByteArray→Bool) (t:Term) (b:List ByteArray):∀ (l:List Term) (i:Nat) (a:List ByteArray),(∀x ∈ l,∀b a,(∀s ∈ x.fr b a,D s=true)→(∀s ∈ a,D s=true)∧x.clT D b=true)→(∀s ∈ Term.frs t i l b a,D s=true)→(∀s ∈ a,D s=true)∧Term.clTs D t i l b=true
 | [],i,a,_,h=>by rw [Term.frs] at h; grind [Term.clTs]
 |x::l,i,a,ih,h=>by
  rw [Term.frs] at h
  have h1:=dW D t b l (i+1) _ (fun y hy=>ih y (by grind)) h
  have h2:=ih x (by simp) _ _ h1.1
  grind [Term.clTs]
theorem gz (D:ByteArray→Bool):∀t:Term,∀b a,(∀s ∈ t.fr b a,D s=true)→(∀s ∈ a,D s=true)∧t.clT D b=true:=by
 refine Term.ind fun t ih b a h=>?_
 rw [Term.fr_eq] at h
 have h1:=dW D t b t.kids 0 _ ih h
 grind [addV,Term.clT_eq,Id,C2]
theorem ZK {α β:Type} {f:α→β} {x y:α}:∀ {l:List α},(l.map f).Nodup →x ∈ l→y ∈ l→f x=f y→x=y
 |a::l,h,hx,hy,he=>by
  rw [List.map_cons,List.nodup_cons] at h
  rcases List.mem_cons.1 hx with e1|h1 <;> rcases List.mem_cons.1 hy with e2|h2
  ·rw [e1,e2]
  ·rw [e1] at he; grind
  ·rw [e2] at he; grind
  ·exact ZK h.2 h1 h2 he
theorem YF {α:Type} {l:List α} {x:α} (h:l.Nodup) (hx:x ∉ l):(l++[x]).Nodup :=by
 rw [List.nodup_append]
 grind
theorem Se {l:List Data} (seen:List ByteArray):∀ (cs pc:List Constructor),allp (okc l seen) pc cs=true→(seen++pc.map Constructor.name).Nodup →(seen++pc.map Constructor.name++cs.map Constructor.name).Nodup
 | [],pc,_,h=>by grind
 | c::cs,pc,ha,h=>by
  rw [allp,Bool.and_eq_true] at ha
  have h1:=ha.1
  unfold okc at h1
  rw [Bool.and_eq_true,Bool.not_eq_true'] at h1
  have hn:c.name ∉ seen++pc.map Constructor.name:=fun hm=>by
   grind [Bj]
  have h2:=YF h hn
  have:=Se seen cs (pc++[c]) ha.2 (by grind)
  grind
theorem Qr {l:List Data}:∀ (ds pre:List Data),allp (okd l) pre ds=true→(CQ pre).Nodup →(CQ (pre++ds)).Nodup
 | [],pre,_,h=>by grind
 |d::ds,pre,ha,h=>by
  rw [allp,Bool.and_eq_true] at ha
  have h1:=ha.1
  unfold okd at h1
  rw [Bool.and_eq_true] at h1
  have h2:=Se (l:=l) (CQ pre) d.cons [] h1.2 (by grind)
  have:=Qr ds (pre++[d]) ha.2 (by rw [LU]; grind)
  grind
theorem Wj {l:List Data} (h:Il l=true) {d:Data} {c:Constructor} (hd:d ∈ l) (hc:c ∈ d.cons):cHas l c.name=true∧cCon l c.name=c:=by
 unfold Il at h
 rw [Bool.and_eq_true] at h
 have hnd:=Qr l [] h.2 (by simp [CQ])
 rw [List.nil_append] at hnd
 have hn2:((l.flatMap Data.cons).map Constructor.name).Nodup :=by
  have:(l.flatMap Data.cons).map Constructor.name=CQ l:=by simp [CQ,List.map_flatMap]
  rw [this]; omega
 have hfound:∀ (l:List Data) (i:Nat),d ∈ l→(Hd c.name i l).isSome =true:=by
  intro l
  induction l with
  |nil=>grind
  |cons d' l ih=>
   grind [Hd,Bj]
 have hh:cHas l c.name=true:=hfound l 0 hd
 refine⟨hh,?_⟩
 obtain⟨i,j,d',c',h1,h2,h3,h4,h5,h6⟩:=dX hh
 obtain⟨i',j',g1,g2,g3,g4,g5⟩:=KL hh
 have e:cCon l c.name=c':=by
  rw [h1] at g1
  grind
 rw [e]
 exact ZK hn2 (List.mem_flatMap.2 ⟨d',h4,h5⟩) (List.mem_flatMap.2 ⟨d,hd,hc⟩) (C2.1 h6)
theorem NG {l:List Data} (h:Il l=true) {d:Data} (hd:d ∈ l):upB d.name=true∧Me d.name=false∧d.cons.length≤4∧∀c ∈ d.cons,conB l c=true:=by
 unfold Il at h
 rw [Bool.and_eq_true] at h
 obtain⟨pre,hp⟩:=Ky h.2 hd
 have hl:=U5 hp
 unfold okd at hp
 simp only [Bool.and_eq_true,Bool.not_eq_true',decide_eq_true_eq] at hp
 refine⟨hp.1.1.1.1.1,hp.1.1.1.1.2,hl.2,fun c hc=>?_⟩
 obtain⟨q,hq⟩:=Ky hp.2 hc
 grind [okc]
theorem Sf {l:List Data} {c:Constructor} (h:conB l c=true) {f:TType} (hf:f ∈ c.fields):f.okB=true:=by
 grind [conB,Mf]
theorem Sg {α:Type} (p:α→Bool) (x:α):∀r:List α,Kz p (r++[x])=if r.any p=true then Kz p r+1 else if p x=true then 0 else -1
 | [] =>by rfl
 |y::r=>by
  rw [List.cons_append,Kz,Kz,List.any_cons,Sg p x r]
  grind
theorem QC {α:Type} (p:α→Bool) (x:α) (l:List α):lidx p (x::l)=if l.any p=true then lidx p l+1 else if p x=true then 0 else -1:=by
 unfold lidx
 rw [List.reverse_cons,Sg,List.any_reverse]
theorem find_var (x:ByteArray):∀sc:List Binder,(Id (sc.map Binder.name) x=false∧findB sc x=none)∨(Id (sc.map Binder.name) x=true∧∃b ∈ sc,findB sc x=some b∧at? (sc.map Binder.typ) (lidx (fun k=>sameStr k x) (sc.map Binder.name))=some b.typ)
 | [] =>by grind [Id,findB]
 | b::sc=>by
  have ih:=find_var x sc
  simp only [List.map_cons]
  rcases ih with ⟨h1,h2⟩|⟨h1,c,h2,h3,h4⟩
  ·by_cases hb:sameStr b.name x=true
   ·right
    refine⟨by simp [Id,hb],b,by simp,by rw [findB,h2]; simp [hb],?_⟩
    rw [QC,if_neg (by unfold Id at h1; rw [h1]; simp),if_pos hb]
    simp [at?]
   ·left
    refine⟨by simp only [Id,List.any_cons] at h1 ⊢; rw [h1]; simpa using hb,by rw [findB,h2]; simp [hb]⟩
  ·right
   refine⟨by simp only [Id,List.any_cons] at h1 ⊢; rw [h1]; simp,c,by simp [h2],by rw [findB,h3],?_⟩
   unfold Id at h1
   rw [QC,if_pos h1]
   have:=Jc (fun k=>sameStr k x) (sc.map Binder.name)
   rw [h1] at this
   have h0:0≤lidx (fun k=>sameStr k x) (sc.map Binder.name):=by simpa using this
   rw [at?,if_pos h0] at h4
   rw [at?,if_pos (by omega),show (lidx (fun k=>sameStr k x) (sc.map Binder.name)+1).toNat =(lidx (fun k=>sameStr k x) (sc.map Binder.name)).toNat +1 from by omega,List.getElem?_cons_succ]
   exact h4
structure RelE (sc:List Binder) (env:L05Env):Prop where
 n:env.names=sc.map Binder.name
 t:env.types=sc.map Binder.typ
 l:env.levels.length=sc.length
theorem YG {sc:List Binder} {env:L05Env} (h:RelE sc env) (hl:sc.length+1≤Big) (nm:ByteArray) (T:TType) (lv lv':Int):∃e',F3 env nm T lv=some e'∧RelE (sc++[⟨nm,T,lv'⟩]) e':=by
 have h1:env.names.length=sc.length:=by rw [h.n]; simp
 have h2:env.types.length=sc.length:=by rw [h.t]; simp
 have h3:=h.l
 unfold F3
 rw [DC (by grind),AA,DC (by grind),AA,DC (by grind),AA,DC (by grind),AA,DC (by grind),AA,DC (by grind),AA]
 exact⟨_,rfl,⟨by simp [h.n],by simp [h.t],by grind⟩⟩
def b4 (T:TType):Prop:=T.kind=4→T.kids.length=1
theorem Sh {T:TType} (h:T.okB=true) {x:TType} (hx:x ∈ T.kids):x.okB=true:=by
 rw [TType.okB_eq,Bool.and_eq_true] at h
 grind
theorem nG {T:TType} (h:T.okB=true) (hk:T.kind=2):T.kids=[] :=by
 rw [TType.okB_eq,Bool.and_eq_true] at h
 grind [locT]
theorem nH {T:TType} (h:T.okB=true) (hk:T.kind=3):∃a b,T.kids=[a,b] :=by
 have h0:=h
 rw [TType.okB_eq,Bool.and_eq_true] at h
 have:=h.1; unfold locT at this; rw [hk] at this; simp at this
 obtain⟨a,l,e⟩:=List.exists_cons_of_ne_nil (l:=T.kids) (fun e=>by rw [e] at this; grind)
 obtain⟨b,l',e'⟩:=List.exists_cons_of_ne_nil (l:=l) (fun e'=>by rw [e,e'] at this; grind)
 have:l'=[] :=by rw [e,e'] at this; grind
 grind
theorem g6 {T:TType} (h:T.okB=true) (hk:T.kind=4):∃a,T.kids=[a] :=by
 rw [TType.okB_eq,Bool.and_eq_true] at h
 have:=h.1; unfold locT at this; rw [hk] at this; simp at this
 obtain⟨a,l,e⟩:=List.exists_cons_of_ne_nil (l:=T.kids) (fun e=>by rw [e] at this; grind)
 have:l=[] :=by rw [e] at this; grind
 grind
theorem QD {T:TType} (h:T.okB=true):b4 T:=fun hk=>by grind [g6]
theorem YH:U6 ByteArray.empty=true:=Bj _
theorem ZL:TType.okB ⟨1,ByteArray.empty,[]⟩=true:=by rw [TType.okB_eq]; simp [locT,YH]
theorem gK {A B:TType} (hA:A.okB=true) (hB:B.okB=true):TType.okB ⟨3,ByteArray.empty,[A,B]⟩=true:=by rw [TType.okB_eq]; grind [locT,YH]
theorem dY {A:TType} (hA:A.okB=true):TType.okB ⟨4,ByteArray.empty,[A]⟩=true:=by rw [TType.okB_eq]; simp [locT,YH,hA]
theorem dZ {s:ByteArray} (h1:upB s=true) (h2:Me s=false):TType.okB ⟨2,s,[]⟩=true:=by rw [TType.okB_eq]; grind [locT]
theorem TType.eta (t:TType):(⟨t.kind,t.name,t.kids⟩:TType)=t:=by cases t; rfl
theorem Term.eta (t:Term):(⟨t.kind,t.num,t.name,t.typ,t.names,t.kids⟩:Term)=t:=by cases t; rfl
theorem RZ {T x:TType} (hx:x ∈ T.kids):x.sz≤T.sz:=by
 have:=Ac (s:=TType.sz) hx
 have:=T.sz_eq
 omega
theorem Fh {t x:Term} (hx:x ∈ t.kids):x.sz+t.kids.length+t.typ.sz+t.name.size+t.names.length≤t.sz:=by
 have:=Ac (s:=Term.sz) hx
 have:=t.sz_eq
 omega
theorem He {t x:Term} (hx:x ∈ t.kids):x.dep+1≤t.dep:=by
 have h1:1≤t.dep:=by rw [Term.dep_eq]; grind [Term.one_le]
 grind [Term.deps_le,Term.dep_eq]
theorem UX {k:Int} (hk:k≠9):∀ (l pre:List Term),allp (GC k) pre l=true→∀x ∈ l,x.kind≠10
 |y::l,pre,h,x,hx=>by
  rw [allp,Bool.and_eq_true] at h
  rcases List.mem_cons.1 hx with e|hx
  ·have:=h.1; unfold GC at this; rw [e]; simpa [hk] using this
  ·exact UX hk l _ h.2 x hx
theorem Ie {t x:Term} (h:t.okS=true) (h9:t.kind≠9) (hx:x ∈ t.kids):x.kind≠10:=UX h9 _ _ (LV h).2.2 x hx
theorem QE {t:Term} (h:t.okS=true) (hk:t.kind=4∨t.kind=6∨t.kind=10):∃x,t.kids=[x] :=by
 have hl:=Hf h
 have:t.kids.length=1:=by
  rcases hk with hk|hk|hk <;> rw [hk] at hl
  ·have h1:(1:Int)≤t.kids.length:=hl.1
   have h2:(t.kids.length:Int)≤1:=hl.2
   omega
  ·have h1:(1:Int)≤t.kids.length:=hl.1
   have h2:(t.kids.length:Int)≤1:=hl.2
   omega
  ·have h1:(1:Int)≤t.kids.length:=hl.1
   have h2:(t.kids.length:Int)≤1:=hl.2
   omega
 grind [List.length_eq_one_iff]
theorem U7 {t:Term} (h:t.okS=true) (hk:t.kind=3∨t.kind=5∨t.kind=7):∃x y,t.kids=[x,y] :=by
 have hl:=Hf h
 have:t.kids.length=2:=by
  rcases hk with hk|hk|hk <;> rw [hk] at hl
  ·have h1:(2:Int)≤t.kids.length:=hl.1
   have h2:(t.kids.length:Int)≤2:=hl.2
   omega
  ·have h1:(2:Int)≤t.kids.length:=hl.1
   have h2:(t.kids.length:Int)≤2:=hl.2
   omega
  ·have h1:(2:Int)≤t.kids.length:=hl.1
   have h2:(t.kids.length:Int)≤2:=hl.2
   omega
 cases hk:t.kids with
 |nil=>rw [hk] at this; grind
 |cons x l=>
  rw [hk,List.length_cons] at this
  grind [List.length_eq_one_iff]
structure PCx (p:TProgram):Prop where
 z:p.sz≤1048576
 d:Il p.datas=true
 t:∀d ∈ p.defs,d.typ.okB=true
def Pr (p:TProgram) (t:Term):Prop:=t.sz≤1048576→t.kind≠10→t.okS=true→t.allT (nfL p.datas)=true→t.allT (ccL p.datas)=true→
 ∀ (e:Nat) (env:L05Env) (sc:List Binder) (lv lv':Int) (n m:Nat),RelE sc env→(∀b ∈ sc,b.typ.okB=true∧b.typ.sz≤e)→1048576≤e→e+4*t.sz+4≤100000000→sc.length+4*t.dep≤1000→
  t.clT (fHas p.defs) (sc.map Binder.name)=true→64*t.sz+64≤n→64*t.sz+64≤m→
  ∃T b nd,BQ n p t env lv=some (T,b)∧AM m ⟨p⟩ t sc lv'=some (nd,b)∧b4 T∧(b=true→nd.typ=T∧T.okB=true∧T.sz≤e+4*t.sz+4)
theorem OL {p:TProgram} {a1:Node} {sc:List Binder} {lv:Int} {x:Term} {nd:Node} {b:Bool} {m:Nat} (h:at? a1.term.kids (a1.kids.length:Int)=some x) (hn:AM m ⟨p⟩ x sc lv=some (nd,b)) (hl:a1.kids.length+1≤Big):
  B6 (m+1) ⟨p⟩ a1 sc lv=some (nd.typ,b,⟨a1.term,a1.typ,a1.level,a1.kids++[nd],a1.binds,none⟩):=by
 rw [B6,h,AA,hn,AA,DC (by omega),AA]
theorem jP {p:TProgram} (h:PCx p) {d:Def} (hd:d ∈ p.defs):d.typ.sz≤1048576:=by
 have hz:=h.z
 unfold TProgram.sz at hz
 have hds:=Ac (s:=Def.sz) hd
 have hdz:d.sz=d.name.size+(d.typ.sz+(d.body.sz+0)):=rfl
 omega
theorem jQ {p:TProgram} (hc:PCx p) {t:Term} (h1:t.kind=1):Pr p t:=by
 intro htz h10 ho hn hcc e env sc lv lv' n m hR hE he1 he2 hd hcl hfn hfm
 have hz:=hc.z
 unfold TProgram.sz at hz
 have hB:Big=4294967296:=rfl
 have hfl:=AZ Def.sz p.defs
 obtain⟨n,rfl⟩:∃k,n=k+1:=⟨n - 1,by omega⟩
 obtain⟨m,rfl⟩:∃k,m=k+1:=⟨m - 1,by omega⟩
 rw [BQ,if_pos (by grind),AM,if_pos (by grind),hR.n,Ra _ _ (by grind),AA,Ex]
 have hsf:Ha sc t.name=some (findB sc t.name):=if_pos (by omega)
 simp only []
 rw [hsf,AA]
 rcases find_var t.name sc with ⟨f1,f2⟩|⟨f1,b,f2,f3,f4⟩
 ·have hD:fHas p.defs t.name=true:=by
   grind [gJ]
  obtain⟨d,d1,_,d2⟩:=ZM (l:=p.defs) (p:=fun d:Def=>sameStr d.name t.name) hD
  have hneg:¬ (decide (0≤lidx (fun k=>sameStr k t.name) (sc.map Binder.name))=true):=by
   rw [Jc]; grind [Id]
  rw [if_neg hneg,KM p.defs _ (by omega),AA,f2,TV,LW p _ (by omega),AA]
  have d1':at? p.defs (fIdx p.defs t.name)=some d:=d1
  simp only [d1',AA,AN]
  exact⟨_,_,_,rfl,rfl,QD (hc.t d d2),fun _=>⟨TType.eta _,hc.t d d2,by grind [jP]⟩⟩
 ·have hpos:decide (0≤lidx (fun k=>sameStr k t.name) (sc.map Binder.name))=true:=by
   rw [Jc]; exact f1
  rw [if_pos hpos,hR.t,f4,AA,f3,TV]
  simp only [AA,AN]
  grind [QD,TType.eta]
theorem jR {p:TProgram} {t:Term} (h2:t.kind=2):Pr p t:=by
 intro htz h10 ho hn hcc e env sc lv lv' n m hR hE he1 he2 hd hcl hfn hfm
 obtain⟨n,rfl⟩:∃k,n=k+1:=⟨n - 1,by omega⟩
 obtain⟨m,rfl⟩:∃k,m=k+1:=⟨m - 1,by omega⟩
 rw [BQ,if_neg (by grind),if_pos (by grind),AM,if_neg (by grind),if_pos (by grind)]
 simp only [Kr,JI,AA,AN]
 refine⟨_,_,_,rfl,rfl,fun h=>by grind,fun _=>⟨rfl,ZL,?_⟩⟩
 rw [TType.sz_eq]
 show 0+(0+0)≤_
 omega
theorem dc {sc:List Binder} {e e':Nat} {b:Binder} (hE:∀b ∈ sc,b.typ.okB=true∧b.typ.sz≤e) (he:e≤e') (hb:b.typ.okB=true∧b.typ.sz≤e'):∀c ∈ sc++[b],c.typ.okB=true∧c.typ.sz≤e':=by
 grind
theorem jS {p:TProgram} (hc:PCx p) {t:Term} (h4:t.kind=4) (ih:∀x ∈ t.kids,Pr p x):Pr p t:=by
 intro htz h10 ho hn hcc e env sc lv lv' n m hR hE he1 he2 hd hcl hfn hfm
 have hB:Big=4294967296:=rfl
 obtain⟨x,hk⟩:=QE ho (Or.inl h4)
 have hx:x ∈ t.kids:=by rw [hk]; simp
 have hsz:=Fh hx
 have hdep:=He hx
 obtain⟨n,rfl⟩:∃k,n=k+1:=⟨n - 1,by omega⟩
 obtain⟨m,rfl⟩:∃k,m=k+2:=⟨m - 2,by omega⟩
 have hkl:1≤t.kids.length:=by rw [hk]; simp
 obtain⟨e',ha,hR'⟩:=YG hR (by omega) t.name t.typ lv lv'
 have hty:=Mf (U8 ho h4)
 have hts:=t.sz_eq
 obtain⟨T,b,nd,q1,q2,q3,q4⟩:=ih x hx (by omega) (Ie ho (by omega) hx) (Ei ho hx) (BR hn hx) (BR hcc hx) e e' (sc++[⟨t.name,t.typ,lv'⟩]) lv lv' n m hR'
  (dc hE (Nat.le_refl _) ⟨hty,by grind⟩) he1 (by omega) (by grind)
  (by have:=Hc (pre:=[]) hcl hk; grind [Bk]) (by omega) (by omega)
 have hw:DH sc [⟨t.name,t.typ,lv'⟩] =some (sc++[⟨t.name,t.typ,lv'⟩]):=if_pos (by grind)
 have hkd:=OL (p:=p) (a1:=⟨t,⟨0,ByteArray.empty,[]⟩,lv',[],[⟨t.name,t.typ,lv'⟩],none⟩) (sc:=sc++[⟨t.name,t.typ,lv'⟩]) (lv:=lv') (x:=x) (nd:=nd) (b:=b) (m:=m) (by rw [hk]; rfl) q2 (by grind)
 rw [BQ,if_neg (by grind),if_neg (by grind),if_pos (by grind),hk,show at? [x] 0=some x from rfl,AA,ha,AA,q1,AA,O9,AA,
  AM,if_neg (by grind),if_neg (by grind),if_pos (by grind),hw,AA,hkd,AA,FX,Ku,AA,AN]
 refine⟨_,_,_,rfl,rfl,fun h=>by grind,fun hb=>?_⟩
 obtain⟨r1,r2,r3⟩:=q4 hb
 refine⟨by grind,gK hty r2,?_⟩
 rw [TType.sz_eq]
 simp only [szl]
 have:(ByteArray.empty).size =0:=rfl
 omega
theorem jT {p:TProgram} (hc:PCx p) {t:Term} (h6:t.kind=6) (ih:∀x ∈ t.kids,Pr p x):Pr p t:=by
 intro htz h10 ho hn hcc e env sc lv lv' n m hR hE he1 he2 hd hcl hfn hfm
 have hB:Big=4294967296:=rfl
 obtain⟨x,hk⟩:=QE ho (Or.inr (Or.inl h6))
 have hx:x ∈ t.kids:=by rw [hk]; simp
 have hsz:=Fh hx
 have hdep:=He hx
 obtain⟨n,rfl⟩:∃k,n=k+1:=⟨n - 1,by omega⟩
 obtain⟨m,rfl⟩:∃k,m=k+2:=⟨m - 2,by omega⟩
 have hkl:1≤t.kids.length:=by rw [hk]; simp
 obtain⟨T,b,nd,q1,q2,q3,q4⟩:=ih x hx (by omega) (Ie ho (by omega) hx) (Ei ho hx) (BR hn hx) (BR hcc hx) e env sc (IntKind.i64.wrap (lv+1)) (IntKind.i64.wrap (lv'+1)) n m hR
  hE he1 (by omega) (by omega)
  (by have:=Hc (pre:=[]) hcl hk; grind [Bk]) (by omega) (by omega)
 have hkd:=OL (p:=p) (a1:=⟨t,⟨0,ByteArray.empty,[]⟩,lv',[],[],none⟩) (sc:=sc) (lv:=IntKind.i64.wrap (lv'+1)) (x:=x) (nd:=nd) (b:=b) (m:=m) (by rw [hk]; rfl) q2 (by grind)
 rw [BQ,if_neg (by grind),if_neg (by grind),if_neg (by grind),if_pos (by grind),hk,show at? [x] 0=some x from rfl,AA,q1,AA,ND,AA,
  AM,if_neg (by grind),if_neg (by grind),if_neg (by grind),if_pos (by grind),hkd,AA,Jb,AA,AN]
 refine⟨_,_,_,rfl,rfl,fun h=>rfl,fun hb=>?_⟩
 obtain⟨r1,r2,r3⟩:=q4 hb
 refine⟨by grind,dY r2,?_⟩
 rw [TType.sz_eq]
 simp only [szl]
 have:(ByteArray.empty).size =0:=rfl
 omega
theorem jU {p:TProgram} (hc:PCx p) {t:Term} (h7:t.kind=7) (ih:∀x ∈ t.kids,Pr p x):Pr p t:=by
 intro htz h10 ho hn hcc e env sc lv lv' n m hR hE he1 he2 hd hcl hfn hfm
 have hB:Big=4294967296:=rfl
 obtain⟨x,y,hk⟩:=U7 ho (Or.inr (Or.inr h7))
 have hx:x ∈ t.kids:=by rw [hk]; simp
 have hy:y ∈ t.kids:=by rw [hk]; simp
 have hsz:=Fh hx
 have hdep:=He hx
 have hsy:=Fh hy
 have hdy:=He hy
 have hkl:2≤t.kids.length:=by rw [hk]; simp
 have hxy:x.sz+y.sz+2≤t.sz:=by have:=t.sz_eq; rw [hk] at this; grind [szl]
 obtain⟨n,rfl⟩:∃k,n=k+2:=⟨n - 2,by omega⟩
 obtain⟨m,rfl⟩:∃k,m=k+6:=⟨m - 6,by omega⟩
 obtain⟨T,b,nd,q1,q2,q3,q4⟩:=ih x hx (by omega) (Ie ho (by omega) hx) (Ei ho hx) (BR hn hx) (BR hcc hx) e env sc lv lv' (n+1) (m+3) hR
  hE he1 (by omega) (by omega)
  (by have:=Hc (pre:=[]) hcl hk; grind [Bk]) (by omega) (by omega)
 have hkd:=OL (p:=p) (a1:=⟨t,⟨0,ByteArray.empty,[]⟩,lv',[],[],none⟩) (sc:=sc) (lv:=lv') (x:=x) (nd:=nd) (b:=b) (m:=m+3) (by rw [hk]; rfl) q2 (by grind)
 rw [BQ,if_neg (by grind),if_neg (by grind),if_neg (by grind),if_neg (by grind),if_pos (by grind),hk,show at? [x,y] 0=some x from rfl,AA,q1,AA]
 rw [AM,if_neg (by grind),if_neg (by grind),if_neg (by grind),if_neg (by grind),if_pos (by grind),F9]
 simp only []
 simp only [List.nil_append] at hkd
 rw [hkd,AA,Ey]
 have body:∀A:TType,A.okB=true→A.sz≤e+4*x.sz+4→∀lvl:Int,∃T2 b2 nd2,Dk (n+1) p t env lv (A,true) false=some (T2,b2)∧
   CP (m+2) ⟨p⟩ ⟨t,⟨0,ByteArray.empty,[]⟩,lv',[],[],none⟩ sc (nd.typ,b,⟨t,⟨0,ByteArray.empty,[]⟩,lv',[nd],[],none⟩) A.kind A.name A.kids lvl=some (b2,nd2)∧b4 T2∧(b2=true→nd2.typ=T2∧T2.okB=true∧T2.sz≤e+4*t.sz+4):=by
  intro A hA1 hA2 lvl
  obtain⟨e',ha,hR'⟩:=YG hR (by omega) t.name A lv lvl
  obtain⟨T2,b2,nd2,p1,p2,p3,p4⟩:=ih y hy (by omega) (Ie ho (by omega) hy) (Ei ho hy) (BR hn hy) (BR hcc hy) (e+4*x.sz+4) e' (sc++[⟨t.name,A,lvl⟩]) lv lv' n m hR'
   (dc hE (by omega) ⟨hA1,hA2⟩) (by omega) (by omega) (by grind)
   (by have:=Hc (pre:=[x]) hcl hk; grind [Bk]) (by omega) (by omega)
  have hw:DH sc [⟨t.name,A,lvl⟩] =some (sc++[⟨t.name,A,lvl⟩]):=if_pos (by grind)
  have hkd2:=OL (p:=p) (a1:=⟨t,⟨0,ByteArray.empty,[]⟩,lv',[nd],[⟨t.name,A,lvl⟩],none⟩) (sc:=sc++[⟨t.name,A,lvl⟩]) (lv:=lv') (x:=y) (nd:=nd2) (b:=b2) (m:=m) (by rw [hk]; rfl) p2 (by grind)
  rw [Dk,if_neg (by simp),hk,show at? [x,y] 1=some y from rfl,AA]
  grind [CP,TType.eta,Term.eta]
 cases hb:b with
 | false=>
  have hbd:∃v,Ct T=some v:=by
   unfold Ct
   by_cases k4:T.kind=4
   ·obtain⟨A,hA⟩:=List.length_eq_one_iff.1 (q3 k4)
    rw [if_pos (by grind),hA]; exact⟨_,rfl⟩
   grind
  obtain⟨v,hv⟩:=hbd
  rw [hv,AA,if_pos (by rfl),Dk,if_pos rfl,if_pos (by rfl),BB,if_pos rfl,AA,AN]
  exact⟨_,_,_,rfl,rfl,fun h=>by grind,fun h=>by cases h⟩
 | true=>
  obtain⟨r1,r2,r3⟩:=q4 hb
  rw [hb] at body
  have hnt:nd.typ.kind=T.kind:=by rw [r1]
  by_cases k4:T.kind=4
  ·obtain⟨A,hA⟩:=g6 r2 k4
   have hAm:A ∈ T.kids:=by rw [hA]; simp
   have hAs:=RZ hAm
   obtain⟨T2,b2,nd2,g1,g2,g3,g4⟩:=body A (Sh r2 hAm) (by omega) (IntKind.i64.wrap (lv'+1))
   have hv:Ct T=some (A,true):=by unfold Ct; rw [if_pos (by grind),hA]; rfl
   rw [hv,AA,if_neg (by simp)]
   simp only [Bool.not_true]
   rw [g1,if_neg (by simp),if_pos (by rw [hnt,k4]; rfl),BB]
   rw [if_neg (by rw [hnt,k4]; simp),if_pos (by rw [hnt,k4]; rfl),r1,hA,show at? [A] 0=some A from rfl,AA]
   grind [AN,TType.eta]
  ·by_cases k1:T.kind=1
   ·obtain⟨T2,b2,nd2,g1,g2,g3,g4⟩:=body T r2 (by omega) lv'
    have hv:Ct T=some (T,true):=by unfold Ct; rw [if_neg (by grind),if_pos (by grind)]
    rw [hv,AA,if_neg (by simp)]
    grind [BB,AN,TType.eta]
   ·have hv:Ct T=some (⟨0,ByteArray.empty,[]⟩,false):=by unfold Ct; rw [if_neg (by grind),if_neg (by grind)]
    rw [hv,AA,if_neg (by simp)]
    simp only [Bool.not_false]
    rw [Dk,if_pos rfl,if_neg (by simp),if_pos (by rw [hnt]; grind),BB,if_pos (by rw [hnt]; grind),AA,AN]
    exact⟨_,_,_,rfl,rfl,fun h=>by grind,fun h=>by cases h⟩
theorem kinds_loop {p:TProgram} {t:Term} (htz:t.sz≤1048576) (ih:∀x ∈ t.kids,Pr p x) (h9:t.kind≠9) (hb0:∀i,Bk t i=[]) (ho:t.okS=true) (hn:t.allT (nfL p.datas)=true) (hcc:t.allT (ccL p.datas)=true)
  {e:Nat} {env:L05Env} {sc:List Binder} {lv lv':Int} (hR:RelE sc env) (hE:∀b ∈ sc,b.typ.okB=true∧b.typ.sz≤e) (he1:1048576≤e) (he2:e+4*t.sz+4≤100000000) (hd:sc.length+4*t.dep≤1000)
  (hcl:t.clT (fHas p.defs) (sc.map Binder.name)=true):
  ∀ (post pre:List Term) (tys:List TType) (nk:List Node) (n m:Nat),t.kids=pre++post→tys.length=pre.length→nk.length=pre.length→(∀T ∈ tys,T.okB=true∧T.sz≤e+4*t.sz)→64*t.sz+4+2*post.length≤n→64*t.sz+4+2*post.length≤m→
  (∃nd,Bu n p t env lv tys (pre.length:Int)=some (⟨0,ByteArray.empty,[]⟩,false)∧Aa m ⟨p⟩ ⟨t,⟨0,ByteArray.empty,[]⟩,lv',[],[],none⟩ sc t.kind t.num t.name t.typ.kind t.typ.name 0 ByteArray.empty lv' nk tys (pre.length:Int)=some (false,nd))∨
  (∃tys' nk' n' m',tys'.length=t.kids.length∧(∀T ∈ tys',T.okB=true∧T.sz≤e+4*t.sz)∧Bu n p t env lv tys (pre.length:Int)=Bu (n'+1) p t env lv tys' (t.kids.length:Int)∧
   Aa m ⟨p⟩ ⟨t,⟨0,ByteArray.empty,[]⟩,lv',[],[],none⟩ sc t.kind t.num t.name t.typ.kind t.typ.name 0 ByteArray.empty lv' nk tys (pre.length:Int)=Aa (m'+1) ⟨p⟩ ⟨t,⟨0,ByteArray.empty,[]⟩,lv',[],[],none⟩ sc t.kind t.num t.name t.typ.kind t.typ.name 0 ByteArray.empty lv' nk' tys' (t.kids.length:Int)):=by
 have hB:Big=4294967296:=rfl
 intro post
 induction post with
 |nil=>
  intro pre tys nk n m hk h1 h2 h3 hfn hfm
  right
  rw [List.append_nil] at hk
  exact⟨tys,nk,n - 1,m - 1,by rw [hk]; exact h1,h3,by rw [← hk,show n - 1+1=n from by omega],by rw [← hk,show m - 1+1=m from by omega]⟩
 | cons x post ihp=>
  intro pre tys nk n m hk h1 h2 h3 hfn hfm
  rw [List.length_cons] at hfn hfm
  obtain⟨n,rfl⟩:∃k,n=k+1:=⟨n - 1,by omega⟩
  obtain⟨m,rfl⟩:∃k,m=k+2:=⟨m - 2,by omega⟩
  have hx:x ∈ t.kids:=BE hk
  have hsz:=Fh hx
  have hdep:=He hx
  have hkl:pre.length+1≤t.kids.length:=by rw [hk]; simp
  obtain⟨T,b,nd,q1,q2,q3,q4⟩:=ih x hx (by omega) (Ie ho h9 hx) (Ei ho hx) (BR hn hx) (BR hcc hx) e env sc lv lv' n m hR
   hE he1 (by omega) (by omega)
   (by have:=Hc hcl hk; rw [hb0,List.append_nil] at this; omega) (by omega) (by omega)
  have hkd:=OL (p:=p) (a1:=⟨t,⟨0,ByteArray.empty,[]⟩,lv',nk,[],none⟩) (sc:=sc) (lv:=lv') (x:=x) (nd:=nd) (b:=b) (m:=m) (by grind [AY]) q2 (by grind)
  have es:Bu (n+1) p t env lv tys (pre.length:Int)=if b=true then Bu n p t env lv (tys++[T]) ((List.length (pre++[x]):Nat):Int) else some (⟨0,ByteArray.empty,[]⟩,false):=by
   rw [Bu,if_pos (Ah hk),AY hk,AA,q1,AA,DC (by grind),AA,AP hk (by omega)]
   cases b <;> simp
  have ei:Aa (m+2) ⟨p⟩ ⟨t,⟨0,ByteArray.empty,[]⟩,lv',[],[],none⟩ sc t.kind t.num t.name t.typ.kind t.typ.name 0 ByteArray.empty lv' nk tys (pre.length:Int)=
    if b=true then Aa m ⟨p⟩ ⟨t,⟨0,ByteArray.empty,[]⟩,lv',[],[],none⟩ sc t.kind t.num t.name t.typ.kind t.typ.name 0 ByteArray.empty lv' (nk++[nd]) (tys++[nd.typ]) ((List.length (pre++[x]):Nat):Int) else some (false,⟨t,⟨0,ByteArray.empty,[]⟩,lv',nk++[nd],[],none⟩):=by
   rw [Aa,if_pos (Ah hk)]
   simp only [TType.eta,Term.eta]
   rw [hkd,AA,D1]
   simp only [TType.eta,Term.eta]
   rw [DC (by grind),AA,AP hk (by omega)]
   cases b <;> simp
  cases hb:b with
  |false=>
   grind
  | true=>
   obtain⟨r1,r2,r3⟩:=q4 hb
   rw [hb,if_pos rfl] at es ei
   rw [es,ei,r1]
   exact ihp (pre++[x]) (tys++[T]) (nk++[nd]) n m (by rw [hk]; simp) (by simp [h1]) (by simp [h2]) (fun U hU=>by
    rcases List.mem_append.1 hU with h|h
    ·grind
    grind [List.mem_singleton]) (by omega) (by omega)
theorem aa {l:List TType} {k:Nat} (h:∀x ∈ l,x.sz≤k):szl TType.sz l≤l.length*(k+1):=by
 induction l with
 |nil=>simp [szl]
 |cons x l ih=>
  grind [szl,Nat.add_mul]
theorem PB {p:TProgram} (hc:PCx p) {t:Term} (hkd:t.kind=3∨t.kind=5∨t.kind=8∨t.kind=11) (ih:∀x ∈ t.kids,Pr p x):Pr p t:=by
 intro htz h10 ho hn hcc e env sc lv lv' n m hR hE he1 he2 hd hcl hfn hfm
 have hB:Big=4294967296:=rfl
 have hkl:t.kids.length≤3:=by
  have:=(Hf ho).2
  have h3:kHi t.kind≤3:=by rcases hkd with h|h|h|h <;> rw [h] <;> decide
  omega
 have hb0:∀i,Bk t i=[] :=fun i=>by
  unfold Bk; rcases hkd with h|h|h|h <;> simp [h]
 obtain⟨n,rfl⟩:∃k,n=k+1:=⟨n - 1,by omega⟩
 obtain⟨m,rfl⟩:∃k,m=k+2:=⟨m - 2,by omega⟩
 have k1:t.kind≠1:=by omega
 have k2:t.kind≠2:=by omega
 have k4:t.kind≠4:=by omega
 have k6:t.kind≠6:=by omega
 have k7:t.kind≠7:=by omega
 have k9:t.kind≠9:=by omega
 rw [BQ,if_neg (by grind),if_neg (by grind),if_neg (by grind),if_neg (by grind),if_neg (by grind),if_neg (by grind)]
 rw [AM,if_neg (by grind),if_neg (by grind),if_neg (by grind),if_neg (by grind),if_neg (by grind),if_neg (by grind),Eb]
 simp only []
 rcases kinds_loop htz ih k9 hb0 ho hn hcc (lv:=lv) (lv':=lv') hR hE he1 he2 hd hcl t.kids [] [] [] n m rfl rfl rfl (by simp) (by omega) (by omega) with ⟨nd,e1,e2⟩|⟨tys,nk,n',m',e1,e2,e3,e4⟩
 ·rw [List.length_nil] at e1 e2
  have e1':Bu n p t env lv [] 0=_:=e1
  have e2':Aa m ⟨p⟩ ⟨t,⟨0,ByteArray.empty,[]⟩,lv',[],[],none⟩ sc t.kind t.num t.name t.typ.kind t.typ.name 0 ByteArray.empty lv' [] [] 0=_:=e2
  rw [e1',e2',AA,AN]
  exact⟨_,_,_,rfl,rfl,fun h=>by grind,fun h=>by cases h⟩
 ·rw [List.length_nil] at e3 e4
  have e3':Bu n p t env lv [] 0=_:=e3
  have e4':Aa m ⟨p⟩ ⟨t,⟨0,ByteArray.empty,[]⟩,lv',[],[],none⟩ sc t.kind t.num t.name t.typ.kind t.typ.name 0 ByteArray.empty lv' [] [] 0=_:=e4
  have hcond:¬ (decide ((t.kids.length:Int)<(t.kids.length:Int))=true):=by simp
  rw [e3',e4',Bu,if_neg hcond,Aa,if_neg hcond]
  have qp:∀k:Int,t.kind=k→decide (t.kind=k)=true:=fun k h=>by simp [h]
  have qn:∀k:Int,t.kind≠k→¬ (decide (t.kind=k)=true):=fun k h=>by simp [h]
  simp only [TType.eta,Term.eta]
  have hbig:∀T ∈ tys,T.sz≤Big:=fun T hT=>by grind
  rcases hkd with h|h|h|h
  · -- operations
   have hl2:tys.length=2:=by grind [U7]
   obtain⟨A,B,hAB⟩:∃A B,tys=[A,B] :=by
    cases tys with
    |nil=>grind
    |cons A l=>
     rw [List.length_cons] at hl2
     grind [List.length_eq_one_iff]
   rw [if_pos (qp 3 h),if_pos (qp 3 h),hAB,show at? [A,B] 0=some A from rfl,show at? [A,B] 1=some B from rfl,Kr,JI]
   simp only [AA]
   by_cases hA:A.kind=1
   ·have hAq:decide (A.kind=1)=true:=by grind
    rw [if_pos hAq,if_pos hAq,AA,AN]
    exact⟨_,_,_,rfl,rfl,fun h=>by grind,fun _=>⟨rfl,ZL,by rw [TType.sz_eq]; simp [szl]⟩⟩
   ·have hAq:¬ (decide (A.kind=1)=true):=by grind
    rw [if_neg hAq,if_neg hAq,AA,AN]
    exact⟨_,_,_,rfl,rfl,fun h=>by grind,fun h=>by cases h⟩
  · -- calls
   have hl2:tys.length=2:=by grind [U7]
   obtain⟨A,B,hAB⟩:∃A B,tys=[A,B] :=by
    cases tys with
    |nil=>grind
    |cons A l=>
     rw [List.length_cons] at hl2
     grind [List.length_eq_one_iff]
   have hA:=e2 A (by rw [hAB]; simp)
   have hBt:=e2 B (by rw [hAB]; simp)
   rw [if_neg (qn 3 (by omega)),if_neg (qn 3 (by omega)),if_pos (qp 5 h),if_pos (qp 5 h),hAB,show at? [A,B] 0=some A from rfl,show at? [A,B] 1=some B from rfl]
   simp only [AA]
   by_cases hA3:A.kind=3
   ·obtain⟨a,b,hk⟩:=nH hA.1 hA3
    have ham:a ∈ A.kids:=by rw [hk]; simp
    have hbm:b ∈ A.kids:=by rw [hk]; simp
    have has:=RZ ham
    have hbs:=RZ hbm
    have hAq:¬ ((!decide (A.kind=3))=true):=by grind
    rw [if_neg hAq,if_neg hAq,hk,show at? [a,b] 0=some a from rfl]
    simp only [AA]
    rw [K0 a (by omega) B fuel (EC (by omega)),H8 a (by omega) B fuel (EC (by omega))]
    simp only [AA,GT,Cf]
    by_cases hs:a=B
    ·rw [if_neg (by grind),if_neg (by grind),show at? [A,B] 0=some A from rfl]
     simp only [AA]
     rw [hk,show at? [a,b] 1=some b from rfl]
     simp only [AA,AN]
     grind [QD,Sh,TType.eta]
    ·rw [if_pos (by grind),if_pos (by grind)]
     simp only [AA,AN]
     exact⟨_,_,_,rfl,rfl,fun h=>by grind,fun h=>by cases h⟩
   ·have hAq:(!decide (A.kind=3))=true:=by grind
    rw [if_pos hAq,if_pos hAq]
    simp only [GT,Cf,if_true,AA,AN]
    exact⟨_,_,_,rfl,rfl,fun h=>by grind,fun h=>by cases h⟩
  · -- constructors
   have hz:=hc.z
   unfold TProgram.sz at hz
   have hcon:=OM (I2 hn) (Or.inl h)
   obtain⟨i,j,f1,f2,f3,f4,f5⟩:=KL hcon
   have hdc:=NG hc.d f4
   have hds:=Ac (s:=Data.sz) f4
   have hdz:(cDat p.datas t.name).name.size ≤(cDat p.datas t.name).sz :=by grind [Data.sz]
   have hszl:=aa (l:=tys) (k:=e+4*t.sz) fun T hT=>(e2 T hT).2
   have hszl2:szl TType.sz tys≤Big:=by
    have h3:tys.length*(e+4*t.sz+1)≤3*(e+4*t.sz+1):=Nat.mul_le_mul_right _ (by omega)
    omega
   rw [if_neg (qn 3 (by omega)),if_neg (qn 3 (by omega)),if_neg (qn 5 (by omega)),if_neg (qn 5 (by omega)),if_neg (qn 11 (by omega)),if_pos (qp 8 h),Jd p.datas (by omega),K1 p.datas (by omega),f1]
   simp only [cRes,AA,f2,f3,U3,H7]
   rw [Si tys _ hszl2,Wl tys _ (by omega) _ (fun x hx y=>H8 x (hbig x hx) y fuel (EC (hbig x hx)))]
   simp only [AA,AN]
   refine⟨_,_,_,rfl,rfl,fun h=>by grind,fun _=>⟨rfl,dZ hdc.1 hdc.2.1,?_⟩⟩
   rw [TType.sz_eq]
   grind [szl]
  · -- choices
   have hl3:tys.length=3:=by
    have h1:=(Hf ho).1
    have h2:=(Hf ho).2
    rw [h] at h1 h2
    have h1':(3:Int)≤t.kids.length:=h1
    omega
   obtain⟨A,B,C,hAB⟩:∃A B C,tys=[A,B,C] :=by
    cases tys with
    |nil=>grind
    | cons A l=>
     cases l with
     |nil=>grind
     |cons B l=>
      grind [List.length_eq_one_iff]
   have hBt:=e2 B (by rw [hAB]; simp)
   rw [if_neg (qn 3 (by omega)),if_neg (qn 3 (by omega)),if_neg (qn 5 (by omega)),if_neg (qn 5 (by omega)),if_pos (qp 11 h),if_neg (qn 8 (by omega)),hAB,show at? [A,B,C] 0=some A from rfl,show at? [A,B,C] 1=some B from rfl,show at? [A,B,C] 2=some C from rfl]
   simp only [AA]
   by_cases hA:A.kind=1
   ·have hAq:decide (A.kind=1)=true:=by grind
    rw [if_pos hAq,if_pos hAq,K0 B (by omega) C fuel (EC (by omega)),H8 B (by omega) C fuel (EC (by omega))]
    simp only [AA,AN]
    grind [QD,TType.eta]
   ·have hAq:¬ (decide (A.kind=1)=true):=by grind
    rw [if_neg hAq,if_neg hAq]
    simp only [AA,AN]
    grind [QD]
def bsOf (lv:Int):List ByteArray→List TType→List Binder
 |x::l,f::m=>⟨x,f,lv⟩::bsOf lv l m
 |_,_=>[]
theorem Sj (lv:Int):∀ (l:List ByteArray) (m:List TType),l.length=m.length→(bsOf lv l m).length =l.length
 | [],[],_=>rfl
 |x::l,f::m,h=>by simp only [bsOf,List.length_cons]; rw [Sj lv l m (by grind)]
theorem ON (lv:Int):∀ (l:List ByteArray) (m:List TType),l.length=m.length→(bsOf lv l m).map Binder.name=l
 | [],[],_=>rfl
 |x::l,f::m,h=>by simp only [bsOf,List.map_cons]; rw [ON lv l m (by grind)]
theorem Sk (lv:Int):∀ (l:List ByteArray) (m:List TType) (b:Binder),b ∈ bsOf lv l m→b.typ ∈ m
 |x::l,f::m,b,h=>by
  rcases List.mem_cons.1 h with rfl|h
  ·simp
  ·exact List.mem_cons_of_mem _ (Sk lv l m b h)
 | [],_,b,h=>by grind [bsOf]
 |_::_,[],b,h=>by grind [bsOf]
theorem Wm {p:TProgram} {x:Term} {lv lv':Int} {ij:Int × Int} {d:Data} {c:Constructor} (h1:at? p.datas ij.1 =some d) (h2:at? d.cons ij.2 =some c):
  ∀ (post:List ByteArray) (qf:List TType) (pre:List ByteArray) (pf:List TType) (n:Nat) (sc:List Binder) (env:L05Env),x.names=pre++post→c.fields=pf++qf→pre.length=pf.length→post.length=qf.length→RelE sc env→sc.length+post.length≤100000→x.names.length≤100000→post.length+1≤n→
  ∃e',Cy n p x lv ij env.names env.types env.levels (pre.length:Int)=some e'∧RelE (sc++bsOf lv' post qf) e':=by
 have hB:Big=4294967296:=rfl
 intro post
 induction post with
 |nil=>
  intro qf pre pf n sc env g1 g2 g3 g4 hR hs hx hn
  obtain⟨n,rfl⟩:∃k,n=k+1:=⟨n - 1,by omega⟩
  rw [Cy,if_neg (by rw [g1]; simp)]
  grind [bsOf]
 | cons y post ih=>
  intro qf pre pf n sc env g1 g2 g3 g4 hR hs hx hn
  cases qf with
  |nil=>grind
  |cons f qf=>
   simp only [List.length_cons] at hs hn g4
   obtain⟨n,rfl⟩:∃k,n=k+1:=⟨n - 1,by omega⟩
   obtain⟨e',ha,hR'⟩:=YG hR (by omega) y f lv lv'
   rw [Cy,if_pos (Ah g1),AY g1,AA,h1,AA,h2,AA,g3,AY g2,AA,← g3]
   have hee:(⟨env.names,env.types,env.levels⟩:L05Env)=env:=by rfl
   rw [hee,ha,AA,AP g1 (by omega)]
   obtain⟨e2,q1,q2⟩:=ih qf (pre++[y]) (pf++[f]) n (sc++[⟨y,f,lv'⟩]) e' (by rw [g1]; simp) (by rw [g2]; simp) (by grind) (by omega) hR' (by grind) hx (by omega)
   grind [bsOf]
theorem Qs {p:TProgram} {a1:Node} {sc:List Binder} {k9:Int} {nm9:ByteArray} {ks9:List TType} {nk9:List Node} {q9:Int} {v:TType × Bool × Node} {ij:Int × Int} {L:List Term} {x:Term} {d:Data} {c:Constructor} (h1:at? p.datas ij.1 =some d) (h2:at? d.cons q9=some c):
  ∀ (post:List ByteArray) (qf:List TType) (pre:List ByteArray) (pf:List TType) (r:Nat) (bs:List Binder),x.names=pre++post→c.fields=pf++qf→pre.length=pf.length→post.length=qf.length→bs.length+post.length≤100000→x.names.length≤100000→
  BD (post.length+(r+1)) ⟨p⟩ a1 sc k9 nm9 ks9 nk9 q9 v ij L x bs (pre.length:Int)=BD (r+1) ⟨p⟩ a1 sc k9 nm9 ks9 nk9 q9 v ij L x (bs++bsOf v.2.2.level post qf) (x.names.length:Int):=by
 have hB:Big=4294967296:=rfl
 intro post
 induction post with
 |nil=>
  grind [bsOf]
 | cons y post ih=>
  intro qf pre pf r bs g1 g2 g3 g4 hs hx
  cases qf with
  |nil=>grind
  |cons f qf=>
   simp only [List.length_cons] at hs g4
   rw [List.length_cons,show post.length+1+(r+1)=(post.length+(r+1))+1 from by omega,BD,if_pos (Ah g1),AY g1,AA]
   simp only []
   rw [h1,AA,h2,AA,g3,AY g2,AA,← g3,DC (by grind),AA,AP g1 (by omega),ih qf (pre++[y]) (pf++[f]) r (bs++[(⟨y,f,v.2.2.level⟩:Binder)]) (by rw [g1]; simp) (by rw [g2]; simp) (by grind) (by omega) (by grind) hx,bsOf]
   simp
theorem ZN {α β:Type} {l:List α} {m:List β} {f:α × β→Bool} (h:(l.zip m).all f=true) {pre post:List α} {x:α} (hl:l=pre++x::post) (hlen:l.length=m.length):∃y,at? m (pre.length:Int)=some y∧y ∈ m∧f (x,y)=true:=by
 subst hl
 induction pre generalizing m with
 | nil=>
  cases m with
  |nil=>grind
  |cons y m=>
   rw [List.nil_append,List.zip_cons_cons,List.all_cons,Bool.and_eq_true] at h
   grind [at?]
 | cons a pre ih=>
  cases m with
  |nil=>grind
  |cons y m=>
   rw [List.cons_append,List.zip_cons_cons,List.all_cons,Bool.and_eq_true] at h
   grind [at?]
theorem YI {p:TProgram} (hc:PCx p) {t:Term} (htz:t.sz≤1048576) (ih:∀x ∈ t.kids,∀y ∈ x.kids,Pr p y) (h9:t.kind=9) (ho:t.okS=true) (hn:t.allT (nfL p.datas)=true) (hcc:t.allT (ccL p.datas)=true)
  {e:Nat} {env:L05Env} {sc:List Binder} {lv lv':Int} (hR:RelE sc env) (hE:∀b ∈ sc,b.typ.okB=true∧b.typ.sz≤e) (he1:1048576≤e) (he2:e+4*t.sz+4≤100000000) (hd:sc.length+4*t.dep≤1000)
  (hcl:t.clT (fHas p.defs) (sc.map Binder.name)=true) {k0:Term} {L:List Term} (hk:t.kids=k0::L) (hL10:∀x ∈ L,x.kind=10) {ij:Int × Int} {d:Data} (hd1:at? p.datas ij.1 =some d) (hdm:d ∈ p.datas) (hlen:L.length=d.cons.length) (hzip:(L.zip d.cons).all FY=true) (nd0:Node):
  ∀ (post pre:List Term) (nk:List Node) (P:TType) (n m:Nat),L=pre++post→nk.length=pre.length+1→(pre≠ [] →P.okB=true∧P.sz≤e+4*t.sz)→(post=[] →pre≠ [])→64*t.sz+8*post.length+1≤n→64*t.sz+8*post.length+1≤m→
  ∃T b nd,Ck n p t env lv P.kind P.name P.kids (((pre.length+1:Nat)):Int)=some (T,b)∧
   Az m ⟨p⟩ ⟨t,⟨0,ByteArray.empty,[]⟩,lv',[],[],none⟩ sc (nd0.typ,true,⟨t,⟨0,ByteArray.empty,[]⟩,lv',[nd0],[],none⟩) ij L P.kind P.name P.kids nk (pre.length:Int)=some (b,nd)∧b4 T∧(b=true→nd.typ=T∧T.okB=true∧T.sz≤e+4*t.sz):=by
 have hB:Big=4294967296:=rfl
 have hkl:t.kids.length≤5:=by
  have h:=(Hf ho).2
  rw [h9] at h
  have h':(t.kids.length:Int)≤5:=h
  omega
 have hLl:L.length+1=t.kids.length:=by rw [hk]; rfl
 intro post
 induction post with
 |nil=>
  intro pre nk P n m h1 h2 h3 h4 hfn hfm
  obtain⟨n,rfl⟩:∃k,n=k+1:=⟨n - 1,by omega⟩
  obtain⟨m,rfl⟩:∃k,m=k+1:=⟨m - 1,by omega⟩
  rw [List.append_nil] at h1
  have hP:=h3 (h4 rfl)
  have hpl:pre.length+1=t.kids.length:=by rw [← hLl,h1]
  rw [Ck,if_neg (by grind),Az,if_neg (by grind)]
  grind [TType.eta,QD]
 | cons x post ihp=>
  intro pre nk P n m h1 h2 h3 h4 hfn hfm
  rw [List.length_cons] at hfn hfm
  have hxL:x ∈ L:=BE h1
  have hx:x ∈ t.kids:=by rw [hk]; grind
  have hx10:=hL10 x hxL
  have hox:=Ei ho hx
  obtain⟨y,hy⟩:=QE hox (Or.inr (Or.inr hx10))
  have hyx:y ∈ x.kids:=by rw [hy]; simp
  have s1:=Fh hx
  have s2:=Fh hyx
  have d1:=He hx
  have d2:=He hyx
  have hpl:pre.length+1≤L.length:=by rw [h1]; simp
  have hnl:x.names.length≤3:=by
   have:=(LV hox).2.1
   grind [fldB]
  obtain⟨c,c1,c2,c3⟩:=ZN hzip h1 hlen
  unfold FY at c3
  simp only [Bool.and_eq_true,decide_eq_true_eq] at c3
  have hcn:x.name=c.name:=C2.1 c3.1
  obtain⟨u1,u2⟩:=Wj hc.d hdm c2
  rw [← hcn] at u1 u2
  obtain⟨i2,j2,w1,w2,w3,w4,w5⟩:=KL u1
  rw [u2] at w3
  have hpz:=hc.z
  unfold TProgram.sz at hpz
  have hfs:∀f ∈ c.fields,f.okB=true∧f.sz≤e:=fun f hf=>by
   refine⟨Sf ((NG hc.d hdm).2.2.2 c c2) hf,?_⟩
   have z1:=Ac (s:=TType.sz) hf
   have z2:=Ac (s:=Constructor.sz) c2
   have z3:=Ac (s:=Data.sz) hdm
   have z4:c.sz=c.name.size+(szl TType.sz c.fields+0):=rfl
   have z5:d.sz=d.name.size+(szl Constructor.sz d.cons+0):=rfl
   omega
  obtain⟨e',ce,hR'⟩:=Wm (p:=p) (x:=x) (lv:=lv) (lv':=lv') (ij:=((i2:Int),(j2:Int))) w2 w3 x.names c.fields [] [] fuel sc env rfl rfl rfl c3.2 hR (by omega) (by omega) (A3 (by omega))
  have hcase:HK p x env lv=some e':=by
   unfold HK
   rw [Jd p.datas (by omega),AA,w1]
   exact ce
  have hbl:=Sj lv' x.names c.fields c3.2
  obtain⟨n,rfl⟩:∃k,n=k+2:=⟨n - 2,by omega⟩
  obtain⟨r,rfl⟩:∃k,m=(x.names.length+(k+1+1))+1:=⟨m - x.names.length - 3,by omega⟩
  obtain⟨T,b,nd,q1,q2,q3,q4⟩:=ih x hx y hyx (by omega) (Ie hox (by omega) hyx) (Ei hox hyx) (BR (BR hn hx) hyx) (BR (BR hcc hx) hyx) e e' (sc++bsOf lv' x.names c.fields) lv lv' (n+1) r hR'
   (fun b hb=>by
    grind [Sk]) he1 (by omega) (by grind)
   (by
    have h1':t.kids=(k0::pre)++x::post:=by rw [hk,h1]; rfl
    have a1:=Hc hcl h1'
    rw [show Bk t (k0::pre).length =[] from by grind [Bk],List.append_nil] at a1
    have a2:=Hc (pre:=[]) a1 hy
    rw [show Bk x ([] :List Term).length =x.names from by grind [Bk]] at a2
    rw [List.map_append,ON lv' x.names c.fields c3.2]; exact a2) (by omega) (by omega)
  have hkk:t.kids=(k0::pre)++x::post:=by rw [hk,h1]; rfl
  have hidx:(((pre.length+1:Nat)):Int)=((List.length (k0::pre):Nat):Int):=rfl
  have hidx2:((List.length ((k0::pre)++[x]):Nat):Int)=((((pre++[x]).length +1:Nat)):Int):=by simp
  have es:Ck (n+2) p t env lv P.kind P.name P.kids (((pre.length+1:Nat)):Int)=
    if (b&&(decide (pre.length=0)||decide (T=P)))=true then Ck n p t env lv T.kind T.name T.kids ((((pre++[x]).length +1:Nat)):Int) else some (⟨0,ByteArray.empty,[]⟩,false):=by
   rw [Ck,hidx,if_pos (Ah hkk),AY hkk,AA,hy,show at? [y] 0=some y from rfl,AA,hcase,AA,q1,AA]
   simp only [Ea,TType.eta]
   rw [AP hkk (by omega),hidx2]
   grind [K0,EC]
  have hw:DH sc (bsOf lv' x.names c.fields)=some (sc++bsOf lv' x.names c.fields):=if_pos (by rw [hbl]; omega)
  have hkd:=OL (p:=p) (a1:=⟨x,⟨0,ByteArray.empty,[]⟩,lv',[],bsOf lv' x.names c.fields,none⟩) (sc:=sc++bsOf lv' x.names c.fields) (lv:=lv') (x:=y) (nd:=nd) (b:=b) (m:=r) (by rw [hy]; rfl) q2 (by grind)
  have ei:∃nk',nk'.length=(pre++[x]).length +1∧∃ndg,Az ((x.names.length+(r+1+1))+1) ⟨p⟩ ⟨t,⟨0,ByteArray.empty,[]⟩,lv',[],[],none⟩ sc (nd0.typ,true,⟨t,⟨0,ByteArray.empty,[]⟩,lv',[nd0],[],none⟩) ij L P.kind P.name P.kids nk (pre.length:Int)=
    if (b&&(decide (pre.length=0)||decide (T=P)))=true then Az r ⟨p⟩ ⟨t,⟨0,ByteArray.empty,[]⟩,lv',[],[],none⟩ sc (nd0.typ,true,⟨t,⟨0,ByteArray.empty,[]⟩,lv',[nd0],[],none⟩) ij L T.kind T.name T.kids nk' ((List.length (pre++[x]):Nat):Int) else some (false,ndg):=by
   have hcl2:=Qs (p:=p) (a1:=⟨t,⟨0,ByteArray.empty,[]⟩,lv',[],[],none⟩) (sc:=sc) (k9:=P.kind) (nm9:=P.name) (ks9:=P.kids) (nk9:=nk) (q9:=(pre.length:Int)) (v:=(nd0.typ,true,⟨t,⟨0,ByteArray.empty,[]⟩,lv',[nd0],[],none⟩)) (ij:=ij) (L:=L) (x:=x) hd1 c1 x.names c.fields [] [] (r+1) [] rfl rfl rfl c3.2 (by grind) (by omega)
   rw [List.nil_append] at hcl2
   have hcl3:BD (x.names.length+(r+1+1)) ⟨p⟩ ⟨t,⟨0,ByteArray.empty,[]⟩,lv',[],[],none⟩ sc P.kind P.name P.kids nk (pre.length:Int) (nd0.typ,true,⟨t,⟨0,ByteArray.empty,[]⟩,lv',[nd0],[],none⟩) ij L x [] 0=_:=hcl2
   rw [Az,if_pos (Ah h1),AY h1,AA,hcl3,BD,if_neg (by simp)]
   simp only [TType.eta,Term.eta]
   rw [hw,AA,hkd,AA]
   simp only [TType.eta,Term.eta,List.nil_append]
   rw [DC (by grind),AA]
   simp only [BP,TType.eta,Term.eta]
   rw [AP h1 (by omega)]
   refine⟨nk++[⟨x,nd.typ,lv',[nd],bsOf lv' x.names c.fields,none⟩],by grind,⟨t,P,lv',nk++[⟨x,nd.typ,lv',[nd],bsOf lv' x.names c.fields,none⟩],[],none⟩,?_⟩
   grind [H8,EC]
  obtain⟨nk',hnk,ndg,ei⟩:=ei
  rw [es,ei]
  by_cases hgo:(b&&(decide (pre.length=0)||decide (T=P)))=true
  ·rw [if_pos hgo,if_pos hgo]
   rw [Bool.and_eq_true] at hgo
   obtain⟨r1,r2,r3⟩:=q4 hgo.1
   exact ihp (pre++[x]) nk' T (n) r (by rw [h1]; simp) hnk (fun _=>⟨r2,by omega⟩) (fun _=>by simp) (by omega) (by omega)
  ·rw [if_neg hgo,if_neg hgo]
   exact⟨_,_,_,rfl,rfl,fun h=>by grind,fun h=>by cases h⟩
end Go.Proofs.YtnfgeocnolheoaaGreat.Ab
