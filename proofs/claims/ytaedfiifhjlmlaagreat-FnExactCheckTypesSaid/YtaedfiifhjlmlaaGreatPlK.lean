/-
  Names that are bound, constructors that differ. No program is in sight.
-/
import Derived.Test.YtaedfiifhjlmlaaGreatPlP
namespace Go.Proofs.YtaedfiifhjlmlaaGreat.Ab
set_option linter.unusedVariables false
set_option linter.unusedSimpArgs false
open Go.RowKit
mutual
def Term.clT (D:ByteArray→Bool):Term→List ByteArray→Bool
 |⟨k,num,nm,ty,nms,ks⟩,b=>(!decide (k=1)||hasS b nm||D nm)&&Term.clTs D ⟨k,num,nm,ty,nms,[]⟩ 0 ks b
def Term.clTs (D:ByteArray→Bool):Term→Nat→List Term→List ByteArray→Bool
 |_,_,[],_=>true
 |t,i,x::l,b=>Term.clT D x (b++CX t i)&&Term.clTs D t (i+1) l b
end
theorem R3 {D:ByteArray→Bool} {t u:Term} (h:∀i,CX t i=CX u i):∀ (l:List Term) (i:Nat) (b:List ByteArray),Term.clTs D t i l b=Term.clTs D u i l b
 | [],_,_=>by rw [Term.clTs,Term.clTs]
 |x::l,i,b=>by rw [Term.clTs,Term.clTs,h i,R3 h l]
theorem Term.clT_eq (D:ByteArray→Bool) (t:Term) (b:List ByteArray):t.clT D b=((!decide (t.kind=1)||hasS b t.name||D t.name)&&Term.clTs D t 0 t.kids b):=by
 obtain⟨k,num,nm,ty,nms,ks⟩:=t
 rw [Term.clT]
 congr 1
 exact R3 (t:=⟨k,num,nm,ty,nms,[]⟩) (u:=⟨k,num,nm,ty,nms,ks⟩) (fun i=>rfl) ks 0 b
theorem T5 {D:ByteArray→Bool} (t:Term) (x:Term) (post:List Term) (b:List ByteArray):∀ (pre:List Term) (i:Nat),Term.clTs D t i (pre++x::post) b=true→x.clT D (b++CX t (i+pre.length))=true
 | [],i,h=>by
  rw [List.nil_append,Term.clTs,Bool.and_eq_true] at h; exact h.1
 |y::pre,i,h=>by
  rw [List.cons_append,Term.clTs,Bool.and_eq_true] at h
  have:=T5 t x post b pre (i+1) h.2
  rw [List.length_cons,show i+(pre.length+1)=i+1+pre.length from by omega]; exact this
theorem Il {D:ByteArray→Bool} {t x:Term} {pre post:List Term} {b:List ByteArray} (h:t.clT D b=true) (hh:t.kids=pre++x::post):x.clT D (b++CX t pre.length)=true:=by
 rw [Term.clT_eq,Bool.and_eq_true,hh] at h
 have:=T5 t x post b pre 0 h.2
 rw [Nat.zero_add] at this; exact this
theorem clT_var {D:ByteArray→Bool} {t:Term} {b:List ByteArray} (h:t.clT D b=true) (h1:t.kind=1):hasS b t.name=true∨D t.name=true:=by
 rw [Term.clT_eq,Bool.and_eq_true] at h
 have:=h.1
 simp [h1] at this
 exact this
theorem ZL (D:ByteArray→Bool) (t:Term) (b:List ByteArray):∀ (l:List Term) (i:Nat) (a:List ByteArray),(∀x ∈ l,∀b a,(∀s ∈ x.fr b a,D s=true)→(∀s ∈ a,D s=true)∧x.clT D b=true)→(∀s ∈ Term.frs t i l b a,D s=true)→(∀s ∈ a,D s=true)∧Term.clTs D t i l b=true
 | [],i,a,_,h=>by rw [Term.frs] at h; exact⟨h,by rw [Term.clTs]⟩
 |x::l,i,a,ih,h=>by
  rw [Term.frs] at h
  have h1:=ZL D t b l (i+1) _ (fun y hy=>ih y (by simp [hy])) h
  have h2:=ih x (by simp) _ _ h1.1
  exact⟨h2.1,by rw [Term.clTs,h2.2,h1.2]; rfl⟩
theorem gV (D:ByteArray→Bool):∀t:Term,∀b a,(∀s ∈ t.fr b a,D s=true)→(∀s ∈ a,D s=true)∧t.clT D b=true:=by
 refine Term.ind fun t ih b a h=>?_
 rw [Term.fr_eq] at h
 have h1:=ZL D t b t.kids 0 _ ih h
 have hsub:∀s ∈ a,s ∈ addV t b a:=fun s hs=>by unfold addV; split <;> simp [hs]
 refine⟨fun s hs=>h1.1 s (hsub s hs),?_⟩
 rw [Term.clT_eq,h1.2,Bool.and_true]
 by_cases hk:t.kind=1
 ·rcases btf (hasS b t.name) with e1|e1
  ·simp [e1]
  ·rcases btf (hasS a t.name) with e2|e2
   ·unfold hasS at e2
    obtain⟨s,hs1,hs2⟩:=List.any_eq_true.1 e2
    rw [CW] at hs2
    have:=h1.1 s (hsub s hs1)
    rw [hs2] at this; simp [this]
   ·have:t.name ∈ addV t b a:=by unfold addV; simp [hk,e1,e2]
    simp [h1.1 _ this]
 ·simp [hk]
theorem Wf {α β:Type} {f:α→β} {x y:α}:∀ {l:List α},(l.map f).Nodup →x ∈ l→y ∈ l→f x=f y→x=y
 |a::l,h,hx,hy,he=>by
  rw [List.map_cons,List.nodup_cons] at h
  rcases List.mem_cons.1 hx with e1|h1 <;> rcases List.mem_cons.1 hy with e2|h2
  ·rw [e1,e2]
  ·rw [e1] at he; exact absurd (by rw [he]; exact List.mem_map_of_mem h2) h.1
  ·rw [e2] at he; exact absurd (by rw [← he]; exact List.mem_map_of_mem h1) h.1
  ·exact Wf h.2 h1 h2 he
theorem Va {α:Type} {l:List α} {x:α} (h:l.Nodup) (hx:x ∉ l):(l++[x]).Nodup :=by
 rw [List.nodup_append]
 refine⟨h,by simp,fun a ha b hb=>?_⟩
 rw [List.mem_singleton.1 hb]
 intro e; exact hx (e ▸ ha)
theorem QT {l:List Data} (seen:List ByteArray):∀ (cs pc:List Constructor),allp (okc l seen) pc cs=true→(seen++pc.map Constructor.name).Nodup →(seen++pc.map Constructor.name++cs.map Constructor.name).Nodup
 | [],pc,_,h=>by simpa using h
 | c::cs,pc,ha,h=>by
  rw [allp,Bool.and_eq_true] at ha
  have h1:=ha.1
  unfold okc at h1
  rw [Bool.and_eq_true,Bool.not_eq_true'] at h1
  have hn:c.name ∉ seen++pc.map Constructor.name:=fun hm=>by
   have:=List.any_eq_false.1 h1.2 _ hm
   rw [BY] at this; exact this rfl
  have h2:=Va h hn
  have:=QT seen cs (pc++[c]) ha.2 (by simpa using h2)
  simpa using this
theorem Om {l:List Data}:∀ (ds pre:List Data),allp (okd l) pre ds=true→(Bh pre).Nodup →(Bh (pre++ds)).Nodup
 | [],pre,_,h=>by simpa using h
 |d::ds,pre,ha,h=>by
  rw [allp,Bool.and_eq_true] at ha
  have h1:=ha.1
  unfold okd at h1
  rw [Bool.and_eq_true] at h1
  have h2:=QT (l:=l) (Bh pre) d.cons [] h1.2 (by simpa using h)
  have:=Om ds (pre++[d]) ha.2 (by rw [Jz]; simpa using h2)
  simpa using this
theorem ZM {l:List Data} (h:HD l=true) {d:Data} {c:Constructor} (hd:d ∈ l) (hc:c ∈ d.cons):cHas l c.name=true∧cCon l c.name=c:=by
 unfold HD at h
 rw [Bool.and_eq_true] at h
 have hnd:=Om l [] h.2 (by simp [Bh])
 rw [List.nil_append] at hnd
 have hn2:((l.flatMap Data.cons).map Constructor.name).Nodup :=by
  have:(l.flatMap Data.cons).map Constructor.name=Bh l:=by simp [Bh,List.map_flatMap]
  rw [this]; exact hnd
 have hfound:∀ (l:List Data) (i:Nat),d ∈ l→(GT c.name i l).isSome =true:=by
  intro l
  induction l with
  |nil=>intro _ hd; cases hd
  | cons d' l ih=>
   intro i hd
   rw [GT]
   split
   ·rfl
   ·rename_i hx
    rcases List.mem_cons.1 hd with rfl|hd
    ·exfalso; apply hx
     exact List.any_eq_true.2 ⟨c,hc,BY _⟩
    ·exact ih (i+1) hd
 have hh:cHas l c.name=true:=hfound l 0 hd
 refine⟨hh,?_⟩
 obtain⟨i,j,d',c',h1,h2,h3,h4,h5,h6⟩:=ZN hh
 obtain⟨i',j',g1,g2,g3,g4,g5⟩:=K4 hh
 have e:cCon l c.name=c':=by
  rw [h1] at g1
  obtain⟨rfl,rfl⟩:i=i'∧j=j':=by simpa using g1
  rw [h2] at g2
  have:=Option.some.inj g2
  rw [← this,h3] at g3
  exact(Option.some.inj g3).symm
 rw [e]
 exact Wf hn2 (List.mem_flatMap.2 ⟨d',h4,h5⟩) (List.mem_flatMap.2 ⟨d,hd,hc⟩) (CW.1 h6)
theorem OE {l:List Data} (h:HD l=true) {d:Data} (hd:d ∈ l):upB d.name=true∧HE d.name=false∧d.cons.length≤4∧∀c ∈ d.cons,conB l c=true:=by
 unfold HD at h
 rw [Bool.and_eq_true] at h
 obtain⟨pre,hp⟩:=JU h.2 hd
 have hl:=SZ hp
 unfold okd at hp
 simp only [Bool.and_eq_true,Bool.not_eq_true',decide_eq_true_eq] at hp
 refine⟨hp.1.1.1.1.1,hp.1.1.1.1.2,hl.2,fun c hc=>?_⟩
 obtain⟨q,hq⟩:=JU hp.2 hc
 unfold okc at hq
 rw [Bool.and_eq_true] at hq; exact hq.1
theorem Vb {l:List Data} {c:Constructor} (h:conB l c=true) {f:TType} (hf:f ∈ c.fields):f.okB=true:=by
 unfold conB at h
 rw [Bool.and_eq_true] at h
 have:=List.all_eq_true.1 h.2 f hf
 rw [Bool.and_eq_true] at this
 exact OF this.1
theorem QU {α:Type} (p:α→Bool) (x:α):∀r:List α,IE p (r++[x])=if r.any p=true then IE p r+1 else if p x=true then 0 else -1
 | [] =>by simp [IE]
 |y::r=>by
  rw [List.cons_append,IE,IE,List.any_cons,QU p x r]
  by_cases hy:p y=true
  ·simp [hy]
  ·simp only [hy,Bool.false_eq_true,if_false,Bool.false_or]
theorem R4 {α:Type} (p:α→Bool) (x:α) (l:List α):lidx p (x::l)=if l.any p=true then lidx p l+1 else if p x=true then 0 else -1:=by
 unfold lidx
 rw [List.reverse_cons,QU,List.any_reverse]
theorem find_var (x:ByteArray):∀sc:List Binder,(hasS (sc.map Binder.name) x=false∧HQ sc x=none)∨(hasS (sc.map Binder.name) x=true∧∃b ∈ sc,HQ sc x=some b∧at? (sc.map Binder.typ) (lidx (fun k=>sameStr k x) (sc.map Binder.name))=some b.typ)
 | [] =>by left; simp [hasS,HQ]
 | b::sc=>by
  have ih:=find_var x sc
  simp only [List.map_cons]
  rcases ih with ⟨h1,h2⟩|⟨h1,c,h2,h3,h4⟩
  ·by_cases hb:sameStr b.name x=true
   ·right
    refine⟨by simp [hasS,hb],b,by simp,by rw [HQ,h2]; simp [hb],?_⟩
    rw [R4,if_neg (by unfold hasS at h1; rw [h1]; simp),if_pos hb]
    simp [at?]
   ·left
    refine⟨by simp only [hasS,List.any_cons] at h1 ⊢; rw [h1]; simpa using hb,by rw [HQ,h2]; simp [hb]⟩
  ·right
   refine⟨by simp only [hasS,List.any_cons] at h1 ⊢; rw [h1]; simp,c,by simp [h2],by rw [HQ,h3],?_⟩
   unfold hasS at h1
   rw [R4,if_pos h1]
   have:=JV (fun k=>sameStr k x) (sc.map Binder.name)
   rw [h1] at this
   have h0:0≤lidx (fun k=>sameStr k x) (sc.map Binder.name):=by simpa using this
   rw [at?,if_pos h0] at h4
   rw [at?,if_pos (by omega),show (lidx (fun k=>sameStr k x) (sc.map Binder.name)+1).toNat =(lidx (fun k=>sameStr k x) (sc.map Binder.name)).toNat +1 from by omega,List.getElem?_cons_succ]
   exact h4
structure RelE (sc:List Binder) (env:L05Env):Prop where
 n:env.names=sc.map Binder.name
 t:env.types=sc.map Binder.typ
 l:env.levels.length=sc.length
theorem Vc {sc:List Binder} {env:L05Env} (h:RelE sc env) (hl:sc.length+1≤Big) (nm:ByteArray) (T:TType) (lv lv':Int):∃e',ID env nm T lv=some e'∧RelE (sc++[⟨nm,T,lv'⟩]) e':=by
 have h1:env.names.length=sc.length:=by rw [h.n]; simp
 have h2:env.types.length=sc.length:=by rw [h.t]; simp
 have h3:=h.l
 unfold ID
 rw [EW (by simp; omega),AA,EW (by simp; omega),AA,EW (by simp; omega),AA,EW (by simp; omega),AA,EW (by simp; omega),AA,EW (by simp; omega),AA]
 exact⟨_,rfl,⟨by simp [h.n],by simp [h.t],by simp [h3]⟩⟩
def b4 (T:TType):Prop:=T.kind=4→T.kids.length=1
theorem QV {T:TType} (h:T.okB=true) {x:TType} (hx:x ∈ T.kids):x.okB=true:=by
 rw [TType.okB_eq,Bool.and_eq_true] at h
 exact List.all_eq_true.1 h.2 x hx
theorem gW {T:TType} (h:T.okB=true) (hk:T.kind=2):T.kids=[] :=by
 rw [TType.okB_eq,Bool.and_eq_true] at h
 have:=h.1; unfold locT at this; rw [hk] at this; simp at this; exact this.2
theorem gX {T:TType} (h:T.okB=true) (hk:T.kind=3):∃a b,T.kids=[a,b] :=by
 have h0:=h
 rw [TType.okB_eq,Bool.and_eq_true] at h
 have:=h.1; unfold locT at this; rw [hk] at this; simp at this
 obtain⟨a,l,e⟩:=List.exists_cons_of_ne_nil (l:=T.kids) (fun e=>by rw [e] at this; simp at this)
 obtain⟨b,l',e'⟩:=List.exists_cons_of_ne_nil (l:=l) (fun e'=>by rw [e,e'] at this; simp at this)
 have:l'=[] :=by rw [e,e'] at this; simp at this; exact this.2
 exact⟨a,b,by rw [e,e',this]⟩
theorem bt {T:TType} (h:T.okB=true) (hk:T.kind=4):∃a,T.kids=[a] :=by
 rw [TType.okB_eq,Bool.and_eq_true] at h
 have:=h.1; unfold locT at this; rw [hk] at this; simp at this
 obtain⟨a,l,e⟩:=List.exists_cons_of_ne_nil (l:=T.kids) (fun e=>by rw [e] at this; simp at this)
 have:l=[] :=by rw [e] at this; simp at this; exact this.2
 exact⟨a,by rw [e,this]⟩
theorem OG {T:TType} (h:T.okB=true):b4 T:=fun hk=>by obtain⟨a,e⟩:=bt h hk; rw [e]; rfl
theorem Vd:Sa ByteArray.empty=true:=BY _
theorem Wg:TType.okB ⟨1,ByteArray.empty,[]⟩=true:=by rw [TType.okB_eq]; simp [locT,Vd]
theorem bD {A B:TType} (hA:A.okB=true) (hB:B.okB=true):TType.okB ⟨3,ByteArray.empty,[A,B]⟩=true:=by rw [TType.okB_eq]; simp [locT,Vd,hA,hB]
theorem ZO {A:TType} (hA:A.okB=true):TType.okB ⟨4,ByteArray.empty,[A]⟩=true:=by rw [TType.okB_eq]; simp [locT,Vd,hA]
theorem ZP {s:ByteArray} (h1:upB s=true) (h2:HE s=false):TType.okB ⟨2,s,[]⟩=true:=by rw [TType.okB_eq]; simp [locT,h1,h2]
theorem TType.eta (t:TType):(⟨t.kind,t.name,t.kids⟩:TType)=t:=by cases t; rfl
theorem Term.eta (t:Term):(⟨t.kind,t.num,t.name,t.typ,t.names,t.kids⟩:Term)=t:=by cases t; rfl
theorem Sb {T x:TType} (hx:x ∈ T.kids):x.sz≤T.sz:=by
 have:=Ah (s:=TType.sz) hx
 have:=T.sz_eq
 omega
theorem K5 {t x:Term} (hx:x ∈ t.kids):x.sz+t.kids.length+t.typ.sz+t.name.size+t.names.length≤t.sz:=by
 have:=Ah (s:=Term.sz) hx
 have:=t.sz_eq
 omega
theorem Im {t x:Term} (hx:x ∈ t.kids):x.dep+1≤t.dep:=by
 have h1:1≤t.dep:=by rw [Term.dep_eq]; exact(Term.one_le _).1
 have:=(Term.deps_le (l:=t.kids) h1).1 (by rw [Term.dep_eq]; omega) x hx
 exact this
theorem R5 {k:Int} (hk:k≠9):∀ (l pre:List Term),allp (Ej k) pre l=true→∀x ∈ l,x.kind≠10
 |y::l,pre,h,x,hx=>by
  rw [allp,Bool.and_eq_true] at h
  rcases List.mem_cons.1 hx with e|hx
  ·have:=h.1; unfold Ej at this; rw [e]; simpa [hk] using this
  ·exact R5 hk l _ h.2 x hx
theorem JW {t x:Term} (h:t.okS=true) (h9:t.kind≠9) (hx:x ∈ t.kids):x.kind≠10:=R5 h9 _ _ (Li h).2.2 x hx
theorem Ve {t:Term} (h:t.okS=true) (hk:t.kind=4∨t.kind=6∨t.kind=10):∃x,t.kids=[x] :=by
 have hl:=Hb h
 have:t.kids.length=1:=by
  rcases hk with hk|hk|hk <;> rw [hk] at hl
  ·have h1:(1:Int)≤t.kids.length:=hl.1
   have h2:(t.kids.length:Int)≤1:=hl.2
   omega
  ·have h1:(1:Int)≤t.kids.length:=hl.1
   have h2:(t.kids.length:Int)≤1:=hl.2
   omega
  ·have h1:(1:Int)≤t.kids.length:=hl.1
   have h2:(t.kids.length:Int)≤1:=hl.2
   omega
 exact List.length_eq_one_iff.1 this
theorem Vf {t:Term} (h:t.okS=true) (hk:t.kind=3∨t.kind=5∨t.kind=7):∃x y,t.kids=[x,y] :=by
 have hl:=Hb h
 have:t.kids.length=2:=by
  rcases hk with hk|hk|hk <;> rw [hk] at hl
  ·have h1:(2:Int)≤t.kids.length:=hl.1
   have h2:(t.kids.length:Int)≤2:=hl.2
   omega
  ·have h1:(2:Int)≤t.kids.length:=hl.1
   have h2:(t.kids.length:Int)≤2:=hl.2
   omega
  ·have h1:(2:Int)≤t.kids.length:=hl.1
   have h2:(t.kids.length:Int)≤2:=hl.2
   omega
 cases hk:t.kids with
 |nil=>rw [hk] at this; simp at this
 |cons x l=>
  rw [hk,List.length_cons] at this
  obtain⟨y,e⟩:=List.length_eq_one_iff.1 (show l.length=1 by omega)
  exact⟨x,y,by rw [e]⟩
structure PCx (p:TProgram):Prop where
 z:p.sz≤1048576
 d:HD p.datas=true
 t:∀d ∈ p.defs,d.typ.okB=true
def Pr (p:TProgram) (t:Term):Prop:=t.sz≤1048576→t.kind≠10→t.okS=true→t.allT (nfL p.datas)=true→t.allT (ccL p.datas)=true→
 ∀ (e:Nat) (env:L05Env) (sc:List Binder) (lv lv':Int) (n m:Nat),RelE sc env→(∀b ∈ sc,b.typ.okB=true∧b.typ.sz≤e)→1048576≤e→e+4*t.sz+4≤100000000→sc.length+4*t.dep≤1000→
  t.clT (fHas p.defs) (sc.map Binder.name)=true→64*t.sz+64≤n→64*t.sz+64≤m→
  ∃T b nd,BR n p t env lv=some (T,b)∧BD m ⟨p⟩ t sc lv'=some (nd,b)∧b4 T∧(b=true→nd.typ=T∧T.okB=true∧T.sz≤e+4*t.sz+4)
theorem Ma {p:TProgram} {a1:Node} {sc:List Binder} {lv:Int} {x:Term} {nd:Node} {b:Bool} {m:Nat} (h:at? a1.term.kids (a1.kids.length:Int)=some x) (hn:BD m ⟨p⟩ x sc lv=some (nd,b)) (hl:a1.kids.length+1≤Big):
  CV (m+1) ⟨p⟩ a1 sc lv=some (nd.typ,b,⟨a1.term,a1.typ,a1.level,a1.kids++[nd],a1.binds,none⟩):=by
 rw [CV,h,AA,hn,AA,EW (by simpa using hl),AA]
theorem dN {p:TProgram} (h:PCx p) {d:Def} (hd:d ∈ p.defs):d.typ.sz≤1048576:=by
 have hz:=h.z
 unfold TProgram.sz at hz
 have hds:=Ah (s:=Def.sz) hd
 have hdz:d.sz=d.name.size+(d.typ.sz+(d.body.sz+0)):=rfl
 omega
theorem dO {p:TProgram} (hc:PCx p) {t:Term} (h1:t.kind=1):Pr p t:=by
 intro htz h10 ho hn hcc e env sc lv lv' n m hR hE he1 he2 hd hcl hfn hfm
 have hz:=hc.z
 unfold TProgram.sz at hz
 have hB:=bgE
 have hfl:=AZ Def.sz p.defs
 obtain⟨n,rfl⟩:∃k,n=k+1:=⟨n - 1,by omega⟩
 obtain⟨m,rfl⟩:∃k,m=k+1:=⟨m - 1,by omega⟩
 rw [BR,if_pos (by simp [h1]),BD,if_pos (by simp [h1]),hR.n,Sc _ _ (by simp; omega),AA,FV]
 have hsf:Ha sc t.name=some (HQ sc t.name):=if_pos (by omega)
 simp only []
 rw [hsf,AA]
 rcases find_var t.name sc with ⟨f1,f2⟩|⟨f1,b,f2,f3,f4⟩
 ·have hD:fHas p.defs t.name=true:=by
   rcases clT_var hcl h1 with h|h
   ·rw [f1] at h; cases h
   ·exact h
  obtain⟨d,d1,_,d2⟩:=Wh (l:=p.defs) (p:=fun d:Def=>sameStr d.name t.name) hD
  have hneg:¬ (decide (0≤lidx (fun k=>sameStr k t.name) (sc.map Binder.name))=true):=by
   rw [JV]; unfold hasS at f1; rw [f1]; simp
  rw [if_neg hneg,Iw p.defs _ (by omega),AA,f2,ZG,J0 p _ (by omega),AA]
  have d1':at? p.defs (fIdx p.defs t.name)=some d:=d1
  simp only [d1',AA,AN]
  exact⟨_,_,_,rfl,rfl,OG (hc.t d d2),fun _=>⟨TType.eta _,hc.t d d2,by have:=dN hc d2; omega⟩⟩
 ·have hpos:decide (0≤lidx (fun k=>sameStr k t.name) (sc.map Binder.name))=true:=by
   rw [JV]; exact f1
  rw [if_pos hpos,hR.t,f4,AA,f3,ZG]
  simp only [AA,AN]
  exact⟨_,_,_,rfl,rfl,OG (hE b f2).1,fun _=>⟨TType.eta _,(hE b f2).1,by have:=(hE b f2).2; omega⟩⟩
theorem dP {p:TProgram} {t:Term} (h2:t.kind=2):Pr p t:=by
 intro htz h10 ho hn hcc e env sc lv lv' n m hR hE he1 he2 hd hcl hfn hfm
 obtain⟨n,rfl⟩:∃k,n=k+1:=⟨n - 1,by omega⟩
 obtain⟨m,rfl⟩:∃k,m=k+1:=⟨m - 1,by omega⟩
 rw [BR,if_neg (by simp [h2]),if_pos (by simp [h2]),BD,if_neg (by simp [h2]),if_pos (by simp [h2])]
 simp only [JO,Ht,AA,AN]
 refine⟨_,_,_,rfl,rfl,fun h=>by simp at h,fun _=>⟨rfl,Wg,?_⟩⟩
 rw [TType.sz_eq]
 show 0+(0+0)≤_
 omega
theorem ZQ {sc:List Binder} {e e':Nat} {b:Binder} (hE:∀b ∈ sc,b.typ.okB=true∧b.typ.sz≤e) (he:e≤e') (hb:b.typ.okB=true∧b.typ.sz≤e'):∀c ∈ sc++[b],c.typ.okB=true∧c.typ.sz≤e':=by
 intro c hc
 rcases List.mem_append.1 hc with h|h
 ·exact⟨(hE c h).1,by have:=(hE c h).2; omega⟩
 ·rw [List.mem_singleton.1 h]; exact hb
theorem dQ {p:TProgram} (hc:PCx p) {t:Term} (h4:t.kind=4) (ih:∀x ∈ t.kids,Pr p x):Pr p t:=by
 intro htz h10 ho hn hcc e env sc lv lv' n m hR hE he1 he2 hd hcl hfn hfm
 have hB:=bgE
 obtain⟨x,hk⟩:=Ve ho (Or.inl h4)
 have hx:x ∈ t.kids:=by rw [hk]; simp
 have hsz:=K5 hx
 have hdep:=Im hx
 obtain⟨n,rfl⟩:∃k,n=k+1:=⟨n - 1,by omega⟩
 obtain⟨m,rfl⟩:∃k,m=k+2:=⟨m - 2,by omega⟩
 have hkl:1≤t.kids.length:=by rw [hk]; simp
 obtain⟨e',ha,hR'⟩:=Vc hR (by omega) t.name t.typ lv lv'
 have hty:=OF (Wi ho h4)
 have hts:=t.sz_eq
 obtain⟨T,b,nd,q1,q2,q3,q4⟩:=ih x hx (by omega) (JW ho (by omega) hx) (Ft ho hx) (B5 hn hx) (B5 hcc hx) e e' (sc++[⟨t.name,t.typ,lv'⟩]) lv lv' n m hR'
  (ZQ hE (Nat.le_refl _) ⟨hty,by show t.typ.sz≤e; omega⟩) he1 (by omega) (by simp; omega)
  (by have:=Il (pre:=[]) hcl hk; simpa [CX,h4] using this) (by omega) (by omega)
 have hw:Dg sc [⟨t.name,t.typ,lv'⟩] =some (sc++[⟨t.name,t.typ,lv'⟩]):=if_pos (by simp; omega)
 have hkd:=Ma (p:=p) (a1:=⟨t,⟨0,ByteArray.empty,[]⟩,lv',[],[⟨t.name,t.typ,lv'⟩],none⟩) (sc:=sc++[⟨t.name,t.typ,lv'⟩]) (lv:=lv') (x:=x) (nd:=nd) (b:=b) (m:=m) (by rw [hk]; rfl) q2 (by simp [Big])
 rw [BR,if_neg (by simp [h4]),if_neg (by simp [h4]),if_pos (by simp [h4]),hk,show at? [x] 0=some x from rfl,AA,ha,AA,q1,AA,NI,AA,
  BD,if_neg (by simp [h4]),if_neg (by simp [h4]),if_pos (by simp [h4]),hw,AA,hkd,AA,Fq,Lg,AA,AN]
 refine⟨_,_,_,rfl,rfl,fun h=>by simp at h,fun hb=>?_⟩
 obtain⟨r1,r2,r3⟩:=q4 hb
 refine⟨by simp [r1],bD hty r2,?_⟩
 rw [TType.sz_eq]
 simp only [szl]
 have:(ByteArray.empty).size =0:=rfl
 omega
theorem dR {p:TProgram} (hc:PCx p) {t:Term} (h6:t.kind=6) (ih:∀x ∈ t.kids,Pr p x):Pr p t:=by
 intro htz h10 ho hn hcc e env sc lv lv' n m hR hE he1 he2 hd hcl hfn hfm
 have hB:=bgE
 obtain⟨x,hk⟩:=Ve ho (Or.inr (Or.inl h6))
 have hx:x ∈ t.kids:=by rw [hk]; simp
 have hsz:=K5 hx
 have hdep:=Im hx
 obtain⟨n,rfl⟩:∃k,n=k+1:=⟨n - 1,by omega⟩
 obtain⟨m,rfl⟩:∃k,m=k+2:=⟨m - 2,by omega⟩
 have hkl:1≤t.kids.length:=by rw [hk]; simp
 obtain⟨T,b,nd,q1,q2,q3,q4⟩:=ih x hx (by omega) (JW ho (by omega) hx) (Ft ho hx) (B5 hn hx) (B5 hcc hx) e env sc (IntKind.i64.wrap (lv+1)) (IntKind.i64.wrap (lv'+1)) n m hR
  hE he1 (by omega) (by omega)
  (by have:=Il (pre:=[]) hcl hk; simpa [CX,h6] using this) (by omega) (by omega)
 have hkd:=Ma (p:=p) (a1:=⟨t,⟨0,ByteArray.empty,[]⟩,lv',[],[],none⟩) (sc:=sc) (lv:=IntKind.i64.wrap (lv'+1)) (x:=x) (nd:=nd) (b:=b) (m:=m) (by rw [hk]; rfl) q2 (by simp [Big])
 rw [BR,if_neg (by simp [h6]),if_neg (by simp [h6]),if_neg (by simp [h6]),if_pos (by simp [h6]),hk,show at? [x] 0=some x from rfl,AA,q1,AA,Ld,AA,
  BD,if_neg (by simp [h6]),if_neg (by simp [h6]),if_neg (by simp [h6]),if_pos (by simp [h6]),hkd,AA,Jy,AA,AN]
 refine⟨_,_,_,rfl,rfl,fun h=>rfl,fun hb=>?_⟩
 obtain⟨r1,r2,r3⟩:=q4 hb
 refine⟨by simp [r1],ZO r2,?_⟩
 rw [TType.sz_eq]
 simp only [szl]
 have:(ByteArray.empty).size =0:=rfl
 omega
theorem dS {p:TProgram} (hc:PCx p) {t:Term} (h7:t.kind=7) (ih:∀x ∈ t.kids,Pr p x):Pr p t:=by
 intro htz h10 ho hn hcc e env sc lv lv' n m hR hE he1 he2 hd hcl hfn hfm
 have hB:=bgE
 obtain⟨x,y,hk⟩:=Vf ho (Or.inr (Or.inr h7))
 have hx:x ∈ t.kids:=by rw [hk]; simp
 have hy:y ∈ t.kids:=by rw [hk]; simp
 have hsz:=K5 hx
 have hdep:=Im hx
 have hsy:=K5 hy
 have hdy:=Im hy
 have hkl:2≤t.kids.length:=by rw [hk]; simp
 have hxy:x.sz+y.sz+2≤t.sz:=by have:=t.sz_eq; rw [hk] at this; simp only [szl] at this; omega
 obtain⟨n,rfl⟩:∃k,n=k+2:=⟨n - 2,by omega⟩
 obtain⟨m,rfl⟩:∃k,m=k+6:=⟨m - 6,by omega⟩
 obtain⟨T,b,nd,q1,q2,q3,q4⟩:=ih x hx (by omega) (JW ho (by omega) hx) (Ft ho hx) (B5 hn hx) (B5 hcc hx) e env sc lv lv' (n+1) (m+3) hR
  hE he1 (by omega) (by omega)
  (by have:=Il (pre:=[]) hcl hk; simpa [CX,h7] using this) (by omega) (by omega)
 have hkd:=Ma (p:=p) (a1:=⟨t,⟨0,ByteArray.empty,[]⟩,lv',[],[],none⟩) (sc:=sc) (lv:=lv') (x:=x) (nd:=nd) (b:=b) (m:=m+3) (by rw [hk]; rfl) q2 (by simp [Big])
 rw [BR,if_neg (by simp [h7]),if_neg (by simp [h7]),if_neg (by simp [h7]),if_neg (by simp [h7]),if_pos (by simp [h7]),hk,show at? [x,y] 0=some x from rfl,AA,q1,AA]
 rw [BD,if_neg (by simp [h7]),if_neg (by simp [h7]),if_neg (by simp [h7]),if_neg (by simp [h7]),if_pos (by simp [h7]),G7]
 simp only []
 simp only [List.nil_append] at hkd
 rw [hkd,AA,FC]
 have body:∀A:TType,A.okB=true→A.sz≤e+4*x.sz+4→∀lvl:Int,∃T2 b2 nd2,C4 (n+1) p t env lv (A,true) false=some (T2,b2)∧
   DQ (m+2) ⟨p⟩ ⟨t,⟨0,ByteArray.empty,[]⟩,lv',[],[],none⟩ sc (nd.typ,b,⟨t,⟨0,ByteArray.empty,[]⟩,lv',[nd],[],none⟩) A.kind A.name A.kids lvl=some (b2,nd2)∧b4 T2∧(b2=true→nd2.typ=T2∧T2.okB=true∧T2.sz≤e+4*t.sz+4):=by
  intro A hA1 hA2 lvl
  obtain⟨e',ha,hR'⟩:=Vc hR (by omega) t.name A lv lvl
  obtain⟨T2,b2,nd2,p1,p2,p3,p4⟩:=ih y hy (by omega) (JW ho (by omega) hy) (Ft ho hy) (B5 hn hy) (B5 hcc hy) (e+4*x.sz+4) e' (sc++[⟨t.name,A,lvl⟩]) lv lv' n m hR'
   (ZQ hE (by omega) ⟨hA1,hA2⟩) (by omega) (by omega) (by simp; omega)
   (by have:=Il (pre:=[x]) hcl hk; simpa [CX,h7] using this) (by omega) (by omega)
  have hw:Dg sc [⟨t.name,A,lvl⟩] =some (sc++[⟨t.name,A,lvl⟩]):=if_pos (by simp; omega)
  have hkd2:=Ma (p:=p) (a1:=⟨t,⟨0,ByteArray.empty,[]⟩,lv',[nd],[⟨t.name,A,lvl⟩],none⟩) (sc:=sc++[⟨t.name,A,lvl⟩]) (lv:=lv') (x:=y) (nd:=nd2) (b:=b2) (m:=m) (by rw [hk]; rfl) p2 (by simp [Big])
  rw [C4,if_neg (by simp),hk,show at? [x,y] 1=some y from rfl,AA]
  simp only []
  rw [ha,AA,p1,AA,DQ]
  simp only [TType.eta,Term.eta]
  rw [hw,AA,hkd2,AA]
  exact⟨_,_,_,rfl,rfl,p3,fun hb=>by obtain⟨r1,r2,r3⟩:=p4 hb; exact⟨r1,r2,by omega⟩⟩
 cases hb:b with
 | false=>
  have hbd:∃v,DP T=some v:=by
   unfold DP
   by_cases k4:T.kind=4
   ·obtain⟨A,hA⟩:=List.length_eq_one_iff.1 (q3 k4)
    rw [if_pos (by simpa using k4),hA]; exact⟨_,rfl⟩
   ·rw [if_neg (by simpa using k4)]
    by_cases k1:T.kind=1
    ·rw [if_pos (by simpa using k1)]; exact⟨_,rfl⟩
    ·rw [if_neg (by simpa using k1)]; exact⟨_,rfl⟩
  obtain⟨v,hv⟩:=hbd
  rw [hv,AA,if_pos (by rfl),C4,if_pos rfl,if_pos (by rfl),B4,if_pos rfl,AA,AN]
  exact⟨_,_,_,rfl,rfl,fun h=>by simp at h,fun h=>by cases h⟩
 | true=>
  obtain⟨r1,r2,r3⟩:=q4 hb
  rw [hb] at body
  have hnt:nd.typ.kind=T.kind:=by rw [r1]
  by_cases k4:T.kind=4
  ·obtain⟨A,hA⟩:=bt r2 k4
   have hAm:A ∈ T.kids:=by rw [hA]; simp
   have hAs:=Sb hAm
   obtain⟨T2,b2,nd2,g1,g2,g3,g4⟩:=body A (QV r2 hAm) (by omega) (IntKind.i64.wrap (lv'+1))
   have hv:DP T=some (A,true):=by unfold DP; rw [if_pos (by simpa using k4),hA]; rfl
   rw [hv,AA,if_neg (by simp)]
   simp only [Bool.not_true]
   rw [g1,if_neg (by simp),if_pos (by rw [hnt,k4]; rfl),B4]
   rw [if_neg (by rw [hnt,k4]; simp),if_pos (by rw [hnt,k4]; rfl),r1,hA,show at? [A] 0=some A from rfl,AA]
   simp only [r1] at g2 ⊢
   rw [g2,AA,AN]
   refine⟨_,_,_,rfl,rfl,g3,fun hb2=>?_⟩
   obtain⟨s1,s2,s3⟩:=g4 hb2
   exact⟨by rw [← s1]; exact TType.eta _,s2,s3⟩
  ·by_cases k1:T.kind=1
   ·obtain⟨T2,b2,nd2,g1,g2,g3,g4⟩:=body T r2 (by omega) lv'
    have hv:DP T=some (T,true):=by unfold DP; rw [if_neg (by simpa using k4),if_pos (by simpa using k1)]
    rw [hv,AA,if_neg (by simp)]
    simp only [Bool.not_true]
    rw [g1,if_neg (by simp),if_neg (by rw [hnt,k1]; simp),B4]
    rw [if_neg (by simp),if_neg (by rw [hnt,k1]; simp)]
    simp only [r1] at g2 ⊢
    rw [g2,AA,AN]
    refine⟨_,_,_,rfl,rfl,g3,fun hb2=>?_⟩
    obtain⟨s1,s2,s3⟩:=g4 hb2
    exact⟨by rw [← s1]; exact TType.eta _,s2,s3⟩
   ·have hv:DP T=some (⟨0,ByteArray.empty,[]⟩,false):=by unfold DP; rw [if_neg (by simpa using k4),if_neg (by simpa using k1)]
    rw [hv,AA,if_neg (by simp)]
    simp only [Bool.not_false]
    rw [C4,if_pos rfl,if_neg (by simp),if_pos (by rw [hnt]; simpa using k1),B4,if_pos (by rw [hnt]; simpa using k4),AA,AN]
    exact⟨_,_,_,rfl,rfl,fun h=>by simp at h,fun h=>by cases h⟩
theorem kinds_loop {p:TProgram} {t:Term} (htz:t.sz≤1048576) (ih:∀x ∈ t.kids,Pr p x) (h9:t.kind≠9) (hb0:∀i,CX t i=[]) (ho:t.okS=true) (hn:t.allT (nfL p.datas)=true) (hcc:t.allT (ccL p.datas)=true)
  {e:Nat} {env:L05Env} {sc:List Binder} {lv lv':Int} (hR:RelE sc env) (hE:∀b ∈ sc,b.typ.okB=true∧b.typ.sz≤e) (he1:1048576≤e) (he2:e+4*t.sz+4≤100000000) (hd:sc.length+4*t.dep≤1000)
  (hcl:t.clT (fHas p.defs) (sc.map Binder.name)=true):
  ∀ (post pre:List Term) (tys:List TType) (nk:List Node) (n m:Nat),t.kids=pre++post→tys.length=pre.length→nk.length=pre.length→(∀T ∈ tys,T.okB=true∧T.sz≤e+4*t.sz)→64*t.sz+4+2*post.length≤n→64*t.sz+4+2*post.length≤m→
  (∃nd,BX n p t env lv tys (pre.length:Int)=some (⟨0,ByteArray.empty,[]⟩,false)∧Aq m ⟨p⟩ ⟨t,⟨0,ByteArray.empty,[]⟩,lv',[],[],none⟩ sc t.kind t.num t.name t.typ.kind t.typ.name 0 ByteArray.empty lv' nk tys (pre.length:Int)=some (false,nd))∨
  (∃tys' nk' n' m',tys'.length=t.kids.length∧(∀T ∈ tys',T.okB=true∧T.sz≤e+4*t.sz)∧BX n p t env lv tys (pre.length:Int)=BX (n'+1) p t env lv tys' (t.kids.length:Int)∧
   Aq m ⟨p⟩ ⟨t,⟨0,ByteArray.empty,[]⟩,lv',[],[],none⟩ sc t.kind t.num t.name t.typ.kind t.typ.name 0 ByteArray.empty lv' nk tys (pre.length:Int)=Aq (m'+1) ⟨p⟩ ⟨t,⟨0,ByteArray.empty,[]⟩,lv',[],[],none⟩ sc t.kind t.num t.name t.typ.kind t.typ.name 0 ByteArray.empty lv' nk' tys' (t.kids.length:Int)):=by
 have hB:=bgE
 intro post
 induction post with
 |nil=>
  intro pre tys nk n m hk h1 h2 h3 hfn hfm
  right
  rw [List.append_nil] at hk
  exact⟨tys,nk,n - 1,m - 1,by rw [hk]; exact h1,h3,by rw [← hk,show n - 1+1=n from by omega],by rw [← hk,show m - 1+1=m from by omega]⟩
 | cons x post ihp=>
  intro pre tys nk n m hk h1 h2 h3 hfn hfm
  rw [List.length_cons] at hfn hfm
  obtain⟨n,rfl⟩:∃k,n=k+1:=⟨n - 1,by omega⟩
  obtain⟨m,rfl⟩:∃k,m=k+2:=⟨m - 2,by omega⟩
  have hx:x ∈ t.kids:=BZ hk
  have hsz:=K5 hx
  have hdep:=Im hx
  have hkl:pre.length+1≤t.kids.length:=by rw [hk]; simp
  obtain⟨T,b,nd,q1,q2,q3,q4⟩:=ih x hx (by omega) (JW ho h9 hx) (Ft ho hx) (B5 hn hx) (B5 hcc hx) e env sc lv lv' n m hR
   hE he1 (by omega) (by omega)
   (by have:=Il hcl hk; rw [hb0,List.append_nil] at this; exact this) (by omega) (by omega)
  have hkd:=Ma (p:=p) (a1:=⟨t,⟨0,ByteArray.empty,[]⟩,lv',nk,[],none⟩) (sc:=sc) (lv:=lv') (x:=x) (nd:=nd) (b:=b) (m:=m) (by show at? t.kids _=_; rw [h2]; exact AW hk) q2 (by show nk.length+1≤_; omega)
  have es:BX (n+1) p t env lv tys (pre.length:Int)=if b=true then BX n p t env lv (tys++[T]) ((List.length (pre++[x]):Nat):Int) else some (⟨0,ByteArray.empty,[]⟩,false):=by
   rw [BX,if_pos (Ai hk),AW hk,AA,q1,AA,EW (by simp; omega),AA,AP hk (by omega)]
   cases b <;> simp
  have ei:Aq (m+2) ⟨p⟩ ⟨t,⟨0,ByteArray.empty,[]⟩,lv',[],[],none⟩ sc t.kind t.num t.name t.typ.kind t.typ.name 0 ByteArray.empty lv' nk tys (pre.length:Int)=
    if b=true then Aq m ⟨p⟩ ⟨t,⟨0,ByteArray.empty,[]⟩,lv',[],[],none⟩ sc t.kind t.num t.name t.typ.kind t.typ.name 0 ByteArray.empty lv' (nk++[nd]) (tys++[nd.typ]) ((List.length (pre++[x]):Nat):Int) else some (false,⟨t,⟨0,ByteArray.empty,[]⟩,lv',nk++[nd],[],none⟩):=by
   rw [Aq,if_pos (Ai hk)]
   simp only [TType.eta,Term.eta]
   rw [hkd,AA,D5]
   simp only [TType.eta,Term.eta]
   rw [EW (by simp; omega),AA,AP hk (by omega)]
   cases b <;> simp
  cases hb:b with
  |false=>
   left
   rw [hb] at es ei
   exact⟨_,by rw [es,if_neg (by simp)],by rw [ei,if_neg (by simp)]⟩
  | true=>
   obtain⟨r1,r2,r3⟩:=q4 hb
   rw [hb,if_pos rfl] at es ei
   rw [es,ei,r1]
   exact ihp (pre++[x]) (tys++[T]) (nk++[nd]) n m (by rw [hk]; simp) (by simp [h1]) (by simp [h2]) (fun U hU=>by
    rcases List.mem_append.1 hU with h|h
    ·exact h3 U h
    ·rw [List.mem_singleton.1 h]; exact⟨r2,by omega⟩) (by omega) (by omega)
theorem Xn {l:List TType} {k:Nat} (h:∀x ∈ l,x.sz≤k):szl TType.sz l≤l.length*(k+1):=by
 induction l with
 |nil=>simp [szl]
 |cons x l ih=>
  have h1:=h x (by simp)
  have h2:=ih fun y hy=>h y (by simp [hy])
  simp only [szl,List.length_cons,Nat.add_mul,Nat.one_mul]; omega
theorem NL {p:TProgram} (hc:PCx p) {t:Term} (hkd:t.kind=3∨t.kind=5∨t.kind=8∨t.kind=11) (ih:∀x ∈ t.kids,Pr p x):Pr p t:=by
 intro htz h10 ho hn hcc e env sc lv lv' n m hR hE he1 he2 hd hcl hfn hfm
 have hB:=bgE
 have hkl:t.kids.length≤3:=by
  have:=(Hb ho).2
  have h3:kHi t.kind≤3:=by rcases hkd with h|h|h|h <;> rw [h] <;> decide
  omega
 have hb0:∀i,CX t i=[] :=fun i=>by
  unfold CX; rcases hkd with h|h|h|h <;> simp [h]
 obtain⟨n,rfl⟩:∃k,n=k+1:=⟨n - 1,by omega⟩
 obtain⟨m,rfl⟩:∃k,m=k+2:=⟨m - 2,by omega⟩
 have k1:t.kind≠1:=by omega
 have k2:t.kind≠2:=by omega
 have k4:t.kind≠4:=by omega
 have k6:t.kind≠6:=by omega
 have k7:t.kind≠7:=by omega
 have k9:t.kind≠9:=by omega
 rw [BR,if_neg (by simpa using k1),if_neg (by simpa using k2),if_neg (by simpa using k4),if_neg (by simpa using k6),if_neg (by simpa using k7),if_neg (by simpa using k9)]
 rw [BD,if_neg (by simpa using k1),if_neg (by simpa using k2),if_neg (by simpa using k4),if_neg (by simpa using k6),if_neg (by simpa using k7),if_neg (by simpa using k9),Fi]
 simp only []
 rcases kinds_loop htz ih k9 hb0 ho hn hcc (lv:=lv) (lv':=lv') hR hE he1 he2 hd hcl t.kids [] [] [] n m rfl rfl rfl (by simp) (by omega) (by omega) with ⟨nd,e1,e2⟩|⟨tys,nk,n',m',e1,e2,e3,e4⟩
 ·rw [List.length_nil] at e1 e2
  have e1':BX n p t env lv [] 0=_:=e1
  have e2':Aq m ⟨p⟩ ⟨t,⟨0,ByteArray.empty,[]⟩,lv',[],[],none⟩ sc t.kind t.num t.name t.typ.kind t.typ.name 0 ByteArray.empty lv' [] [] 0=_:=e2
  rw [e1',e2',AA,AN]
  exact⟨_,_,_,rfl,rfl,fun h=>by simp at h,fun h=>by cases h⟩
 ·rw [List.length_nil] at e3 e4
  have e3':BX n p t env lv [] 0=_:=e3
  have e4':Aq m ⟨p⟩ ⟨t,⟨0,ByteArray.empty,[]⟩,lv',[],[],none⟩ sc t.kind t.num t.name t.typ.kind t.typ.name 0 ByteArray.empty lv' [] [] 0=_:=e4
  have hcond:¬ (decide ((t.kids.length:Int)<(t.kids.length:Int))=true):=by simp
  rw [e3',e4',BX,if_neg hcond,Aq,if_neg hcond]
  have qp:∀k:Int,t.kind=k→decide (t.kind=k)=true:=fun k h=>by simp [h]
  have qn:∀k:Int,t.kind≠k→¬ (decide (t.kind=k)=true):=fun k h=>by simp [h]
  simp only [TType.eta,Term.eta]
  have hbig:∀T ∈ tys,T.sz≤Big:=fun T hT=>by have:=(e2 T hT).2; omega
  rcases hkd with h|h|h|h
  · -- operations
   have hl2:tys.length=2:=by obtain⟨x,y,hk⟩:=Vf ho (Or.inl h); rw [e1,hk]; rfl
   obtain⟨A,B,hAB⟩:∃A B,tys=[A,B] :=by
    cases tys with
    |nil=>simp at hl2
    |cons A l=>
     rw [List.length_cons] at hl2
     obtain⟨B,hb⟩:=List.length_eq_one_iff.1 (show l.length=1 by omega)
     exact⟨A,B,by rw [hb]⟩
   rw [if_pos (qp 3 h),if_pos (qp 3 h),hAB,show at? [A,B] 0=some A from rfl,show at? [A,B] 1=some B from rfl,JO,Ht]
   simp only [AA]
   by_cases hA:A.kind=1
   ·have hAq:decide (A.kind=1)=true:=by simpa using hA
    rw [if_pos hAq,if_pos hAq,AA,AN]
    exact⟨_,_,_,rfl,rfl,fun h=>by simp at h,fun _=>⟨rfl,Wg,by rw [TType.sz_eq]; simp [szl]⟩⟩
   ·have hAq:¬ (decide (A.kind=1)=true):=by simpa using hA
    rw [if_neg hAq,if_neg hAq,AA,AN]
    exact⟨_,_,_,rfl,rfl,fun h=>by simp at h,fun h=>by cases h⟩
  · -- calls
   have hl2:tys.length=2:=by obtain⟨x,y,hk⟩:=Vf ho (Or.inr (Or.inl h)); rw [e1,hk]; rfl
   obtain⟨A,B,hAB⟩:∃A B,tys=[A,B] :=by
    cases tys with
    |nil=>simp at hl2
    |cons A l=>
     rw [List.length_cons] at hl2
     obtain⟨B,hb⟩:=List.length_eq_one_iff.1 (show l.length=1 by omega)
     exact⟨A,B,by rw [hb]⟩
   have hA:=e2 A (by rw [hAB]; simp)
   have hBt:=e2 B (by rw [hAB]; simp)
   rw [if_neg (qn 3 (by omega)),if_neg (qn 3 (by omega)),if_pos (qp 5 h),if_pos (qp 5 h),hAB,show at? [A,B] 0=some A from rfl,show at? [A,B] 1=some B from rfl]
   simp only [AA]
   by_cases hA3:A.kind=3
   ·obtain⟨a,b,hk⟩:=gX hA.1 hA3
    have ham:a ∈ A.kids:=by rw [hk]; simp
    have hbm:b ∈ A.kids:=by rw [hk]; simp
    have has:=Sb ham
    have hbs:=Sb hbm
    have hAq:¬ ((!decide (A.kind=3))=true):=by simp [hA3]
    rw [if_neg hAq,if_neg hAq,hk,show at? [a,b] 0=some a from rfl]
    simp only [AA]
    rw [JX a (by omega) B fuel (D8 (by omega)),Gn a (by omega) B fuel (D8 (by omega))]
    simp only [AA,FT,DI]
    by_cases hs:a=B
    ·rw [if_neg (by simp [hs]),if_neg (by simp [hs]),show at? [A,B] 0=some A from rfl]
     simp only [AA]
     rw [hk,show at? [a,b] 1=some b from rfl]
     simp only [AA,AN]
     exact⟨_,_,_,rfl,rfl,OG (QV hA.1 hbm),fun _=>⟨TType.eta _,QV hA.1 hbm,by omega⟩⟩
    ·rw [if_pos (by simp [hs]),if_pos (by simp [hs])]
     simp only [AA,AN]
     exact⟨_,_,_,rfl,rfl,fun h=>by simp at h,fun h=>by cases h⟩
   ·have hAq:(!decide (A.kind=3))=true:=by simp [hA3]
    rw [if_pos hAq,if_pos hAq]
    simp only [FT,DI,if_true,AA,AN]
    exact⟨_,_,_,rfl,rfl,fun h=>by simp at h,fun h=>by cases h⟩
  · -- constructors
   have hz:=hc.z
   unfold TProgram.sz at hz
   have hcon:=OH (J1 hn) (Or.inl h)
   obtain⟨i,j,f1,f2,f3,f4,f5⟩:=K4 hcon
   have hdc:=OE hc.d f4
   have hds:=Ah (s:=Data.sz) f4
   have hdz:(cDat p.datas t.name).name.size ≤(cDat p.datas t.name).sz :=by unfold Data.sz; omega
   have hszl:=Xn (l:=tys) (k:=e+4*t.sz) fun T hT=>(e2 T hT).2
   have hszl2:szl TType.sz tys≤Big:=by
    have h3:tys.length*(e+4*t.sz+1)≤3*(e+4*t.sz+1):=Nat.mul_le_mul_right _ (by omega)
    omega
   rw [if_neg (qn 3 (by omega)),if_neg (qn 3 (by omega)),if_neg (qn 5 (by omega)),if_neg (qn 5 (by omega)),if_neg (qn 11 (by omega)),if_pos (qp 8 h),JY p.datas (by omega),K6 p.datas (by omega),f1]
   simp only [cRes,AA,f2,f3,SY,Gm]
   rw [QW tys _ hszl2,T6 tys _ (by omega) _ (fun x hx y=>Gn x (hbig x hx) y fuel (D8 (hbig x hx)))]
   simp only [AA,AN]
   refine⟨_,_,_,rfl,rfl,fun h=>by simp at h,fun _=>⟨rfl,ZP hdc.1 hdc.2.1,?_⟩⟩
   rw [TType.sz_eq]
   simp only [szl]; omega
  · -- choices
   have hl3:tys.length=3:=by
    have h1:=(Hb ho).1
    have h2:=(Hb ho).2
    rw [h] at h1 h2
    have h1':(3:Int)≤t.kids.length:=h1
    have h2':(t.kids.length:Int)≤3:=h2
    omega
   obtain⟨A,B,C,hAB⟩:∃A B C,tys=[A,B,C] :=by
    cases tys with
    |nil=>simp at hl3
    | cons A l=>
     cases l with
     |nil=>simp at hl3
     |cons B l=>
      simp only [List.length_cons] at hl3
      obtain⟨C,hb⟩:=List.length_eq_one_iff.1 (show l.length=1 by omega)
      exact⟨A,B,C,by rw [hb]⟩
   have hBt:=e2 B (by rw [hAB]; simp)
   rw [if_neg (qn 3 (by omega)),if_neg (qn 3 (by omega)),if_neg (qn 5 (by omega)),if_neg (qn 5 (by omega)),if_pos (qp 11 h),if_neg (qn 8 (by omega)),hAB,show at? [A,B,C] 0=some A from rfl,show at? [A,B,C] 1=some B from rfl,show at? [A,B,C] 2=some C from rfl]
   simp only [AA]
   by_cases hA:A.kind=1
   ·have hAq:decide (A.kind=1)=true:=by simpa using hA
    rw [if_pos hAq,if_pos hAq,JX B (by omega) C fuel (D8 (by omega)),Gn B (by omega) C fuel (D8 (by omega))]
    simp only [AA,AN]
    exact⟨_,_,_,rfl,rfl,OG hBt.1,fun _=>⟨TType.eta _,hBt.1,by omega⟩⟩
   ·have hAq:¬ (decide (A.kind=1)=true):=by simpa using hA
    rw [if_neg hAq,if_neg hAq]
    simp only [AA,AN]
    exact⟨_,_,_,rfl,rfl,OG hBt.1,fun h=>by cases h⟩
def bsOf (lv:Int):List ByteArray→List TType→List Binder
 |x::l,f::m=>⟨x,f,lv⟩::bsOf lv l m
 |_,_=>[]
theorem T7 (lv:Int):∀ (l:List ByteArray) (m:List TType),l.length=m.length→(bsOf lv l m).length =l.length
 | [],[],_=>rfl
 |x::l,f::m,h=>by simp only [bsOf,List.length_cons]; rw [T7 lv l m (by simpa using h)]
theorem QX (lv:Int):∀ (l:List ByteArray) (m:List TType),l.length=m.length→(bsOf lv l m).map Binder.name=l
 | [],[],_=>rfl
 |x::l,f::m,h=>by simp only [bsOf,List.map_cons]; rw [QX lv l m (by simpa using h)]
theorem T8 (lv:Int):∀ (l:List ByteArray) (m:List TType) (b:Binder),b ∈ bsOf lv l m→b.typ ∈ m
 |x::l,f::m,b,h=>by
  rcases List.mem_cons.1 h with rfl|h
  ·simp
  ·exact List.mem_cons_of_mem _ (T8 lv l m b h)
 | [],_,b,h=>by simp [bsOf] at h
 |_::_,[],b,h=>by simp [bsOf] at h
theorem T9 {p:TProgram} {x:Term} {lv lv':Int} {ij:Int × Int} {d:Data} {c:Constructor} (h1:at? p.datas ij.1 =some d) (h2:at? d.cons ij.2 =some c):
  ∀ (post:List ByteArray) (qf:List TType) (pre:List ByteArray) (pf:List TType) (n:Nat) (sc:List Binder) (env:L05Env),x.names=pre++post→c.fields=pf++qf→pre.length=pf.length→post.length=qf.length→RelE sc env→sc.length+post.length≤100000→x.names.length≤100000→post.length+1≤n→
  ∃e',Dh n p x lv ij env.names env.types env.levels (pre.length:Int)=some e'∧RelE (sc++bsOf lv' post qf) e':=by
 have hB:=bgE
 intro post
 induction post with
 |nil=>
  intro qf pre pf n sc env g1 g2 g3 g4 hR hs hx hn
  obtain⟨n,rfl⟩:∃k,n=k+1:=⟨n - 1,by omega⟩
  rw [Dh,if_neg (by rw [g1]; simp)]
  refine⟨_,rfl,?_⟩
  simp only [bsOf,List.append_nil]
  exact⟨hR.n,hR.t,hR.l⟩
 | cons y post ih=>
  intro qf pre pf n sc env g1 g2 g3 g4 hR hs hx hn
  cases qf with
  |nil=>simp at g4
  |cons f qf=>
   simp only [List.length_cons] at hs hn g4
   obtain⟨n,rfl⟩:∃k,n=k+1:=⟨n - 1,by omega⟩
   obtain⟨e',ha,hR'⟩:=Vc hR (by omega) y f lv lv'
   rw [Dh,if_pos (Ai g1),AW g1,AA,h1,AA,h2,AA,g3,AW g2,AA,← g3]
   have hee:(⟨env.names,env.types,env.levels⟩:L05Env)=env:=by cases env; rfl
   rw [hee,ha,AA,AP g1 (by omega)]
   obtain⟨e2,q1,q2⟩:=ih qf (pre++[y]) (pf++[f]) n (sc++[⟨y,f,lv'⟩]) e' (by rw [g1]; simp) (by rw [g2]; simp) (by simp [g3]) (by omega) hR' (by simp; omega) hx (by omega)
   refine⟨e2,q1,?_⟩
   rw [bsOf]; simpa using q2
theorem UA {p:TProgram} {a1:Node} {sc:List Binder} {k9:Int} {nm9:ByteArray} {ks9:List TType} {nk9:List Node} {q9:Int} {v:TType × Bool × Node} {ij:Int × Int} {L:List Term} {x:Term} {d:Data} {c:Constructor} (h1:at? p.datas ij.1 =some d) (h2:at? d.cons q9=some c):
  ∀ (post:List ByteArray) (qf:List TType) (pre:List ByteArray) (pf:List TType) (r:Nat) (bs:List Binder),x.names=pre++post→c.fields=pf++qf→pre.length=pf.length→post.length=qf.length→bs.length+post.length≤100000→x.names.length≤100000→
  BI (post.length+(r+1)) ⟨p⟩ a1 sc k9 nm9 ks9 nk9 q9 v ij L x bs (pre.length:Int)=BI (r+1) ⟨p⟩ a1 sc k9 nm9 ks9 nk9 q9 v ij L x (bs++bsOf v.2.2.level post qf) (x.names.length:Int):=by
 have hB:=bgE
 intro post
 induction post with
 |nil=>
  intro qf pre pf r bs g1 g2 g3 g4 hs hx
  rw [List.append_nil] at g1
  simp only [bsOf,List.append_nil,List.length_nil,Nat.zero_add,g1]
 | cons y post ih=>
  intro qf pre pf r bs g1 g2 g3 g4 hs hx
  cases qf with
  |nil=>simp at g4
  |cons f qf=>
   simp only [List.length_cons] at hs g4
   rw [List.length_cons,show post.length+1+(r+1)=(post.length+(r+1))+1 from by omega,BI,if_pos (Ai g1),AW g1,AA]
   simp only []
   rw [h1,AA,h2,AA,g3,AW g2,AA,← g3,EW (by simp; omega),AA,AP g1 (by omega),ih qf (pre++[y]) (pf++[f]) r (bs++[(⟨y,f,v.2.2.level⟩:Binder)]) (by rw [g1]; simp) (by rw [g2]; simp) (by simp [g3]) (by omega) (by simp; omega) hx,bsOf]
   simp
theorem bE {α β:Type} {l:List α} {m:List β} {f:α × β→Bool} (h:(l.zip m).all f=true) {pre post:List α} {x:α} (hl:l=pre++x::post) (hlen:l.length=m.length):∃y,at? m (pre.length:Int)=some y∧y ∈ m∧f (x,y)=true:=by
 subst hl
 induction pre generalizing m with
 | nil=>
  cases m with
  |nil=>simp at hlen
  |cons y m=>
   rw [List.nil_append,List.zip_cons_cons,List.all_cons,Bool.and_eq_true] at h
   exact⟨y,by simp [at?],by simp,h.1⟩
 | cons a pre ih=>
  cases m with
  |nil=>simp at hlen
  |cons y m=>
   rw [List.cons_append,List.zip_cons_cons,List.all_cons,Bool.and_eq_true] at h
   obtain⟨z,h1,h2,h3⟩:=ih h.2 (by simpa using hlen)
   refine⟨z,?_,List.mem_cons_of_mem _ h2,h3⟩
   rw [at?,if_pos (by omega)] at h1 ⊢
   simpa using h1
theorem Vg {p:TProgram} (hc:PCx p) {t:Term} (htz:t.sz≤1048576) (ih:∀x ∈ t.kids,∀y ∈ x.kids,Pr p y) (h9:t.kind=9) (ho:t.okS=true) (hn:t.allT (nfL p.datas)=true) (hcc:t.allT (ccL p.datas)=true)
  {e:Nat} {env:L05Env} {sc:List Binder} {lv lv':Int} (hR:RelE sc env) (hE:∀b ∈ sc,b.typ.okB=true∧b.typ.sz≤e) (he1:1048576≤e) (he2:e+4*t.sz+4≤100000000) (hd:sc.length+4*t.dep≤1000)
  (hcl:t.clT (fHas p.defs) (sc.map Binder.name)=true) {k0:Term} {L:List Term} (hk:t.kids=k0::L) (hL10:∀x ∈ L,x.kind=10) {ij:Int × Int} {d:Data} (hd1:at? p.datas ij.1 =some d) (hdm:d ∈ p.datas) (hlen:L.length=d.cons.length) (hzip:(L.zip d.cons).all IF=true) (nd0:Node):
  ∀ (post pre:List Term) (nk:List Node) (P:TType) (n m:Nat),L=pre++post→nk.length=pre.length+1→(pre≠ [] →P.okB=true∧P.sz≤e+4*t.sz)→(post=[] →pre≠ [])→64*t.sz+8*post.length+1≤n→64*t.sz+8*post.length+1≤m→
  ∃T b nd,B3 n p t env lv P.kind P.name P.kids (((pre.length+1:Nat)):Int)=some (T,b)∧
   A8 m ⟨p⟩ ⟨t,⟨0,ByteArray.empty,[]⟩,lv',[],[],none⟩ sc (nd0.typ,true,⟨t,⟨0,ByteArray.empty,[]⟩,lv',[nd0],[],none⟩) ij L P.kind P.name P.kids nk (pre.length:Int)=some (b,nd)∧b4 T∧(b=true→nd.typ=T∧T.okB=true∧T.sz≤e+4*t.sz):=by
 have hB:=bgE
 have hkl:t.kids.length≤5:=by
  have h:=(Hb ho).2
  rw [h9] at h
  have h':(t.kids.length:Int)≤5:=h
  omega
 have hLl:L.length+1=t.kids.length:=by rw [hk]; rfl
 intro post
 induction post with
 |nil=>
  intro pre nk P n m h1 h2 h3 h4 hfn hfm
  obtain⟨n,rfl⟩:∃k,n=k+1:=⟨n - 1,by omega⟩
  obtain⟨m,rfl⟩:∃k,m=k+1:=⟨m - 1,by omega⟩
  rw [List.append_nil] at h1
  have hP:=h3 (h4 rfl)
  have hpl:pre.length+1=t.kids.length:=by rw [← hLl,h1]
  rw [B3,if_neg (by simp; omega),A8,if_neg (by simp [h1])]
  simp only [TType.eta,Term.eta]
  exact⟨_,_,_,rfl,rfl,OG hP.1,fun _=>⟨rfl,hP.1,hP.2⟩⟩
 | cons x post ihp=>
  intro pre nk P n m h1 h2 h3 h4 hfn hfm
  rw [List.length_cons] at hfn hfm
  have hxL:x ∈ L:=BZ h1
  have hx:x ∈ t.kids:=by rw [hk]; exact List.mem_cons_of_mem _ hxL
  have hx10:=hL10 x hxL
  have hox:=Ft ho hx
  obtain⟨y,hy⟩:=Ve hox (Or.inr (Or.inr hx10))
  have hyx:y ∈ x.kids:=by rw [hy]; simp
  have s1:=K5 hx
  have s2:=K5 hyx
  have d1:=Im hx
  have d2:=Im hyx
  have hpl:pre.length+1≤L.length:=by rw [h1]; simp
  have hnl:x.names.length≤3:=by
   have:=(Li hox).2.1
   unfold fldB at this
   simp [hx10] at this
   exact this.1.2.1
  obtain⟨c,c1,c2,c3⟩:=bE hzip h1 hlen
  unfold IF at c3
  simp only [Bool.and_eq_true,decide_eq_true_eq] at c3
  have hcn:x.name=c.name:=CW.1 c3.1
  obtain⟨u1,u2⟩:=ZM hc.d hdm c2
  rw [← hcn] at u1 u2
  obtain⟨i2,j2,w1,w2,w3,w4,w5⟩:=K4 u1
  rw [u2] at w3
  have hpz:=hc.z
  unfold TProgram.sz at hpz
  have hfs:∀f ∈ c.fields,f.okB=true∧f.sz≤e:=fun f hf=>by
   refine⟨Vb ((OE hc.d hdm).2.2.2 c c2) hf,?_⟩
   have z1:=Ah (s:=TType.sz) hf
   have z2:=Ah (s:=Constructor.sz) c2
   have z3:=Ah (s:=Data.sz) hdm
   have z4:c.sz=c.name.size+(szl TType.sz c.fields+0):=rfl
   have z5:d.sz=d.name.size+(szl Constructor.sz d.cons+0):=rfl
   omega
  obtain⟨e',ce,hR'⟩:=T9 (p:=p) (x:=x) (lv:=lv) (lv':=lv') (ij:=((i2:Int),(j2:Int))) w2 w3 x.names c.fields [] [] fuel sc env rfl rfl rfl c3.2 hR (by omega) (by omega) (CY (by omega))
  have hcase:JP p x env lv=some e':=by
   unfold JP
   rw [JY p.datas (by omega),AA,w1]
   exact ce
  have hbl:=T7 lv' x.names c.fields c3.2
  obtain⟨n,rfl⟩:∃k,n=k+2:=⟨n - 2,by omega⟩
  obtain⟨r,rfl⟩:∃k,m=(x.names.length+(k+1+1))+1:=⟨m - x.names.length - 3,by omega⟩
  obtain⟨T,b,nd,q1,q2,q3,q4⟩:=ih x hx y hyx (by omega) (JW hox (by omega) hyx) (Ft hox hyx) (B5 (B5 hn hx) hyx) (B5 (B5 hcc hx) hyx) e e' (sc++bsOf lv' x.names c.fields) lv lv' (n+1) r hR'
   (fun b hb=>by
    rcases List.mem_append.1 hb with h|h
    ·exact hE b h
    ·exact hfs _ (T8 lv' _ _ b h)) he1 (by omega) (by simp [hbl]; omega)
   (by
    have h1':t.kids=(k0::pre)++x::post:=by rw [hk,h1]; rfl
    have a1:=Il hcl h1'
    rw [show CX t (k0::pre).length =[] from by unfold CX; simp [h9],List.append_nil] at a1
    have a2:=Il (pre:=[]) a1 hy
    rw [show CX x ([] :List Term).length =x.names from by unfold CX; simp [hx10]] at a2
    rw [List.map_append,QX lv' x.names c.fields c3.2]; exact a2) (by omega) (by omega)
  have hkk:t.kids=(k0::pre)++x::post:=by rw [hk,h1]; rfl
  have hidx:(((pre.length+1:Nat)):Int)=((List.length (k0::pre):Nat):Int):=rfl
  have hidx2:((List.length ((k0::pre)++[x]):Nat):Int)=((((pre++[x]).length +1:Nat)):Int):=by simp
  have es:B3 (n+2) p t env lv P.kind P.name P.kids (((pre.length+1:Nat)):Int)=
    if (b&&(decide (pre.length=0)||decide (T=P)))=true then B3 n p t env lv T.kind T.name T.kids ((((pre++[x]).length +1:Nat)):Int) else some (⟨0,ByteArray.empty,[]⟩,false):=by
   rw [B3,hidx,if_pos (Ai hkk),AW hkk,AA,hy,show at? [y] 0=some y from rfl,AA,hcase,AA,q1,AA]
   simp only [Dr,TType.eta]
   rw [AP hkk (by omega),hidx2]
   cases hb:b with
   |false=>simp
   | true=>
    obtain⟨r1,r2,r3⟩:=q4 hb
    rw [if_neg (by simp),JX T (by omega) P fuel (D8 (by omega)),AA]
    by_cases h0:pre.length=0
    ·have:pre=[] :=List.eq_nil_of_length_eq_zero h0
     subst this
     simp
    ·rw [if_pos (by simp; omega)]
     by_cases hTP:T=P <;> simp [h0,hTP]
  have hw:Dg sc (bsOf lv' x.names c.fields)=some (sc++bsOf lv' x.names c.fields):=if_pos (by rw [hbl]; omega)
  have hkd:=Ma (p:=p) (a1:=⟨x,⟨0,ByteArray.empty,[]⟩,lv',[],bsOf lv' x.names c.fields,none⟩) (sc:=sc++bsOf lv' x.names c.fields) (lv:=lv') (x:=y) (nd:=nd) (b:=b) (m:=r) (by rw [hy]; rfl) q2 (by simp [Big])
  have ei:∃nk',nk'.length=(pre++[x]).length +1∧∃ndg,A8 ((x.names.length+(r+1+1))+1) ⟨p⟩ ⟨t,⟨0,ByteArray.empty,[]⟩,lv',[],[],none⟩ sc (nd0.typ,true,⟨t,⟨0,ByteArray.empty,[]⟩,lv',[nd0],[],none⟩) ij L P.kind P.name P.kids nk (pre.length:Int)=
    if (b&&(decide (pre.length=0)||decide (T=P)))=true then A8 r ⟨p⟩ ⟨t,⟨0,ByteArray.empty,[]⟩,lv',[],[],none⟩ sc (nd0.typ,true,⟨t,⟨0,ByteArray.empty,[]⟩,lv',[nd0],[],none⟩) ij L T.kind T.name T.kids nk' ((List.length (pre++[x]):Nat):Int) else some (false,ndg):=by
   have hcl2:=UA (p:=p) (a1:=⟨t,⟨0,ByteArray.empty,[]⟩,lv',[],[],none⟩) (sc:=sc) (k9:=P.kind) (nm9:=P.name) (ks9:=P.kids) (nk9:=nk) (q9:=(pre.length:Int)) (v:=(nd0.typ,true,⟨t,⟨0,ByteArray.empty,[]⟩,lv',[nd0],[],none⟩)) (ij:=ij) (L:=L) (x:=x) hd1 c1 x.names c.fields [] [] (r+1) [] rfl rfl rfl c3.2 (by simp; omega) (by omega)
   rw [List.nil_append] at hcl2
   have hcl3:BI (x.names.length+(r+1+1)) ⟨p⟩ ⟨t,⟨0,ByteArray.empty,[]⟩,lv',[],[],none⟩ sc P.kind P.name P.kids nk (pre.length:Int) (nd0.typ,true,⟨t,⟨0,ByteArray.empty,[]⟩,lv',[nd0],[],none⟩) ij L x [] 0=_:=hcl2
   rw [A8,if_pos (Ai h1),AW h1,AA,hcl3,BI,if_neg (by simp)]
   simp only [TType.eta,Term.eta]
   rw [hw,AA,hkd,AA]
   simp only [TType.eta,Term.eta,List.nil_append]
   rw [EW (by simp; omega),AA]
   simp only [CS,TType.eta,Term.eta]
   rw [AP h1 (by omega)]
   refine⟨nk++[⟨x,nd.typ,lv',[nd],bsOf lv' x.names c.fields,none⟩],by simp [h2],⟨t,P,lv',nk++[⟨x,nd.typ,lv',[nd],bsOf lv' x.names c.fields,none⟩],[],none⟩,?_⟩
   cases hb:b with
   |false=>simp
   | true=>
    obtain⟨r1,r2,r3⟩:=q4 hb
    rw [if_neg (by simp),r1,Gn T (by omega) P fuel (D8 (by omega)),AA]
    by_cases h0:pre.length=0
    ·have:pre=[] :=List.eq_nil_of_length_eq_zero h0
     subst this
     simp
    ·rw [if_pos (by simp; omega)]
     by_cases hTP:T=P <;> simp [h0,hTP]
  obtain⟨nk',hnk,ndg,ei⟩:=ei
  rw [es,ei]
  by_cases hgo:(b&&(decide (pre.length=0)||decide (T=P)))=true
  ·rw [if_pos hgo,if_pos hgo]
   rw [Bool.and_eq_true] at hgo
   obtain⟨r1,r2,r3⟩:=q4 hgo.1
   exact ihp (pre++[x]) nk' T (n) r (by rw [h1]; simp) hnk (fun _=>⟨r2,by omega⟩) (fun _=>by simp) (by omega) (by omega)
  ·rw [if_neg hgo,if_neg hgo]
   exact⟨_,_,_,rfl,rfl,fun h=>by simp at h,fun h=>by cases h⟩
end Go.Proofs.YtaedfiifhjlmlaaGreat.Ab
