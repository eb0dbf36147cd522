/-
  Nets that are rewritten: ports, wires, links. No program is in sight.
-/
import Derived.Test.YtckcfdggbbabfaaGreatModG
import Derived.Test.YtckcfdggbbabfaaGreatPlNet
namespace Go.Proofs.YtckcfdggbbabfaaGreat.Ab
set_option linter.unusedVariables false
set_option linter.unusedSimpArgs false
open Go.RowKit
theorem B7 {p q:Port} (h1:p.agent=q.agent) (h2:p.slot=q.slot):p=q:=by cases p; cases q; simp_all
instance:DecidableEq Port:=fun p q=>if h:p.agent=q.agent∧p.slot=q.slot then isTrue (B7 h.1 h.2) else isFalse fun e=>h ⟨by rw [e],by rw [e]⟩
theorem MD {α:Type} {l:List α} {k:Nat} {x:α} (h:l[k]? =some x):at? l (k:Int)=some x:=by
 unfold at?; rw [if_pos (by omega)]; simpa using h
theorem C6 {α:Type} {l:List α} {i:Int} {x:α} (h:at? l i=some x):0≤i∧i<(l.length:Int):=by
 obtain⟨h1,h2⟩:=A9 h
 have:=(List.getElem?_eq_some_iff.1 h2).1
 omega
theorem UD {α:Type} {l:List α} {i j:Int} {x y:α} (h:at? l i=some x):at? (l.set i.toNat y) j=if j=i then some y else at? l j:=by
 obtain⟨h1,h2⟩:=A9 h
 have hlt:=(List.getElem?_eq_some_iff.1 h2).1
 unfold at?
 by_cases hj:0≤j
 ·rw [if_pos hj,if_pos hj,List.getElem?_set]
  by_cases e:j=i
  ·subst e; rw [if_pos rfl,if_pos hlt,if_pos rfl]
  ·rw [if_neg (by omega),if_neg e]
 ·rw [if_neg hj,if_neg hj,if_neg (by omega)]
abbrev get (l:List Agent) (p:Port):Option Port:=FM l p
theorem Ay {l} {p q}:get l p=some q↔∃a,at? l p.agent=some a∧at? a.ports p.slot=some q:=by
 unfold get FM
 exact Option.bind_eq_some_iff
def upd (l:List Agent) (p q:Port):List Agent:=match at? l p.agent with
 |some a=>l.set p.agent.toNat ⟨a.kind,a.level,a.value,a.data,a.ports.set p.slot.toNat q⟩
 |none=>l
theorem Hg {l} {p q} {a} (h:at? l p.agent=some a):upd l p q=l.set p.agent.toNat ⟨a.kind,a.level,a.value,a.data,a.ports.set p.slot.toNat q⟩:=by unfold upd; rw [h]
theorem YH {l} {p q}:(upd l p q).length =l.length:=by
 unfold upd; split <;> simp
theorem K8 {l:List Agent} {p q:Port} {a:Agent} (h:at? l p.agent=some a) {k:Int}:at? (upd l p q) k=if k=p.agent then some ⟨a.kind,a.level,a.value,a.data,a.ports.set p.slot.toNat q⟩ else at? l k:=by
 rw [Hg h,UD h]
theorem K9 {l:List Agent} {p q r:Port} {v:Port} (h:get l p=some v):get (upd l p q) r=if r=p then some q else get l r:=by
 obtain⟨a,h1,h2⟩:=Ay.1 h
 unfold get FM
 rw [K8 h1]
 by_cases e:r.agent=p.agent
 ·rw [if_pos e,Option.bind_some]
  simp only
  rw [UD h2]
  by_cases e2:r.slot=p.slot
  ·rw [if_pos e2,if_pos (B7 e e2)]
  ·rw [if_neg e2,if_neg (fun h=>e2 (by rw [h])),e,h1]; rfl
 ·rw [if_neg e,if_neg (fun h=>e (by rw [h]))]
def sh (a:Agent):Int × Int × Int × List Int × Nat:=(a.kind,a.level,a.value,a.data,a.ports.length)
theorem bX {l} {p q}:(upd l p q).map sh=l.map sh:=by
 unfold upd
 split
 ·rename_i a h
  obtain⟨h1,h2⟩:=A9 h
  rw [List.map_set]
  have:sh ⟨a.kind,a.level,a.value,a.data,a.ports.set p.slot.toNat q⟩=sh a:=by simp [sh]
  rw [this]
  refine List.ext_getElem? fun i=>?_
  rw [List.getElem?_set]
  split
  ·rename_i e
   subst e
   rw [List.getElem?_map,h2]
   have:=(List.getElem?_eq_some_iff.1 h2).1
   simp [this]
  ·rfl
 ·rfl
def lk (l:List Agent) (p q:Port):List Agent:=upd (upd l p q) q p
theorem Np {l} {p q}:(lk l p q).length =l.length:=by unfold lk; rw [YH,YH]
theorem Vs {l} {p q}:(lk l p q).map sh=l.map sh:=by unfold lk; rw [bX,bX]
theorem UE {l} {p q r u v} (hp:get l p=some u) (hq:get l q=some v):get (lk l p q) r=if r=q then some p else if r=p then some q else get l r:=by
 unfold lk
 have h2:∃v',get (upd l p q) q=some v':=by
  rw [K9 hp]; split
  ·exact⟨_,rfl⟩
  ·exact⟨v,hq⟩
 obtain⟨v',h2⟩:=h2
 rw [K9 h2]
 split
 ·rfl
 ·rw [K9 hp]
theorem Hm {l} {p q u v} (hp:get l p=some u) (hq:get l q=some v):s_l11Link ⟨l⟩ p q=some ⟨lk l p q⟩:=by
 obtain⟨a,h1,h2⟩:=Ay.1 hp
 have h3:∃v',get (upd l p q) q=some v':=by
  rw [K9 hp]; split
  ·exact⟨_,rfl⟩
  ·exact⟨v,hq⟩
 obtain⟨v',h3⟩:=h3
 obtain⟨b,h4,h5⟩:=Ay.1 h3
 unfold s_l11Link CF Vi
 simp only
 rw [h1,AA,h2,AA,AA,AA,← Hg h1,h4,AA,h5,AA,AA,AA,← Hg h4]
 rfl
theorem KY (n:Net) (p q:Port):CO n p q=s_l11Link n p q:=rfl
theorem ME {l:List Agent} {p q a b u v:Port} (hne:p≠q) (hp:get l p=some u) (hq:get l q=some v):upd (upd l p a) q b=upd (upd l q b) p a:=by
 obtain⟨x,h1,h2⟩:=Ay.1 hp
 obtain⟨y,h3,h4⟩:=Ay.1 hq
 obtain⟨n1,-⟩:=A9 h1
 obtain⟨n3,-⟩:=A9 h3
 obtain⟨n2,-⟩:=A9 h2
 obtain⟨n4,-⟩:=A9 h4
 by_cases e:q.agent=p.agent
 ·have hxy:y=x:=by rw [e,h1] at h3; exact(Option.some.inj h3).symm
  subst hxy
  have hs:p.slot≠q.slot:=fun e2=>hne (B7 e.symm e2)
  have k1:at? (upd l p a) q.agent=some ⟨y.kind,y.level,y.value,y.data,y.ports.set p.slot.toNat a⟩:=by rw [K8 h1,if_pos e]
  have k2:at? (upd l q b) p.agent=some ⟨y.kind,y.level,y.value,y.data,y.ports.set q.slot.toNat b⟩:=by rw [K8 h3,if_pos e.symm]
  rw [Hg k1,Hg k2,Hg h1,Hg h3,e,List.set_set,List.set_set]
  simp only
  rw [List.set_comm _ _ (by omega)]
 ·have k1:at? (upd l p a) q.agent=some y:=by rw [K8 h1,if_neg e]; exact h3
  have k2:at? (upd l q b) p.agent=some x:=by rw [K8 h3,if_neg (fun h=>e h.symm)]; exact h1
  rw [Hg k1,Hg k2,Hg h1,Hg h3,List.set_comm _ _ (by omega)]
theorem UF {l} {p q u v} (hp:get l p=some u) (hq:get l q=some v):lk l p q=lk l q p:=by
 by_cases e:p=q
 ·subst e; rfl
 ·exact ME e hp hq
theorem LA {l} {p q} (h:get l p=some q):Gi ⟨l⟩ p=some q:=by
 obtain⟨a,h1,h2⟩:=Ay.1 h
 unfold Gi
 rw [h1,AA,h2]; rfl
theorem Od (n:Net) (p:Port):DB n p=Gi n p:=rfl
def mv (l:List Agent) (old now:Port):List Agent:=match get l old with
 |some v=>lk l now v
 |none=>l
theorem du {l} {o n v u u'} (ho:get l o=some v) (hv:get l v=some u) (hn:get l n=some u'):Bj ⟨l⟩ o n=some ⟨mv l o n⟩:=by
 unfold Bj mv
 rw [LA ho,AA,Hm hn hv,ho]; rfl
theorem UG {l} {b} {r} {o n v u u'} (ho:get l o=some v) (hv:get l v=some u) (hn:get l n=some u'):AU ⟨⟨l⟩,b,r⟩ o n=some ⟨⟨mv l o n⟩,b,r⟩:=by
 unfold AU mv
 simp only
 rw [Od,LA ho,AA,KY,Hm hv hn,AA,ho,UF hv hn]
def jn (l:List Agent) (p q:Port):List Agent:=match get l p,get l q with
 |some a,some b=>if a=q then l else lk l a b
 |_,_=>l
theorem Vt (a q:Port):(decide (a.agent=q.agent)&&decide (a.slot=q.slot))=decide (a=q):=by
 by_cases h:a=q
 ·subst h; simp
 ·rw [decide_eq_false h]
  cases hx:decide (a.agent=q.agent) with
  |false=>rfl
  |true=>
   rw [Bool.true_and]
   exact decide_eq_false fun h2=>h (B7 (of_decide_eq_true hx) h2)
theorem dv {l} {p q a b u v} (hp:get l p=some a) (hq:get l q=some b) (ha:get l a=some u) (hb:get l b=some v):Fn ⟨l⟩ p q=some ⟨jn l p q⟩:=by
 unfold Fn jn
 rw [LA hp,AA,LA hq,AA,Vt,hp,hq]
 by_cases h:a=q
 ·simp [h]
 ·simp [h,Hm ha hb,AA]
theorem bZ {l} {bk} {r} {p q a b u v} (hp:get l p=some a) (hq:get l q=some b) (ha:get l a=some u) (hb:get l b=some v):B9 ⟨⟨l⟩,bk,r⟩ p q=some ⟨⟨jn l p q⟩,bk,r⟩:=by
 unfold B9 jn
 simp only
 rw [Od,Od,LA hp,AA,LA hq,AA,Vt,hp,hq]
 by_cases h:a=q
 ·simp [h]
 ·simp [h,KY,Hm ha hb,AA]
def M (l:List Agent) (X:Port→Prop):Prop:=∀p q,get l p=some q→¬X p→¬X q∧q≠p∧get l q=some p
theorem M.mono {l} {X Y} (h:M l X) (hxy:∀p,X p↔Y p):M l Y:=fun p q hp hx=>by
 obtain⟨h1,h2,h3⟩:=h p q hp fun h=>hx ((hxy p).1 h)
 exact⟨fun h=>h1 ((hxy q).2 h),h2,h3⟩
theorem M.drop {l} {X} (h:M l X) {p q} (hp:get l p=some q) (hx:¬X p):M l fun r=>X r∨r=p∨r=q:=fun r s hr hn=>by
 obtain⟨h1,h2,h3⟩:=h r s hr fun h=>hn (.inl h)
 obtain⟨k1,k2,k3⟩:=h p q hp hx
 refine⟨fun hs=>?_,h2,h3⟩
 rcases hs with hs|rfl|rfl
 ·exact h1 hs
 ·rw [hp] at h3; cases h3; exact hn (.inr (.inr rfl))
 ·rw [k3] at h3; cases h3; exact hn (.inr (.inl rfl))
theorem Jl {l} {p q r u v} (hp:get l p=some u) (hq:get l q=some v) (h1:r≠p) (h2:r≠q):get (lk l p q) r=get l r:=by rw [UE hp hq,if_neg h2,if_neg h1]
theorem M.link {l} {X} (h:M l X) {p q u v} (hp:get l p=some u) (hq:get l q=some v) (hne:p≠q) (xp:X p) (xq:X q):M (lk l p q) fun r=>X r∧r≠p∧r≠q:=fun r s hr hn=>by
 rw [UE hp hq] at hr
 by_cases e1:r=q
 ·subst e1
  rw [if_pos rfl] at hr; cases hr
  exact⟨fun h=>h.2.1 rfl,hne,by rw [UE hp hq,if_neg hne,if_pos rfl]⟩
 ·rw [if_neg e1] at hr
  by_cases e2:r=p
  ·subst e2
   rw [if_pos rfl] at hr; cases hr
   exact⟨fun h=>h.2.2 rfl,fun h=>hne h.symm,by rw [UE hp hq,if_pos rfl]⟩
  ·rw [if_neg e2] at hr
   have hnx:¬X r:=fun h=>hn ⟨h,e2,e1⟩
   obtain⟨h1,h2,h3⟩:=h r s hr hnx
   have n1:s≠p:=fun e=>h1 (e ▸ xp)
   have n2:s≠q:=fun e=>h1 (e ▸ xq)
   exact⟨fun h=>h1 h.1,h2,by rw [Jl hp hq n1 n2]; exact h3⟩
theorem M.move {l} {X} (h:M l X) {o n v u'} (ho:get l o=some v) (xo:¬X o) (hn:get l n=some u') (xn:X n):M (mv l o n) fun r=>(X r∨r=o)∧r≠n:=by
 obtain⟨k1,k2,k3⟩:=h o v ho xo
 have hnv:n≠v:=fun e=>k1 (e ▸ xn)
 have:=(h.drop ho xo).link hn k3 hnv (.inl xn) (.inr (.inr rfl))
 unfold mv
 rw [ho]
 refine this.mono fun r=>?_
 constructor
 ·rintro ⟨h1|h1|h1,h2,h3⟩
  ·exact⟨.inl h1,h2⟩
  ·exact⟨.inr h1,h2⟩
  ·exact absurd h1 h3
 ·rintro ⟨h1|h1,h2⟩
  ·exact⟨.inl h1,h2,fun e=>k1 (e ▸ h1)⟩
  ·exact⟨.inr (.inl h1),h2,fun e=>k2 (by rw [← e,h1])⟩
theorem M.join {l} {X} (h:M l X) {p q a b} (hp:get l p=some a) (hq:get l q=some b) (xp:¬X p) (xq:¬X q) (hne:p≠q):M (jn l p q) fun r=>X r∨r=p∨r=q:=by
 obtain⟨k1,k2,k3⟩:=h p a hp xp
 obtain⟨m1,m2,m3⟩:=h q b hq xq
 unfold jn
 rw [hp,hq]
 by_cases e:a=q
 ·subst e
  simp only [if_pos rfl]
  exact h.drop hp xp
 ·simp only [if_neg e]
  have hab:a≠b:=fun e2=>by rw [e2,m3] at k3; cases k3; exact hne rfl
  have hqa:¬ (X q∨q=p∨q=a):=fun hx=>by
   rcases hx with hx|hx|hx
   ·exact xq hx
   ·exact hne hx.symm
   ·exact e hx.symm
  have h2:=((h.drop hp xp).drop hq hqa).link k3 m3 hab (.inl (.inr (.inr rfl))) (.inr (.inr rfl))
  refine h2.mono fun r=>?_
  constructor
  ·rintro ⟨(h1|h1|h1)|h1|h1,h3,h4⟩
   ·exact .inl h1
   ·exact .inr (.inl h1)
   ·exact absurd h1 h3
   ·exact .inr (.inr h1)
   ·exact absurd h1 h4
  ·intro hr
   have hpb:p≠b:=fun e2=>e (by rw [← e2,hp] at m3; exact Option.some.inj m3)
   rcases hr with h1|h1|h1
   ·exact⟨.inl (.inl h1),fun e=>k1 (e ▸ h1),fun e=>m1 (e ▸ h1)⟩
   ·subst h1; exact⟨.inl (.inr (.inl rfl)),fun e=>k2 e.symm,hpb⟩
   ·subst h1; exact⟨.inr (.inl rfl),fun e2=>e e2.symm,fun e=>m2 e.symm⟩
end Go.Proofs.YtckcfdggbbabfaaGreat.Ab
namespace Go.Proofs.YtckcfdggbbabfaaGreat.Ab
set_option linter.unusedVariables false
set_option linter.unusedSimpArgs false
open Go.RowKit
theorem Aj {p:Port} {a s:Int}:p=⟨a,s⟩↔p.agent=a∧p.slot=s:=⟨fun h=>by subst h; exact⟨rfl,rfl⟩,fun h=>B7 h.1 h.2⟩
def ba:Agent:=⟨0,0,0,[],[]⟩
structure Ok (S:Int→Prop) (X:Port→Prop) (A B:List Agent):Prop where
 len:A.length=B.length
 ag:∀k,¬S k→at? A k=at? B k
 hl:∀k,S k→at? B k=some ba
 m:M A X
 sx:∀p,S p.agent→X p
section
variable {S:Int→Prop} {X:Port→Prop} {A B:List Agent}
theorem Ok.mono {Y} (h:Ok S X A B) (hxy:∀p,X p↔Y p):Ok S Y A B:=⟨h.len,h.ag,h.hl,h.m.mono hxy,fun p hp=>(hxy p).1 (h.sx p hp)⟩
theorem Ok.get (h:Ok S X A B) {p} (hp:¬S p.agent):get B p=get A p:=by
 unfold Ab.get FM; rw [h.ag _ hp]
theorem Ok.live (h:Ok S X A B) {p} (hp:¬X p):¬S p.agent:=fun hs=>hp (h.sx p hs)
theorem Ok.s_lt (h:Ok S X A B) {k} (hk:S k):0≤k∧k<(A.length:Int):=by
 have:=C6 (h.hl k hk); rw [h.len]; exact this
theorem jy {l} {p q u v} (hp:Ab.get l p=some u) (hq:Ab.get l q=some v) {k} (h1:k≠p.agent) (h2:k≠q.agent):at? (lk l p q) k=at? l k:=by
 unfold lk
 have h2':∃v',Ab.get (upd l p q) q=some v':=by
  rw [K9 hp]; split
  ·exact⟨_,rfl⟩
  ·exact⟨v,hq⟩
 obtain⟨v',h3⟩:=h2'
 obtain⟨a,h4,-⟩:=Ay.1 hp
 obtain⟨b,h5,-⟩:=Ay.1 h3
 rw [K8 h5,if_neg h2,K8 h4,if_neg h1]
theorem Rs {A B} {p q} {k} (hp:at? A p.agent=at? B p.agent) (hk:at? A k=at? B k):at? (upd A p q) k=at? (upd B p q) k:=by
 cases h:at? A p.agent with
 |none=>unfold upd; rw [← hp,h]; exact hk
 |some a=>rw [K8 h,K8 (hp ▸ h),hk]
theorem dw {A B} {p q} {k} (hp:at? A p.agent=at? B p.agent) (hq:at? A q.agent=at? B q.agent) (hk:at? A k=at? B k):at? (lk A p q) k=at? (lk B p q) k:=by
 unfold lk
 exact Rs (Rs hp hq) (Rs hp hk)
theorem Ok.lk' (h:Ok S X A B) {p q u v} (hp:Ab.get A p=some u) (hq:Ab.get A q=some v) (sp:¬S p.agent) (sq:¬S q.agent) {Y} (hm:M (lk A p q) Y) (hy:∀r,S r.agent→Y r):Ok S Y (lk A p q) (lk B p q):=by
 refine⟨by rw [Np,Np]; exact h.len,fun k hk=>dw (h.ag _ sp) (h.ag _ sq) (h.ag k hk),fun k hk=>?_,hm,hy⟩
 rw [jy ((h.get sp).trans hp) ((h.get sq).trans hq) (fun e=>sp (e ▸ hk)) (fun e=>sq (e ▸ hk))]
 exact h.hl k hk
theorem Ok.link (h:Ok S X A B) {p q u v} (hp:Ab.get A p=some u) (hq:Ab.get A q=some v) (hne:p≠q) (xp:X p) (xq:X q) (sp:¬S p.agent) (sq:¬S q.agent):
  CO ⟨A⟩ p q=some ⟨lk A p q⟩∧CO ⟨A⟩ q p=some ⟨lk A p q⟩∧s_l11Link ⟨B⟩ p q=some ⟨lk B p q⟩∧s_l11Link ⟨B⟩ q p=some ⟨lk B p q⟩∧Ok S (fun r=>X r∧r≠p∧r≠q) (lk A p q) (lk B p q):=by
 have hp':=(h.get sp).trans hp
 have hq':=(h.get sq).trans hq
 refine⟨by rw [KY,Hm hp hq],by rw [KY,Hm hq hp,UF hq hp],Hm hp' hq',by rw [Hm hq' hp',UF hq' hp'],h.lk' hp hq sp sq (h.m.link hp hq hne xp xq) fun r hr=>⟨h.sx r hr,fun e=>sp (e ▸ hr),fun e=>sq (e ▸ hr)⟩⟩
theorem Ok.move (h:Ok S X A B) {o n v u} (ho:Ab.get A o=some v) (xo:¬X o) (hn:Ab.get A n=some u) (xn:X n) (sn:¬S n.agent):
  (∀b r,AU ⟨⟨A⟩,b,r⟩ o n=some ⟨⟨mv A o n⟩,b,r⟩)∧Bj ⟨B⟩ o n=some ⟨mv B o n⟩∧Ok S (fun r=>(X r∨r=o)∧r≠n) (mv A o n) (mv B o n)∧(mv A o n).length =A.length∧(mv A o n).map sh=A.map sh:=by
 obtain⟨k1,k2,k3⟩:=h.m o v ho xo
 have so:=h.live xo
 have sv:=h.live k1
 have hm:=h.m.move ho xo hn xn
 have ho':=(h.get so).trans ho
 have hv':=(h.get sv).trans k3
 have hn':=(h.get sn).trans hn
 refine⟨fun b r=>UG ho k3 hn,du ho' hv' hn',?_,?_,?_⟩
 ·have e1:mv A o n=lk A n v:=by unfold mv; rw [ho]
  have e2:mv B o n=lk B n v:=by unfold mv; rw [ho']
  rw [e1] at hm ⊢
  rw [e2]
  exact h.lk' hn k3 sn sv hm fun r hr=>⟨.inl (h.sx r hr),fun e=>sn (e ▸ hr)⟩
 ·unfold mv; rw [ho]; exact Np
 ·unfold mv; rw [ho]; exact Vs
theorem Ok.join (h:Ok S X A B) {p q a b} (hp:Ab.get A p=some a) (hq:Ab.get A q=some b) (xp:¬X p) (xq:¬X q) (hne:p≠q):
  (∀bk r,B9 ⟨⟨A⟩,bk,r⟩ p q=some ⟨⟨jn A p q⟩,bk,r⟩)∧Fn ⟨B⟩ p q=some ⟨jn B p q⟩∧Ok S (fun r=>X r∨r=p∨r=q) (jn A p q) (jn B p q)∧(jn A p q).length =A.length∧(jn A p q).map sh=A.map sh:=by
 obtain⟨k1,k2,k3⟩:=h.m p a hp xp
 obtain⟨m1,m2,m3⟩:=h.m q b hq xq
 have sp:=h.live xp
 have sq:=h.live xq
 have sa:=h.live k1
 have sb:=h.live m1
 have hm:=h.m.join hp hq xp xq hne
 have hp':=(h.get sp).trans hp
 have hq':=(h.get sq).trans hq
 refine⟨fun bk r=>bZ hp hq k3 m3,dv hp' hq' ((h.get sa).trans k3) ((h.get sb).trans m3),?_,?_,?_⟩
 ·have e1:jn A p q=if a=q then A else lk A a b:=by unfold jn; rw [hp,hq]
  have e2:jn B p q=if a=q then B else lk B a b:=by unfold jn; rw [hp',hq']
  rw [e1] at hm ⊢
  rw [e2]
  by_cases e:a=q
  ·rw [if_pos e] at hm ⊢
   rw [if_pos e]
   exact⟨h.len,h.ag,h.hl,hm,fun r hr=>.inl (h.sx r hr)⟩
  ·rw [if_neg e] at hm ⊢
   rw [if_neg e]
   exact h.lk' k3 m3 sa sb hm fun r hr=>.inl (h.sx r hr)
 ·unfold jn; rw [hp,hq]
  simp only
  split
  ·rfl
  ·exact Np
 ·unfold jn; rw [hp,hq]
  simp only
  split
  ·rfl
  ·exact Vs
theorem Oe {α:Type} {l:List α} {x:α} {k:Int}:at? (l++[x]) k=if k=(l.length:Int) then some x else at? l k:=by
 unfold at?
 by_cases hk:0≤k
 ·rw [if_pos hk,if_pos hk]
  by_cases e:k=(l.length:Int)
  ·rw [if_pos e,List.getElem?_append_right (by omega),show k.toNat - l.length=0 from by omega]; rfl
  ·rw [if_neg e]
   by_cases h2:k.toNat<l.length
   ·rw [List.getElem?_append_left h2]
   ·rw [List.getElem?_eq_none (by rw [List.length_append,List.length_singleton]; omega),List.getElem?_eq_none (by omega)]
 ·rw [if_neg hk,if_neg hk,if_neg (by omega)]
theorem KZ {l:List Agent} {x:Agent} {p:Port}:Ab.get (l++[x]) p=if p.agent=(l.length:Int) then at? x.ports p.slot else Ab.get l p:=by
 unfold Ab.get FM
 rw [Oe]
 split <;> rfl
def newA (k lv v:Int) (d:List Int) (n:Nat):Agent:=⟨k,lv,v,d,List.replicate n ⟨0,0⟩⟩
theorem Ok.add (h:Ok S X A B) (a:Agent):Ok S (fun p=>X p∨p.agent=(A.length:Int)) (A++[a]) (B++[a]):=by
 refine⟨by rw [List.length_append,List.length_append,h.len],fun k hk=>by rw [Oe,Oe,h.len,h.ag k hk],fun k hk=>?_,fun p q hp hx=>?_,fun p hp=>.inl (h.sx p hp)⟩
 ·have:=h.s_lt hk
  rw [Oe,if_neg (by rw [← h.len]; omega)]; exact h.hl k hk
 ·have h1:p.agent≠(A.length:Int):=fun e=>hx (.inr e)
  rw [KZ,if_neg h1] at hp
  obtain⟨k1,k2,k3⟩:=h.m p q hp fun e=>hx (.inl e)
  obtain⟨b,hb,-⟩:=Ay.1 k3
  have:=C6 hb
  refine⟨fun hq=>?_,k2,by rw [KZ,if_neg (by omega)]; exact k3⟩
  rcases hq with hq|hq
  ·exact k1 hq
  ·omega
theorem XE (d:List Int) (hd:d.length≤Big):H2 d=some d:=by
 unfold H2
 rw [C2 (by simpa using hd)]; rfl
theorem Ta (d:List Int) (hd:d.length≤Big):Dd d=some d:=by
 unfold Dd
 rw [C2 (by simpa using hd)]; rfl
theorem Tb (d:List Port) (hd:d.length≤Big):Cl d=some d:=by
 unfold Cl
 rw [C2 (by simpa using hd)]; rfl
theorem YI (l:List Agent) (b:List Net) (r:List (Int × Bool)) (k lv v:Int) (d:List Int) (n:Nat) (hl:l.length+1≤Big) (hd:d.length≤Big) (hn:n≤Big):Ai ⟨⟨l⟩,b,r⟩ k lv v d (n:Int)=some ((l.length:Int),⟨⟨l++[newA k lv v d n]⟩,b,r⟩):=by
 unfold Ai newA
 simp only
 rw [Ta d hd,AA,Rr hn,AA,C2 (by simpa using hl),AA,List.length_append,List.length_singleton,w64 (by omega) (by unfold Big at hl; omega)]
 simp
theorem ZQ (net:Net) (k lv v:Int) (d:List Int) (hl:net.agents.length+1≤Big):∀ (n m:Nat) (acc:List Port),acc.length+n≤Big→n<m→El m net k lv v d acc (n:Int)=some ((net.agents.length:Int),⟨net.agents++[⟨k,lv,v,d,acc++List.replicate n ⟨0,0⟩⟩]⟩):=by
 intro n
 induction n with
 |zero=>
  intro m acc ha hm
  obtain⟨m,rfl⟩:∃k,m=k+1:=⟨m - 1,by omega⟩
  rw [El,if_neg (by simp),C2 (by simpa using hl),AA,List.length_append,List.length_singleton,w64 (by omega) (by unfold Big at hl; omega)]
  simp
 |succ n ih=>
  intro m acc ha hm
  obtain⟨m,rfl⟩:∃k,m=k+1:=⟨m - 1,by omega⟩
  rw [El,if_pos (by simp),C2 (by simp; omega),AA,w64 (by omega) (by unfold Big at ha; omega),show (((n+1:Nat):Int) - 1)=(n:Int) from by omega,ih m _ (by simp; omega) (by omega),List.append_assoc,List.replicate_succ]
  rfl
theorem dx (l:List Agent) (k lv v:Int) (d:List Int) (n:Nat) (hl:l.length+1≤Big) (hd:d.length≤Big) (hn:n≤Big):Cj ⟨l⟩ k lv v d (n:Int)=some ((l.length:Int),⟨l++[newA k lv v d n]⟩):=by
 unfold Cj newA
 rw [XE d hd,AA,ZQ ⟨l⟩ k lv v d hl n fuel [] (by simpa using hn) (by rw [Ah]; unfold Big at hn; omega)]
 rfl
theorem PZ {l} {k s} {x} (h:at? (l.map sh) k=some x) (h0:0≤s) (hs:s<(x.2.2.2.2 :Int)):∃u,Ab.get l ⟨k,s⟩=some u:=by
 obtain⟨h1,h2⟩:=A9 h
 rw [List.getElem?_map] at h2
 cases ha:l[k.toNat]? with
 |none=>rw [ha] at h2; cases h2
 |some a=>
  rw [ha] at h2
  simp only [Option.map_some,Option.some.injEq] at h2
  subst h2
  obtain⟨u,hu,-⟩:=Ef (l:=a.ports) (i:=s) ⟨h0,hs⟩
  refine⟨u,Ay.2 ⟨a,?_,hu⟩⟩
  unfold at?; rw [if_pos h1]; exact ha
theorem Dv {l} {k} {a} (h:at? l k=some a):at? (l.map sh) k=some (sh a):=by
 obtain⟨h1,h2⟩:=A9 h
 unfold at?
 rw [if_pos h1,List.getElem?_map,h2]; rfl
theorem MF {l} {k} {x} (h:at? (l.map sh) k=some x):∃a,at? l k=some a∧sh a=x:=by
 obtain⟨h1,h2⟩:=A9 h
 rw [List.getElem?_map] at h2
 cases ha:l[k.toNat]? with
 |none=>rw [ha] at h2; cases h2
 |some a=>
  rw [ha] at h2
  exact⟨a,by unfold at?; rw [if_pos h1]; exact ha,by simpa using h2⟩
end
end Go.Proofs.YtckcfdggbbabfaaGreat.Ab
namespace Go.Proofs.YtckcfdggbbabfaaGreat.Ab
set_option linter.unusedVariables false
set_option linter.unusedSimpArgs false
open Go.RowKit
def hasL (k:Int):Bool:=decide (1≤k∧k≤12)&& !(decide (k=1)||decide (k=5)||decide (k=6))
theorem YJ (k:Int):EJ k=some (hasL k):=by
 rcases kind_cases k with h|h|h|h|h|h|h|h|h|h|h|h|h
 all_goals first|(subst h; simp [EJ,Gn,hasL,AA]; done)|skip
 have h2:¬ (1≤k∧k≤12):=by omega
 simp [EJ,Gn,hasL,AA,h2]
theorem YK (k:Int):EL k=some (hasL k):=by
 rcases kind_cases k with h|h|h|h|h|h|h|h|h|h|h|h|h
 all_goals first|(subst h; simp [EL,BG,hasL]; done)|skip
 have h':=Io h
 have h2:¬ (1≤k∧k≤12):=by omega
 simp [EL,BG,hasL,h',h2]
def be (b k l:Int):Bool:=decide (0≤b∧b≤8)&&levB k l&&(decide (k=6)||decide (k=12)||(hasL k&&decide (b<l)))
theorem dy (b k l:Int):G3 b k l=some (be b k l):=by
 have hl:Gg b=some (decide (0≤b∧b≤8)):=by
  unfold Gg
  by_cases h:0≤b <;> simp [h]
 unfold G3 be
 rw [hl,AA,Jk,AA]
 cases decide (0≤b∧b≤8) with
 |false=>rfl
 | true=>
  cases levB k l with
  |false=>rfl
  | true=>
   simp only [Bool.not_true,Bool.false_eq_true,if_false,E6,Bool.true_and]
   by_cases h6:k=6
   ·simp [h6]
   ·by_cases h12:k=12
    ·simp [h12]
    ·rw [YJ,AA]
     cases hasL k <;> simp [h6,h12]
theorem d6 (b k l:Int):G8 b k l=some (be b k l):=by
 unfold G8 be
 rw [Fi,AA,Mw,AA]
 cases decide (0≤b∧b≤8) with
 |false=>rfl
 | true=>
  cases levB k l with
  |false=>rfl
  | true=>
   simp only [Bool.not_true,Bool.false_eq_true,if_false,E8,E7,Bool.true_and]
   by_cases h6:k=6
   ·simp [h6]
   ·by_cases h12:k=12
    ·simp [h12]
    ·rw [YK,AA]
     cases hasL k <;> simp [h6,h12]
def consB (k:Int):Bool:=decide (k=3)||decide (k=7)||decide (k=8)||decide (k=10)||decide (k=11)
theorem bf (k:Int):G4 k=some (consB k):=by
 unfold G4 consB
 by_cases h3:k=3 <;> by_cases h7:k=7 <;> by_cases h8:k=8 <;> by_cases h10:k=10 <;> simp [h3,h7,h8,h10]
theorem bg (k:Int):G9 k=some (consB k):=by
 unfold G9 Ca consB
 by_cases h3:k=3 <;> by_cases h7:k=7 <;> by_cases h8:k=8 <;> by_cases h10:k=10 <;> by_cases h11:k=11 <;> simp [h3,h7,h8,h10,h11]
def ru (k1 l1 k2 l2:Int):Int:=
 if k1=5 then 4 else if k1=4 then (if k2=4∧l1=l2 then 2 else if be l1 k2 l2=true then 3 else 0)
 else if k1=2 then (if k2=3∧l1=l2 then 1 else 0) else if k1=6 then (if k2=7∨k2=8 then 5 else if k2=11 then 6 else 0)
 else if k1=9 then (if k2=10 then 6 else 0) else if k1=12 then (if consB k2=true then 7 else 0) else 0
theorem bh (k1 l1 k2 l2:Int):Ih k1 l1 k2 l2=some (ru k1 l1 k2 l2):=by
 unfold Ih ru
 by_cases h5:k1=5
 ·simp [h5]
 by_cases h4:k1=4
 ·simp only [h4,G5,dy,AA]
  by_cases a:k2=4 <;> by_cases b:l1=l2 <;> simp [a,b] <;> split <;> simp_all
 by_cases h2:k1=2
 ·simp only [h2,G6]
  by_cases a:k2=3 <;> by_cases b:l1=l2 <;> simp [a,b]
 by_cases h6:k1=6
 ·simp only [h6,G7]
  by_cases a:k2=7 <;> by_cases b:k2=8 <;> by_cases c:k2=11 <;> simp_all
 by_cases h9:k1=9
 ·by_cases a:k2=10 <;> simp [h9,a]
 by_cases h12:k1=12
 ·simp only [h12,bf,AA]
  cases consB k2 <;> simp
 simp [h5,h4,h2,h6,h9,h12]
theorem UH (k1 l1 k2 l2:Int):Gj k1 l1 k2 l2=some (ru k1 l1 k2 l2):=by
 unfold Gj ru
 by_cases h5:k1=5
 ·simp [h5]
 by_cases h4:k1=4
 ·simp only [h4,HA,d6,AA]
  by_cases a:k2=4 <;> by_cases b:l1=l2 <;> simp [a,b] <;> split <;> simp_all
 by_cases h2:k1=2
 ·simp only [h2,HB]
  by_cases a:k2=3 <;> by_cases b:l1=l2 <;> simp [a,b]
 by_cases h6:k1=6
 ·simp only [h6,HC]
  by_cases a:k2=7 <;> by_cases b:k2=8 <;> by_cases c:k2=11 <;> simp_all
 by_cases h9:k1=9
 ·by_cases a:k2=10 <;> simp [h9,a]
 by_cases h12:k1=12
 ·simp only [h12,bg,AA]
  cases consB k2 <;> simp
 simp [h5,h4,h2,h6,h9,h12]
def pcl (a b:Agent):Int:=if ru a.kind a.level b.kind b.level≠0 then ru a.kind a.level b.kind b.level else if ru b.kind b.level a.kind a.level≠0 then ru b.kind b.level a.kind a.level else 8
def pfi (a b:Agent):Int:=if ru a.kind a.level b.kind b.level≠0 then 1 else if ru b.kind b.level a.kind a.level≠0 then 2 else 0
structure Two (a b:Agent):Prop where
 la:levB a.kind a.level=true
 lb:levB b.kind b.level=true
 ra:a.kind≠1
 rb:b.kind≠1
theorem XF {a b} (h:Two a b):L8 a.kind a.level b.kind b.level=some (pcl a b,pfi a b):=by
 unfold L8 FU pcl pfi
 rw [Jk,AA,Jk,AA,bh,AA,bh,AA,h.la,h.lb]
 simp only [h.ra,h.rb,decide_false,Bool.false_eq_true,if_false,Bool.not_true]
 by_cases h1:ru a.kind a.level b.kind b.level=0 <;> by_cases h2:ru b.kind b.level a.kind a.level=0 <;> simp [h1,h2]
theorem Vu {a b} (h:Two a b):Ij a.kind a.level b.kind b.level=some true:=by
 unfold Ij
 rw [Mw,AA,Mw,AA,h.la,h.lb]
 simp [h.ra,h.rb]
theorem ZR {a b} (h:Two a b):Hz a.kind a.level b.kind b.level=some (pcl a b):=by
 unfold Hz FX pcl
 rw [Vu h,AA,UH,AA,UH,AA]
 by_cases h1:ru a.kind a.level b.kind b.level=0 <;> by_cases h2:ru b.kind b.level a.kind a.level=0 <;> simp [h1,h2]
theorem ZS {a b} (h:Two a b):GA a.kind a.level b.kind b.level=some (pfi a b):=by
 unfold GA pfi
 rw [Vu h,AA,UH,AA,UH,AA]
 by_cases h1:ru a.kind a.level b.kind b.level=0 <;> by_cases h2:ru b.kind b.level a.kind a.level=0 <;> simp [h1,h2]
def DD (x y:Agent):Bool:=decide (x.kind=9)&&decide (y.kind=10)&&decide ((y.data.length:Int)≤x.value)
def kcl (a b:Agent):Int:=if DD a b=true∨DD b a=true then 8 else pcl a b
theorem MG {a b} (h:Two a b):GU a b=some (kcl a b):=by
 unfold GU FE FD kcl DD
 rw [ZR h,AA]
 by_cases a9:a.kind=9
 ·by_cases b10:b.kind=10
  ·by_cases hv:(b.data.length:Int)≤a.value <;> simp [a9,b10,hv]
  ·simp [a9,b10]
 ·by_cases a10:a.kind=10
  ·by_cases b9:b.kind=9
   ·by_cases hv:(a.data.length:Int)≤b.value <;> simp [a10,b9,hv]
   ·simp [a10,b9]
  ·simp [a9,a10]
theorem Two.symm {a b} (h:Two a b):Two b a:=⟨h.lb,h.la,h.rb,h.ra⟩
theorem QH {l} {i j} {a b} (ha:at? l i=some a) (hb:at? l j=some b) (h:Two a b):∃sw,EK ⟨l⟩ ⟨i,j⟩=some (kcl a b,sw)∧(kcl a b≠8→sw=decide (pfi a b=2)):=by
 have key:∀ (x y:Agent) (f:Int),(DD x y=true∨DD y x=true↔(pcl a b=6∧y.kind=10∧(y.data.length:Int)≤x.value))→(DD x y=true∨DD y x=true↔DD a b=true∨DD b a=true)→
   ∃sw,Dc (pcl a b,f) x.kind x.level x.value x.data x.ports y.kind y.level y.value y.data y.ports=some (kcl a b,sw)∧(kcl a b≠8→sw=decide (f=2)):=by
  intro x y f h1 h2
  unfold Dc Db kcl
  by_cases hn:DD a b=true∨DD b a=true
  ·obtain⟨c1,c2,c3⟩:=h1.1 (h2.2 hn)
   rw [if_pos hn]
   refine⟨false,?_,fun h=>absurd rfl h⟩
   simp [c1,c2,c3]
  ·have hn1:=fun h=>hn (h2.1 (h1.2 h))
   rw [if_neg hn]
   refine⟨decide (f=2),?_,fun _=>rfl⟩
   by_cases c1:pcl a b=6
   ·by_cases c2:y.kind=10
    ·have c3:¬ (y.data.length:Int)≤x.value:=fun h=>hn1 ⟨c1,c2,h⟩
     simp [c1,c2,c3]
    ·simp [c1,c2]
   ·simp [c1]
 unfold EK
 simp only
 rw [ha,AA,hb,AA,XF h,AA]
 have hab:DD a b=true→ru a.kind a.level b.kind b.level=6∧b.kind=10:=fun hn=>by
  simp only [DD,Bool.and_eq_true,decide_eq_true_eq] at hn
  obtain⟨⟨h9,h10⟩,-⟩:=hn
  exact⟨by simp [ru,h9,h10],h10⟩
 have hba:DD b a=true→ru b.kind b.level a.kind a.level=6∧ru a.kind a.level b.kind b.level=0∧a.kind=10:=fun hn=>by
  simp only [DD,Bool.and_eq_true,decide_eq_true_eq] at hn
  obtain⟨⟨h9,h10⟩,-⟩:=hn
  exact⟨by simp [ru,h9,h10],by simp [ru,h9,h10],h10⟩
 by_cases hf:pfi a b=2
 ·have hr:ru a.kind a.level b.kind b.level=0∧ru b.kind b.level a.kind a.level≠0:=by
   unfold pfi at hf
   by_cases h1:ru a.kind a.level b.kind b.level=0 <;> by_cases h2:ru b.kind b.level a.kind a.level=0 <;> simp_all
  have hp:pcl a b=ru b.kind b.level a.kind a.level:=by simp [pcl,hr]
  simp only [hf,decide_true,if_true]
  have:=key b a 2 ?_ (by rw [or_comm])
  ·obtain⟨sw,h1,h2⟩:=this
   exact⟨sw,h1,h2⟩
  ·rw [hp]
   constructor
   ·rintro (hn|hn)
    ·obtain⟨k1,k2,k3⟩:=hba hn
     simp only [DD,Bool.and_eq_true,decide_eq_true_eq] at hn
     exact⟨k1,k3,hn.2⟩
    ·exact absurd (hab hn).1 (by rw [hr.1]; decide)
   ·rintro ⟨c1,c2,c3⟩
    refine .inl ?_
    have:b.kind=9:=by
     unfold ru at c1
     repeat' split at c1
     all_goals first|omega|(simp_all [consB]; done)|(exact absurd c1 (by decide))
    simp [DD,this,c2,c3]
 ·simp only [hf,decide_false,Bool.false_eq_true,if_false]
  have:=key a b (pfi a b) ?_ Iff.rfl
  ·obtain⟨sw,h1,h2⟩:=this
   exact⟨sw,h1,fun h=>by rw [h2 h]; simp [hf]⟩
  ·constructor
   ·rintro (hn|hn)
    ·obtain⟨k1,k2⟩:=hab hn
     simp only [DD,Bool.and_eq_true,decide_eq_true_eq] at hn
     exact⟨by simp [pcl,k1],k2,hn.2⟩
    ·obtain⟨k1,k2,k3⟩:=hba hn
     exact absurd (by simp [pfi,k1,k2]) hf
   ·rintro ⟨c1,c2,c3⟩
    refine .inl ?_
    have hr:ru a.kind a.level b.kind b.level=6:=by
     unfold pcl at c1
     unfold pfi at hf
     by_cases h1:ru a.kind a.level b.kind b.level=0
     ·by_cases h2:ru b.kind b.level a.kind a.level=0 <;> simp_all
     ·simp_all
    have:a.kind=9:=by
     unfold ru at hr
     repeat' split at hr
     all_goals first|omega|(simp_all [consB]; done)|(exact absurd hr (by decide))
    simp [DD,this,c2,c3]
def grow (c n:Int):Int:=if c=1∨c=2 then (if n=0 then -2 else 0) else if c=3 then (if 0≤n∧n≤3 then n else 0) else if c=4 then (if 0≤n∧n≤3 then n - 2 else 0)
 else if c=5 then (if n=0 then -1 else 0) else if c=6 then (if 0≤n∧n≤3 then n - 1 else 0) else if c=7 then (if 2≤n∧n≤600 then n - 2 else 0) else 0
theorem XG (c n:Int):∃e,L9 c n=some (grow c n,e):=by
 have j2:∀lo hi plus:Int,-10≤plus→plus≤10→0≤lo→hi≤1000→∃e,DV n lo hi plus=some (if lo≤n∧n≤hi then n+plus else 0,e):=by
  intro lo hi plus h1 h2 h3 h4
  unfold DV Hx
  by_cases h5:n<lo
  ·exact⟨2,by simp [h5,show ¬ (lo≤n∧n≤hi) from by omega]⟩
  ·by_cases h6:hi<n
   ·exact⟨2,by simp [h5,h6,show ¬ (lo≤n∧n≤hi) from by omega]⟩
   ·refine⟨0,?_⟩
    simp only [h5,h6,decide_false,Bool.false_eq_true,if_false]
    rw [if_pos ⟨by omega,by omega⟩,w64 (by omega) (by omega)]
 unfold L9 Hy grow
 by_cases c1:c=1
 ·obtain⟨e,h⟩:=j2 0 0 (-2) (by omega) (by omega) (by omega) (by omega)
  refine⟨e,?_⟩
  simp only [c1,decide_true,if_true,true_or,h]
  by_cases hn:n=0
  ·simp [hn]
  ·rw [if_neg (by omega),if_neg hn]
 by_cases c2:c=2
 ·obtain⟨e,h⟩:=j2 0 0 (-2) (by omega) (by omega) (by omega) (by omega)
  refine⟨e,?_⟩
  simp only [c2,Int.reduceEq,decide_false,Bool.false_eq_true,if_false,decide_true,if_true,or_true,h]
  by_cases hn:n=0
  ·simp [hn]
  ·rw [if_neg (by omega),if_neg hn]
 by_cases c3:c=3
 ·obtain⟨e,h⟩:=j2 0 3 0 (by omega) (by omega) (by omega) (by omega)
  exact⟨e,by simp [c3,h]⟩
 by_cases c4:c=4
 ·obtain⟨e,h⟩:=j2 0 3 (-2) (by omega) (by omega) (by omega) (by omega)
  exact⟨e,by simp [c4,h,Int.sub_eq_add_neg]⟩
 by_cases c5:c=5
 ·obtain⟨e,h⟩:=j2 0 0 (-1) (by omega) (by omega) (by omega) (by omega)
  refine⟨e,?_⟩
  simp only [c5,Int.reduceEq,decide_false,Bool.false_eq_true,if_false,decide_true,if_true,or_self,h]
  by_cases hn:n=0
  ·simp [hn]
  ·rw [if_neg (by omega),if_neg hn]
 by_cases c6:c=6
 ·obtain⟨e,h⟩:=j2 0 3 (-1) (by omega) (by omega) (by omega) (by omega)
  exact⟨e,by simp [c6,h,Int.sub_eq_add_neg]⟩
 by_cases c7:c=7
 ·obtain⟨e,h⟩:=j2 2 600 (-2) (by omega) (by omega) (by omega) (by omega)
  exact⟨e,by simp [c7,h,Int.sub_eq_add_neg]⟩
 exact⟨2,by simp [c1,c2,c3,c4,c5,c6,c7]⟩
theorem XH (c n:Int) (h0: -1000000000000≤n∧n≤1000000000000):∃e,MA c n=some (grow c n,e):=by
 have j2:∀lo hi v:Int,∃e,DW n lo hi v=some (if lo≤n∧n≤hi then v else 0,e):=by
  intro lo hi v
  unfold DW
  rw [Fi,AA]
  by_cases h5:lo≤n∧n≤hi
  ·exact⟨0,by simp [h5]⟩
  ·exact⟨2,by simp [h5]⟩
 have w1:IntKind.i64.wrap (n - 1)=n - 1:=w64 (by omega) (by omega)
 have w2:IntKind.i64.wrap (n - 2)=n - 2:=w64 (by omega) (by omega)
 unfold MA H0 grow
 by_cases c1:c=1
 ·obtain⟨e,h⟩:=j2 0 0 (-2)
  refine⟨e,?_⟩
  simp only [c1,decide_true,if_true,true_or,h]
  by_cases hn:n=0
  ·simp [hn]
  ·rw [if_neg (by omega),if_neg hn]
 by_cases c2:c=2
 ·obtain⟨e,h⟩:=j2 0 0 (-2)
  refine⟨e,?_⟩
  simp only [c2,Int.reduceEq,decide_false,Bool.false_eq_true,if_false,decide_true,if_true,or_true,h]
  by_cases hn:n=0
  ·simp [hn]
  ·rw [if_neg (by omega),if_neg hn]
 by_cases c3:c=3
 ·obtain⟨e,h⟩:=j2 0 3 n
  exact⟨e,by simp [c3,h]⟩
 by_cases c4:c=4
 ·obtain⟨e,h⟩:=j2 0 3 (n - 2)
  exact⟨e,by simp [c4,h,w2]⟩
 by_cases c5:c=5
 ·obtain⟨e,h⟩:=j2 0 0 (-1)
  refine⟨e,?_⟩
  simp only [c5,Int.reduceEq,decide_false,Bool.false_eq_true,if_false,decide_true,if_true,or_self,h]
  by_cases hn:n=0
  ·simp [hn]
  ·rw [if_neg (by omega),if_neg hn]
 by_cases c6:c=6
 ·obtain⟨e,h⟩:=j2 0 3 (n - 1)
  exact⟨e,by simp [c6,h,w1]⟩
 by_cases c7:c=7
 ·obtain⟨e,h⟩:=j2 2 600 (n - 2)
  exact⟨e,by simp [c7,h,w2]⟩
 exact⟨2,by simp [c1,c2,c3,c4,c5,c6,c7]⟩
end Go.Proofs.YtckcfdggbbabfaaGreat.Ab
namespace Go.Proofs.YtckcfdggbbabfaaGreat.Ab
set_option linter.unusedVariables false
set_option linter.unusedSimpArgs false
open Go.RowKit
abbrev Sh:=Int × Int × Int × List Int × Nat
theorem M.mono' {l} {X Y} (h:M l X) (hxy:∀p q,get l p=some q→(X p↔Y p)):M l Y:=fun p q hp hy=>by
 obtain⟨h1,h2,h3⟩:=h p q hp fun hx=>hy ((hxy p q hp).1 hx)
 exact⟨fun hq=>h1 ((hxy q p h3).2 hq),h2,h3⟩
theorem Bh {l} {p q} {x} (h:get l p=some q) (hx:at? (l.map sh) p.agent=some x):0≤p.slot∧p.slot<(x.2.2.2.2 :Int):=by
 obtain⟨a,h1,h2⟩:=Ay.1 h
 rw [Dv h1] at hx
 cases hx
 exact C6 h2
theorem DQ {l} {p q} (h:get l p=some q):0≤p.agent∧p.agent<(l.length:Int):=by
 obtain⟨a,h1,-⟩:=Ay.1 h
 exact C6 h1
theorem LB {l:List Agent} {l':List Sh} (h:l.map sh=l'):l.length=l'.length:=by rw [← h,List.length_map]
section
variable {S:Int→Prop} {X:Port→Prop} {A B:List Agent}
theorem Ok.mono' {Y} (h:Ok S X A B) (hxy:∀p q,Ab.get A p=some q→(X p↔Y p)) (hs:∀p,S p.agent→Y p):Ok S Y A B:=⟨h.len,h.ag,h.hl,h.m.mono' hxy,hs⟩
def Fr (A A':List Agent) (X:Port→Prop):Prop:=∀p q,Ab.get A p=some q→Ab.get A q=some p→¬X p→¬X q→Ab.get A' p=some q
theorem ek {p q a b r s} (hm:M A X) (hp:Ab.get A p=some a) (hq:Ab.get A q=some b) (xp:¬X p) (xq:¬X q) (hr:Ab.get A r=some s) (h1:s≠p) (h2:s≠q):Ab.get (jn A p q) r=some s:=by
 obtain⟨-,-,k3⟩:=hm p a hp xp
 obtain⟨-,-,m3⟩:=hm q b hq xq
 unfold jn
 rw [hp,hq]
 simp only
 split
 ·exact hr
 ·rw [Jl k3 m3 (fun e=>by rw [e,k3] at hr; exact h1 (Option.some.inj hr).symm) (fun e=>by rw [e,m3] at hr; exact h2 (Option.some.inj hr).symm)]
  exact hr
structure Pr (S:Int→Prop) (A:List Agent) (x y:Int) (a b:Agent):Prop where
 hx:at? A x=some a
 hy:at? A y=some b
 w:Ab.get A ⟨x,0⟩=some ⟨y,0⟩
 sx:¬S x
 sy:¬S y
structure Done (S:Int→Prop) (A:List Agent) (x y:Int) (new:List Sh) (A' B':List Agent):Prop where
 ok:Ok S (fun p=>S p.agent∨p.agent=x∨p.agent=y) A' B'
 shp:A'.map sh=A.map sh++new
 fr:Fr A A' fun p=>S p.agent∨p.agent=x∨p.agent=y
theorem Ok.start (h:Ok S (fun p=>S p.agent) A B) {x y} {a b} (hp:Pr S A x y a b):Ok S (fun p=>S p.agent∨p=⟨x,0⟩∨p=⟨y,0⟩) A B∧x≠y:=by
 refine⟨⟨h.len,h.ag,h.hl,h.m.drop hp.w hp.sx,fun p hs=>.inl hs⟩,fun e=>?_⟩
 obtain⟨-,h2,-⟩:=h.m _ _ hp.w hp.sx
 exact h2 (by rw [e])
theorem d7 (h:Ok S (fun p=>S p.agent) A B) {x y} {a b} (hp:Pr S A x y a b) (ha:a.ports.length=3) (hb:b.ports.length=3):
  ∃A1 A2 B1 B2,(∀bk r,B9 ⟨⟨A⟩,bk,r⟩ ⟨x,1⟩ ⟨y,1⟩=some ⟨⟨A1⟩,bk,r⟩)∧(∀bk r,B9 ⟨⟨A1⟩,bk,r⟩ ⟨x,2⟩ ⟨y,2⟩=some ⟨⟨A2⟩,bk,r⟩)∧
   Fn ⟨B⟩ ⟨x,1⟩ ⟨y,1⟩=some ⟨B1⟩∧Fn ⟨B1⟩ ⟨x,2⟩ ⟨y,2⟩=some ⟨B2⟩∧Done S A x y [] A2 B2:=by
 obtain⟨h0,hne⟩:=h.start hp
 have hsx:=Dv hp.hx
 have hsy:=Dv hp.hy
 obtain⟨u1,g1⟩:=PZ hsx (s:=1) (by omega) (by simp only [sh]; omega)
 obtain⟨v1,g2⟩:=PZ hsy (s:=1) (by omega) (by simp only [sh]; omega)
 have nx:∀s:Int,s≠0→¬ (S x∨(⟨x,s⟩:Port)=⟨x,0⟩∨(⟨x,s⟩:Port)=⟨y,0⟩):=fun s hs h=>by
  rcases h with h|h|h
  ·exact hp.sx h
  ·rw [Aj] at h; exact hs h.2
  ·rw [Aj] at h; exact hs h.2
 have ny:∀s:Int,s≠0→¬ (S y∨(⟨y,s⟩:Port)=⟨x,0⟩∨(⟨y,s⟩:Port)=⟨y,0⟩):=fun s hs h=>by
  rcases h with h|h|h
  ·exact hp.sy h
  ·rw [Aj] at h; exact hs h.2
  ·rw [Aj] at h; exact hs h.2
 have pxy:∀s t:Int,(⟨x,s⟩:Port)≠⟨y,t⟩:=fun s t h=>by rw [Aj] at h; exact hne h.1
 obtain⟨e1,e2,k1,-,k2⟩:=h0.join g1 g2 (nx 1 (by omega)) (ny 1 (by omega)) (pxy 1 1)
 obtain⟨u2,g3⟩:=PZ (l:=jn A ⟨x,1⟩ ⟨y,1⟩) (k:=x) (s:=2) (by rw [k2]; exact hsx) (by omega) (by simp only [sh]; omega)
 obtain⟨v2,g4⟩:=PZ (l:=jn A ⟨x,1⟩ ⟨y,1⟩) (k:=y) (s:=2) (by rw [k2]; exact hsy) (by omega) (by simp only [sh]; omega)
 have nn:∀z:Int,((z=x∧¬S x)∨(z=y∧¬S y))→¬ ((S z∨(⟨z,2⟩:Port)=⟨x,0⟩∨(⟨z,2⟩:Port)=⟨y,0⟩)∨(⟨z,2⟩:Port)=⟨x,1⟩∨(⟨z,2⟩:Port)=⟨y,1⟩):=fun z hz h=>by
  simp only [Aj] at h
  rcases hz with ⟨rfl,hz⟩|⟨rfl,hz⟩
  ·rcases h with (h|h|h)|h|h
   ·exact hz h
   all_goals omega
  ·rcases h with (h|h|h)|h|h
   ·exact hz h
   all_goals omega
 obtain⟨e3,e4,k3,-,k4⟩:=k1.join g3 g4 (nn x (.inl ⟨rfl,hp.sx⟩)) (nn y (.inr ⟨rfl,hp.sy⟩)) (pxy 2 2)
 refine⟨_,_,_,_,e1,e3,e2,e4,k3.mono' (fun p q hq=>?_) fun p hs=>.inl hs,by rw [k4,k2,List.append_nil],fun p q hp1 hp2 n1 n2=>?_⟩
 rotate_left
 ·have nq:∀z s:Int,(z=x∨z=y)→q≠⟨z,s⟩:=fun z s hz e=>n2 (by
   rw [Aj] at e
   rcases hz with hz|hz
   ·exact .inr (.inl (e.1.trans hz))
   ·exact .inr (.inr (e.1.trans hz)))
  exact ek k1.m g3 g4 (nn x (.inl ⟨rfl,hp.sx⟩)) (nn y (.inr ⟨rfl,hp.sy⟩)) (ek h0.m g1 g2 (nx 1 (by omega)) (ny 1 (by omega)) hp1 (nq x 1 (.inl rfl)) (nq y 1 (.inr rfl))) (nq x 2 (.inl rfl)) (nq y 2 (.inr rfl))
 simp only [Aj]
 have hs:p.agent=x∨p.agent=y→0≤p.slot∧p.slot<3:=fun e=>by
  rcases e with e|e
  ·have:=Bh hq (by rw [k4,k2,e]; exact hsx); simp only [sh,ha] at this; omega
  ·have:=Bh hq (by rw [k4,k2,e]; exact hsy); simp only [sh,hb] at this; omega
 grind
structure Way1 (S:Int→Prop) (A:List Agent) (new:List Sh) (X:Port→Prop) (A' B':List Agent):Prop where
 ok:Ok S X A' B'
 shp:A'.map sh=A.map sh++new
 fr:Fr A A' X
theorem Way1.len {new:List Sh} {A' B':List Agent} (h:Way1 S A new X A' B'):A'.length=A.length+new.length:=by
 rw [LB h.shp,List.length_append,List.length_map]
theorem B8 {α:Type} {l m:List α} {k:Int} {x:α} (h:at? l k=some x):at? (l++m) k=some x:=by
 obtain⟨h1,h2⟩:=A9 h
 have:=(List.getElem?_eq_some_iff.1 h2).1
 unfold at?
 rw [if_pos h1,List.getElem?_append_left this]; exact h2
theorem GJ {α:Type} {l m:List α} {k:Nat} {x:α} (h:m[k]? =some x):at? (l++m) ((l.length+k:Nat):Int)=some x:=by
 unfold at?
 rw [if_pos (by omega),Int.toNat_natCast,List.getElem?_append_right (by omega),show l.length+k - l.length=k from by omega]; exact h
theorem Way1.old {new:List Sh} {A' B':List Agent} (h:Way1 S A new X A' B') {k:Int} {a:Agent} (ha:at? A k=some a) {s:Int} (h0:0≤s) (hs:s<(a.ports.length:Int)):∃u,Ab.get A' ⟨k,s⟩=some u:=
 PZ (x:=sh a) (by rw [h.shp]; exact B8 (Dv ha)) h0 hs
theorem Way1.new {new:List Sh} {A' B':List Agent} (h:Way1 S A new X A' B') {k:Nat} {x:Sh} (ha:new[k]? =some x) {s:Int} (h0:0≤s) (hs:s<(x.2.2.2.2 :Int)):∃u,Ab.get A' ⟨((A.length+k:Nat):Int),s⟩=some u:=
 PZ (x:=x) (by rw [h.shp]; have:=GJ (l:=A.map sh) ha; rwa [List.length_map] at this) h0 hs
theorem Way1.ex {new} {A' B'} (h:Way1 S A new X A' B') {p q} (hp:Ab.get A p=some q):∃u,Ab.get A' p=some u:=by
 obtain⟨a,h1,h2⟩:=Ay.1 hp
 have:=C6 h2
 obtain⟨u,hu⟩:=h.old h1 (s:=p.slot) this.1 this.2
 exact⟨u,hu⟩
theorem Way1.move {new} {A' B'} (h:Way1 S A new X A' B') {o n u u'} (ho:Ab.get A' o=some u) (hn:Ab.get A' n=some u') (xo:¬X o) (xn:X n) (sn:¬S n.agent) {Y} (hY:∀p q,Ab.get A' p=some q→((X p∨p=o)∧p≠n↔Y p)) (hs:∀p,S p.agent→Y p) (nn:(A.length:Int)≤n.agent:=by first|omega|(simp only; omega)):
  ∃A2 B2,(∀bk r,AU ⟨⟨A'⟩,bk,r⟩ o n=some ⟨⟨A2⟩,bk,r⟩)∧Bj ⟨B'⟩ o n=some ⟨B2⟩∧Way1 S A new Y A2 B2:=by
 obtain⟨e1,e2,k1,k2,k3⟩:=h.ok.move ho xo hn xn sn
 have ex:∀p q,Ab.get (mv A' o n) p=some q→∃q',Ab.get A' p=some q':=fun p q hq=>by
  obtain⟨a,h1,h2⟩:=Ay.1 hq
  obtain⟨a',h3,h4⟩:=MF (k3 ▸ Dv h1)
  have h5:a'.ports.length=a.ports.length:=by simp only [sh,Prod.mk.injEq] at h4; exact h4.2.2.2.2
  have h6:=C6 h2
  obtain⟨q',h7,-⟩:=Ef (l:=a'.ports) (i:=p.slot) (by rw [h5]; exact h6)
  exact⟨q',Ay.2 ⟨a',h3,h7⟩⟩
 refine⟨_,_,e1,e2,k1.mono' (fun p q hq=>?_) hs,k3.trans h.shp,fun p q h1 h2 n1 n2=>?_⟩
 rotate_left
 ·have l1:=DQ h1
  have l2:=DQ h2
  obtain⟨p',hp'⟩:=h.ex h1
  obtain⟨q',hq'⟩:=h.ex h2
  have pn:p≠n:=fun e=>by rw [e] at l1; omega
  have qn:q≠n:=fun e=>by rw [e] at l2; omega
  have c1:¬ (X p∨p=o):=fun e=>n1 ((hY p p' hp').1 ⟨e,pn⟩)
  have c2:¬ (X q∨q=o):=fun e=>n2 ((hY q q' hq').1 ⟨e,qn⟩)
  have g:=h.fr p q h1 h2 (fun e=>c1 (.inl e)) fun e=>c2 (.inl e)
  obtain⟨-,-,m3⟩:=h.ok.m o u ho xo
  unfold mv
  rw [ho]
  simp only
  rw [Jl hn m3 pn fun e=>c2 (.inr (by rw [e,m3] at g; exact(Option.some.inj g).symm))]
  exact g
 obtain⟨q',hq'⟩:=ex p q hq
 exact hY p q' hq'
theorem Way1.add {new} {A' B'} (h:Way1 S A new X A' B') (k lv v:Int) (d:List Int) (n:Nat) (hl:A'.length+1≤Big) (hd:d.length≤Big) (hn:n≤Big):
  (∀bk r,Ai ⟨⟨A'⟩,bk,r⟩ k lv v d (n:Int)=some (((A.length+new.length:Nat):Int),⟨⟨A'++[newA k lv v d n]⟩,bk,r⟩))∧Cj ⟨B'⟩ k lv v d (n:Int)=some (((A.length+new.length:Nat):Int),⟨B'++[newA k lv v d n]⟩)∧
   Way1 S A (new++[(k,lv,v,d,n)]) (fun p=>X p∨p.agent=((A.length+new.length:Nat):Int)) (A'++[newA k lv v d n]) (B'++[newA k lv v d n]):=by
 have e:=h.len
 have e':=h.ok.len
 refine⟨fun bk r=>by rw [YI A' bk r k lv v d n hl hd hn,e],by rw [dx B' k lv v d n (by omega) hd hn,← e',e],?_,?_,fun p q h1 h2 n1 n2=>?_⟩
 ·have:=h.ok.add (newA k lv v d n)
  rw [e] at this; exact this
 ·rw [List.map_append,h.shp,List.append_assoc]
  simp [sh,newA]
 ·have g:=h.fr p q h1 h2 (fun e=>n1 (.inl e)) fun e=>n2 (.inl e)
  have:=DQ g
  rw [KZ,if_neg (by omega)]; exact g
theorem Way1.link {new} {A' B'} (h:Way1 S A new X A' B') {p q u v} (hp:Ab.get A' p=some u) (hq:Ab.get A' q=some v) (hne:p≠q) (xp:X p) (xq:X q) (sp:¬S p.agent) (sq:¬S q.agent) (np:(A.length:Int)≤p.agent:=by first|omega|(simp only; omega)) (nq:(A.length:Int)≤q.agent:=by first|omega|(simp only; omega)):
  ∃A2 B2,CO ⟨A'⟩ p q=some ⟨A2⟩∧CO ⟨A'⟩ q p=some ⟨A2⟩∧s_l11Link ⟨B'⟩ p q=some ⟨B2⟩∧s_l11Link ⟨B'⟩ q p=some ⟨B2⟩∧Way1 S A new (fun r=>X r∧r≠p∧r≠q) A2 B2:=by
 obtain⟨e1,e2,e3,e4,k⟩:=h.ok.link hp hq hne xp xq sp sq
 refine⟨_,_,e1,e2,e3,e4,k,by rw [Vs]; exact h.shp,fun r s h1 h2 n1 n2=>?_⟩
 have l1:=DQ h1
 have l2:=DQ h2
 have rp:r≠p:=fun e=>by rw [e] at l1; omega
 have rq:r≠q:=fun e=>by rw [e] at l1; omega
 have sp':s≠p:=fun e=>by rw [e] at l2; omega
 have sq':s≠q:=fun e=>by rw [e] at l2; omega
 rw [Jl hp hq rp rq]
 exact h.fr r s h1 h2 (fun e=>n1 ⟨e,rp,rq⟩) fun e=>n2 ⟨e,sp',sq'⟩
theorem Way1.mono {new} {A' B'} (h:Way1 S A new X A' B') {Y} (hY:∀p q,Ab.get A' p=some q→(X p↔Y p)) (hs:∀p,S p.agent→Y p):Way1 S A new Y A' B':=⟨h.ok.mono' hY hs,h.shp,fun p q h1 h2 n1 n2=>by
 obtain⟨p',hp'⟩:=h.ex h1
 obtain⟨q',hq'⟩:=h.ex h2
 exact h.fr p q h1 h2 (fun e=>n1 ((hY p p' hp').1 e)) fun e=>n2 ((hY q q' hq').1 e)⟩
theorem Way1.done {new} {A' B'} (h:Way1 S A new X A' B') {x y} (hY:∀p q,Ab.get A' p=some q→(X p↔S p.agent∨p.agent=x∨p.agent=y)):Done S A x y new A' B':=
 have w:=h.mono hY fun p hs=>.inl hs
 ⟨w.ok,w.shp,w.fr⟩
theorem Fr.refl:Fr A A X:=fun p q h _ _ _=>h
end
end Go.Proofs.YtckcfdggbbabfaaGreat.Ab
namespace Go.Proofs.YtckcfdggbbabfaaGreat.Ab
set_option linter.unusedVariables false
set_option linter.unusedSimpArgs false
open Go.RowKit
section
variable {S:Int→Prop} {A B:List Agent}
theorem CV (a s:Int):Ad a s=some ⟨a,s⟩:=rfl
def JK:Sh:=(5,0,0,[],1)
theorem XI {x y} {a b} (hp:Pr S A x y a b) (hne:x≠y) (ha:a.ports.length=1) (hbb:b.ports.length≤100) (hA:A.length≤8000000) (a0:Rewriter) (v:Int × Int × Int × Int) (hv:v.2.2.1 =y) (r:List (Int × Bool)) (z:Int × Int) (hz:z.2 =y) (c:Int):
  ∀ (k i m:Nat) (A1 B1:List Agent),i+k=b.ports.length→1≤i→k<m→Way1 S A (List.replicate (i - 1) JK) (fun p=>S p.agent∨p.agent=x∨(p.agent=y∧p.slot<(i:Int))) A1 B1→
   ∃A2 B2 m',Am m a0 v r A1 (i:Int)=Am (m'+1) a0 v r A2 (b.ports.length:Int)∧EM m z c b B1 (i:Int)=EM (m'+1) z c b B2 (b.ports.length:Int)∧
    Way1 S A (List.replicate (b.ports.length - 1) JK) (fun p=>S p.agent∨p.agent=x∨(p.agent=y∧p.slot<(b.ports.length:Int))) A2 B2:=by
 intro k
 induction k with
 |zero=>
  intro i m A1 B1 h h1 hm hw
  obtain⟨m,rfl⟩:∃q,m=q+1:=⟨m - 1,by omega⟩
  have:i=b.ports.length:=by omega
  subst this
  exact⟨A1,B1,m,rfl,rfl,hw⟩
 | succ k ih=>
  intro i m A1 B1 h h1 hm hw
  obtain⟨m,rfl⟩:∃q,m=q+1:=⟨m - 1,by omega⟩
  have hlen:=hw.len
  rw [List.length_replicate] at hlen
  obtain⟨e1,e2,w1⟩:=hw.add 5 0 0 [] 1 (by unfold Big; omega) (by simp) (by unfold Big; omega)
  rw [List.length_replicate] at e1 e2 w1
  have hsy:at? (A1.map sh) y=some (sh b):=by rw [hw.shp]; exact B8 (Dv hp.hy)
  obtain⟨b',hb',hbs⟩:=MF hsy
  have hbl:b'.ports.length=b.ports.length:=by simp only [sh,Prod.mk.injEq] at hbs; exact hbs.2.2.2.2
  have hyl:=C6 hp.hy
  have hxl:=C6 hp.hx
  obtain⟨u,g1⟩:=w1.old hp.hy (s:=(i:Int)) (by omega) (by omega)
  obtain⟨u',g2⟩:=w1.new (k:=i - 1) (x:=JK) (s:=0) (by
   rw [List.getElem?_append_right (by simp),List.length_replicate,Nat.sub_self]; rfl) (by omega) (by simp [JK])
  obtain⟨A2,B2,e3,e4,w2⟩:=w1.move g1 g2 (fun h=>by
    rcases h with (h|h|h)|h
    ·exact hp.sy h
    ·exact hne h.symm
    ·simp only at h; omega
    ·simp only at h; omega) (.inr rfl) (fun hs=>by
    have:=hw.ok.s_lt hs
    simp only at this
    omega) (Y:=fun p=>S p.agent∨p.agent=x∨(p.agent=y∧p.slot<((i+1:Nat):Int))) (fun p q hq=>by
    have hn:p.agent=((A.length+(i - 1):Nat):Int)→p.slot=0:=fun e=>by
     have:=Bh hq (x:=JK) (by
      rw [w1.shp,e]
      have:=GJ (l:=A.map sh) (m:=List.replicate (i - 1) JK++[JK]) (k:=i - 1) (x:=JK) (by rw [List.getElem?_append_right (by simp),List.length_replicate,Nat.sub_self]; rfl)
      rwa [List.length_map] at this)
     simp only [JK] at this; omega
    have hsl:p.agent=((A.length+(i - 1):Nat):Int)→¬S p.agent:=fun e hs=>by
     have:=hw.ok.s_lt hs
     omega
    simp only [ne_eq,Aj]
    grind) fun p hs=>.inl hs
  obtain⟨A3,B3,m',k1,k2,k3⟩:=ih (i+1) m A2 B2 (by omega) (by omega) (by omega) (by
   rw [show i+1 - 1=(i - 1)+1 from by omega,List.replicate_succ']; exact w2)
  refine⟨A3,B3,m',?_,?_,k3⟩
  ·rw [Am,hv,hb',AA,hbl,if_pos (by simp; omega)]
   have:=e1 a0.book r
   simp only [Int.natCast_one] at this
   rw [this,AA,e3,AA,w64 (by omega) (by omega),show ((i:Int)+1)=((i+1:Nat):Int) from by omega]
   exact k1
  ·rw [EM,if_pos (by simp; omega)]
   simp only [Int.natCast_one] at e2
   rw [e2,AA,hz,CV,AA,CV,AA,e4,AA,w64 (by omega) (by omega),show ((i:Int)+1)=((i+1:Nat):Int) from by omega]
   exact k2
theorem bi (h:Ok S (fun p=>S p.agent) A B) {x y} {a b} (hp:Pr S A x y a b) (ha:a.ports.length=1) (hb1:1≤b.ports.length) (hbb:b.ports.length≤100) (hA:A.length≤8000000) (a0:Rewriter) (v:Int × Int × Int × Int) (hv:v.2.2.1 =y) (r:List (Int × Bool)) (z:Int × Int) (hz:z.2 =y) (c:Int):
  ∃A2 B2,Am fuel a0 v r A 1=Ag a0 v r A2∧EM fuel z c b B 1=Cn z c B2∧Done S A x y (List.replicate (b.ports.length - 1) JK) A2 B2:=by
 obtain⟨h0,hne⟩:=h.start hp
 have w0:Way1 S A (List.replicate (1 - 1) JK) (fun p=>S p.agent∨p.agent=x∨(p.agent=y∧p.slot<((1:Nat):Int))) A B:=by
  refine⟨h0.mono' (fun p q hq=>?_) fun p hs=>.inl hs,by simp,.refl⟩
  have hs1:p.agent=x→p.slot=0:=fun e=>by
   have:=Bh hq (x:=sh a) (by rw [e]; exact Dv hp.hx)
   simp only [sh,ha] at this; omega
  have hs2:p.agent=y→0≤p.slot:=fun e=>(Bh hq (x:=sh b) (by rw [e]; exact Dv hp.hy)).1
  simp only [ne_eq,Aj]
  grind
 obtain⟨A2,B2,m',k1,k2,k3⟩:=XI hp hne ha hbb hA a0 v hv r z hz c (b.ports.length - 1) 1 fuel A B (by omega) (Nat.le_refl _) (by rw [Ah]; omega) w0
 have hsy:at? (A2.map sh) y=some (sh b):=by rw [k3.shp]; exact B8 (Dv hp.hy)
 obtain⟨b',hb',hbs⟩:=MF hsy
 have hbl:b'.ports.length=b.ports.length:=by simp only [sh,Prod.mk.injEq] at hbs; exact hbs.2.2.2.2
 refine⟨A2,B2,?_,?_,k3.done fun p q hq=>?_⟩
 ·rw [Int.natCast_one] at k1
  rw [k1,Am,hv,hb',AA,hbl,if_neg (by simp)]
 ·rw [Int.natCast_one] at k2
  rw [k2,EM,if_neg (by simp)]
 ·have hs2:p.agent=y→p.slot<(b.ports.length:Int):=fun e=>by
   have:=Bh hq (x:=sh b) (by rw [e]; exact hsy)
   simp only [sh] at this; omega
  grind
theorem Ok.start1 (h:Ok S (fun p=>S p.agent) A B) {x y} {a b} (hp:Pr S A x y a b) (ha:a.ports.length=1):Way1 S A [] (fun p=>S p.agent∨p.agent=x∨p=⟨y,0⟩) A B∧x≠y:=by
 obtain⟨h0,hne⟩:=h.start hp
 refine⟨⟨h0.mono' (fun p q hq=>?_) fun p hs=>.inl hs,by simp,.refl⟩,hne⟩
 have hs1:p.agent=x→p.slot=0:=fun e=>by
  have:=Bh hq (x:=sh a) (by rw [e]; exact Dv hp.hx)
  simp only [sh,ha] at this; omega
 simp only [ne_eq,Aj]
 grind
theorem Vv (h:Ok S (fun p=>S p.agent) A B) {x y} {a b} (hp:Pr S A x y a b) (ha:a.ports.length=1) (hb:b.ports.length=2) (hA:A.length≤8000000) (k lv v:Int) (d:List Int) (hd:d.length≤Big):
  ∃A1 A2 B1 B2,(∀bk r,Ai ⟨⟨A⟩,bk,r⟩ k lv v d 1=some ((A.length:Int),⟨⟨A1⟩,bk,r⟩))∧(∀bk r,AU ⟨⟨A1⟩,bk,r⟩ ⟨y,1⟩ ⟨(A.length:Int),0⟩=some ⟨⟨A2⟩,bk,r⟩)∧
   Cj ⟨B⟩ k lv v d 1=some ((A.length:Int),⟨B1⟩)∧Bj ⟨B1⟩ ⟨y,1⟩ ⟨(A.length:Int),0⟩=some ⟨B2⟩∧Done S A x y [(k,lv,v,d,1)] A2 B2:=by
 obtain⟨w0,hne⟩:=h.start1 hp ha
 obtain⟨e1,e2,w1⟩:=w0.add k lv v d 1 (by unfold Big; omega) hd (by unfold Big; omega)
 simp only [List.length_nil,Nat.add_zero,List.nil_append,Int.natCast_one] at e1 e2 w1
 have hyl:=C6 hp.hy
 have hxl:=C6 hp.hx
 obtain⟨u,g1⟩:=w1.old hp.hy (s:=1) (by omega) (by omega)
 obtain⟨u',g2⟩:=w1.new (k:=0) (s:=0) rfl (by omega) (by simp)
 rw [Nat.add_zero] at g2
 obtain⟨A2,B2,e3,e4,w2⟩:=w1.move g1 g2 (fun h=>by
   simp only [Aj] at h
   rcases h with (h|h|h)|h
   ·exact hp.sy h
   ·exact hne h.symm
   ·omega
   ·omega) (.inr rfl) (fun hs=>by have:=h.s_lt hs; simp only at this; omega) (Y:=fun p=>S p.agent∨p.agent=x∨p.agent=y) (fun p q hq=>by
   have hn:p.agent=(A.length:Int)→p.slot=0:=fun e=>by
    have:=Bh hq (x:=(k,lv,v,d,1)) (by
     rw [w1.shp,e]
     have:=GJ (l:=A.map sh) (m:=[(k,lv,v,d,1)]) (k:=0) rfl
     rwa [List.length_map,Nat.add_zero] at this)
    simp only at this; omega
   have hy2:p.agent=y→p.slot=0∨p.slot=1:=fun e=>by
    have:=Bh hq (x:=sh b) (by rw [w1.shp,e]; exact B8 (Dv hp.hy))
    simp only [sh,hb] at this; omega
   have hsl:p.agent=(A.length:Int)→¬S p.agent:=fun e hs=>by have:=h.s_lt hs; omega
   simp only [ne_eq,Aj]
   grind) fun p hs=>.inl hs
 exact⟨_,A2,_,B2,e1,e3,e2,e4,w2.ok,w2.shp,w2.fr⟩
theorem ZT (h:Ok S (fun p=>S p.agent) A B) {x y} {a b} (hp:Pr S A x y a b) (ha:a.ports.length=1) (hb:b.ports.length=3) (hA:A.length≤8000000) (k lv v:Int) (d:List Int) (hd:d.length≤Big):
  ∃A1 A2 A3 B1 B2 B3,(∀bk r,Ai ⟨⟨A⟩,bk,r⟩ k lv v d 2=some ((A.length:Int),⟨⟨A1⟩,bk,r⟩))∧(∀bk r,AU ⟨⟨A1⟩,bk,r⟩ ⟨y,1⟩ ⟨(A.length:Int),0⟩=some ⟨⟨A2⟩,bk,r⟩)∧(∀bk r,AU ⟨⟨A2⟩,bk,r⟩ ⟨y,2⟩ ⟨(A.length:Int),1⟩=some ⟨⟨A3⟩,bk,r⟩)∧
   Cj ⟨B⟩ k lv v d 2=some ((A.length:Int),⟨B1⟩)∧Bj ⟨B1⟩ ⟨y,1⟩ ⟨(A.length:Int),0⟩=some ⟨B2⟩∧Bj ⟨B2⟩ ⟨y,2⟩ ⟨(A.length:Int),1⟩=some ⟨B3⟩∧Done S A x y [(k,lv,v,d,2)] A3 B3:=by
 obtain⟨w0,hne⟩:=h.start1 hp ha
 obtain⟨e1,e2,w1⟩:=w0.add k lv v d 2 (by unfold Big; omega) hd (by unfold Big; omega)
 simp only [List.length_nil,Nat.add_zero,List.nil_append] at e1 e2 w1
 have hyl:=C6 hp.hy
 have hxl:=C6 hp.hx
 have hsl:∀p:Port,p.agent=(A.length:Int)→¬S p.agent:=fun p e hs=>by have:=h.s_lt hs; omega
 obtain⟨u,g1⟩:=w1.old hp.hy (s:=1) (by omega) (by omega)
 obtain⟨u',g2⟩:=w1.new (k:=0) (s:=0) rfl (by omega) (by simp)
 rw [Nat.add_zero] at g2
 obtain⟨A2,B2,e3,e4,w2⟩:=w1.move g1 g2 (fun h=>by
   simp only [Aj] at h
   rcases h with (h|h|h)|h
   ·exact hp.sy h
   ·exact hne h.symm
   ·omega
   ·omega) (.inr rfl) (hsl ⟨_,0⟩ rfl) (Y:=fun p=>S p.agent∨p.agent=x∨(p.agent=y∧p.slot≤1)∨p=⟨(A.length:Int),1⟩) (fun p q hq=>by
   have hn:p.agent=(A.length:Int)→p.slot=0∨p.slot=1:=fun e=>by
    have:=Bh hq (x:=(k,lv,v,d,2)) (by
     rw [w1.shp,e]
     have:=GJ (l:=A.map sh) (m:=[(k,lv,v,d,2)]) (k:=0) rfl
     rwa [List.length_map,Nat.add_zero] at this)
    simp only at this; omega
   have hy2:p.agent=y→p.slot=0∨p.slot=1∨p.slot=2:=fun e=>by
    have:=Bh hq (x:=sh b) (by rw [w1.shp,e]; exact B8 (Dv hp.hy))
    simp only [sh,hb] at this; omega
   have hs':=hsl p
   simp only [ne_eq,Aj]
   grind) fun p hs=>.inl hs
 obtain⟨u2,g3⟩:=w2.old hp.hy (s:=2) (by omega) (by omega)
 obtain⟨u3,g4⟩:=w2.new (k:=0) (s:=1) rfl (by omega) (by simp)
 rw [Nat.add_zero] at g4
 obtain⟨A3,B3,e5,e6,w3⟩:=w2.move g3 g4 (fun h=>by
   simp only [Aj] at h
   rcases h with h|h|h|h
   ·exact hp.sy h
   ·exact hne h.symm
   ·omega
   ·omega) (.inr (.inr (.inr rfl))) (hsl ⟨_,1⟩ rfl) (Y:=fun p=>S p.agent∨p.agent=x∨p.agent=y) (fun p q hq=>by
   have hy2:p.agent=y→p.slot=0∨p.slot=1∨p.slot=2:=fun e=>by
    have:=Bh hq (x:=sh b) (by rw [w2.shp,e]; exact B8 (Dv hp.hy))
    simp only [sh,hb] at this; omega
   have hs':=hsl p
   simp only [ne_eq,Aj]
   grind) fun p hs=>.inl hs
 exact⟨_,A2,A3,_,B2,B3,e1,e3,e5,e2,e4,e6,w3.ok,w3.shp,w3.fr⟩
end
end Go.Proofs.YtckcfdggbbabfaaGreat.Ab
namespace Go.Proofs.YtckcfdggbbabfaaGreat.Ab
set_option linter.unusedVariables false
set_option linter.unusedSimpArgs false
open Go.RowKit
theorem gG (x:Int):IntKind.i32.wrap (IntKind.u32.wrap (IntKind.u64.wrap x))=IntKind.i32.wrap x:=by
 have e:∀y,IntKind.i32.wrap y=if 2147483648≤y % 4294967296 then y % 4294967296 - 4294967296 else y % 4294967296:=fun y=>by
  simp [IntKind.wrap,IntKind.bits,IntKind.signed]
 have e1:∀y,IntKind.u32.wrap y=y % 4294967296:=fun y=>by simp [IntKind.wrap,IntKind.bits,IntKind.signed]
 have e2:∀y,IntKind.u64.wrap y=y % 18446744073709551616:=fun y=>by simp [IntKind.wrap,IntKind.bits,IntKind.signed]
 rw [e,e,e1,e2]
 have:x % 18446744073709551616 % 4294967296 % 4294967296=x % 4294967296:=by omega
 rw [this]
theorem bj (x:Int):GB x=D6 x:=by unfold GB D6; rw [gG]
theorem bn (b:Bool):KM b=Hl b:=rfl
theorem gH (o a b:Int):KN o a b=Fm o a b:=by
 unfold KN Fm
 simp only [bj,bn]
theorem Rt (b:Bool):Hl b=some (if b=true then 1 else 0):=by unfold Hl; split <;> rfl
theorem Ru (x:Int):∃y,D6 x=some y:=⟨_,rfl⟩
theorem gI (o a b:Int):∃y,Fm o a b=some y:=by
 unfold Fm
 obtain⟨u,hu⟩:=Ru a
 obtain⟨v,hv⟩:=Ru b
 rw [hu,AA,hv,AA]
 have hw:∀x,∃y,(Option.bind (D6 x) fun z=>some z)=some y:=fun x=>by
  obtain⟨y,hy⟩:=Ru x; exact⟨y,by rw [hy]; rfl⟩
 by_cases h1:o=1
 ·subst h1; exact hw _
 by_cases h2:o=2
 ·subst h2; exact hw _
 by_cases h3:o=3
 ·subst h3; exact hw _
 rw [if_neg (by simpa using h1),if_neg (by simpa using h2),if_neg (by simpa using h3)]
 by_cases h4:o=4
 ·subst h4
  rw [if_pos (by simp)]
  by_cases hz:v=0
  ·rw [if_pos (by simpa using hz)]; exact⟨_,rfl⟩
  ·rw [if_neg (by simpa using hz)]
   have:nz? v=some ():=by unfold nz?; rw [if_neg hz]
   rw [this,AA]
   exact hw _
 rw [if_neg (by simpa using h4)]
 by_cases h5:o=5
 ·rw [if_pos (by simpa using h5),Rt]; exact⟨_,rfl⟩
 rw [if_neg (by simpa using h5)]
 by_cases h6:o=6
 ·rw [if_pos (by simpa using h6),Rt]; exact⟨_,rfl⟩
 rw [if_neg (by simpa using h6)]
 exact⟨_,rfl⟩
theorem Jm (a:Agent) (hd:a.data.length≤Big) (hp:a.ports.length≤Big):s_l11OwnAgent a=some a:=by
 unfold s_l11OwnAgent
 rw [XE _ hd,AA,C2 (by simpa using hp),AA]; rfl
def NB (x:Sh):Prop:=x.2.2.2.1.length ≤4∧x.2.2.2.2 ≤4∧x.1 ≠0
def shB (x:Sh):Bool:=agB ⟨x.1,x.2.1,x.2.2.1,x.2.2.2.1,List.replicate x.2.2.2.2 ⟨0,0⟩⟩
theorem Rv {a b} (h:sh a=sh b):agB a=agB b∧a.kind=b.kind:=by
 simp only [sh,Prod.mk.injEq] at h
 obtain⟨h1,h2,h3,h4,h5⟩:=h
 refine⟨?_,h1⟩
 unfold agB Fw
 rw [h1,h2,h3,h4,h5]
theorem XJ (a:Agent):shB (sh a)=agB a:=(Rv (by simp [sh])).1
def SV (new:List Sh):Prop:=∀n ∈ new,n.1 ≠1∧shB n=true
theorem Hn {a} (h:agB a=true):levB a.kind a.level=true∧Fw a=true∧0<a.ports.length∧ports a.kind (if a.kind=9 then (a.ports.length:Int) - 1 else 0)=(a.ports.length:Int):=by
 unfold agB at h
 simp only [Bool.and_eq_true,decide_eq_true_eq] at h
 exact⟨h.1.2,h.2,h.1.1.1,h.1.1.2⟩
theorem Rw {k l m} (h:levB k l=true) (hk:k≠1∧k≠5∧k≠6) (hm:1≤m∧m≤12∧m≠1∧m≠5∧m≠6):levB m l=true:=by
 unfold levB at h ⊢
 rw [if_neg (by omega)] at h
 rw [if_neg (by omega)]
 simp only [Bool.and_eq_true,decide_eq_true_eq] at h ⊢
 omega
theorem Vw {x y} (h:D6 x=some y): -2147483648≤y∧y≤2147483647:=by
 have e:∀z,IntKind.i32.wrap z=(if z % 4294967296<2147483648 then z % 4294967296 else z % 4294967296 - 4294967296):=fun z=>by
  simp [IntKind.wrap,IntKind.bits,IntKind.signed]
  split <;> split <;> omega
 have e2:∀z,-2147483648≤IntKind.i32.wrap z∧IntKind.i32.wrap z≤2147483647:=fun z=>by rw [e]; split <;> omega
 unfold D6 at h
 cases h
 have:=e2 x
 first
  |exact e2 _
  |(rw [w64 (by omega) (by omega)]; exact e2 _)
theorem gJ {o a b y} (h:Fm o a b=some y): -2147483648≤y∧y≤2147483647:=by
 have ht:∀ {c:Bool} {z:Int},Hl c=some z→ -2147483648≤z∧z≤2147483647:=fun {c z} hz=>by
  unfold Hl at hz
  split at hz <;> cases hz <;> omega
 have hb:∀ {α β:Type} {x:Option α} {f:α→Option β} {r:β},Option.bind x f=some r→∃v,x=some v∧f v=some r:=fun {α β x f r} hx=>by
  cases x with
  |none=>cases hx
  |some v=>exact⟨v,rfl,hx⟩
 unfold Fm at h
 obtain⟨u,-,h⟩:=hb h
 obtain⟨v,-,h⟩:=hb h
 repeat' split at h
 all_goals first
  |(obtain⟨z,hz,h⟩:=hb h; cases h; first|exact Vw hz|exact ht hz)
  |(obtain⟨z,-,h⟩:=hb h; obtain⟨w,hw,h⟩:=hb h; cases h; exact Vw hw)
  |(cases h; omega)
def NBs (new:List Sh):Prop:=(∀n ∈ new,NB n)∧new.length≤600
section
variable {S:Int→Prop} {X:Port→Prop} {A B:List Agent}
theorem Pr.bx (h:Ok S X A B) {x y} {a b} (hp:Pr S A x y a b):at? B x=some a:=(h.ag x hp.sx).symm.trans hp.hx
theorem Pr.bY (h:Ok S X A B) {x y} {a b} (hp:Pr S A x y a b):at? B y=some b:=(h.ag y hp.sy).symm.trans hp.hy
theorem XK (h:Ok S (fun p=>S p.agent) A B) {x y} {a b} (hp:Pr S A x y a b) (ga:agB a=true) (gb:agB b=true) (hka:a.kind=6) (ha:a.ports.length=1) (hk:(b.kind=7∧b.ports.length=3∧b.data.length=0)∨(b.kind=8∧b.ports.length=2∧b.data.length=1)) (hA:A.length≤8000000):
  ∃A2 B2 new,(∀bk r,Cm ⟨⟨A⟩,bk,r⟩ x y=some ⟨⟨A2⟩,bk,r⟩)∧Fo ⟨B⟩ x y=some ⟨B2⟩∧Done S A x y new A2 B2∧NBs new∧SV new∧new.length=1:=by
 have hb:b.data.length≤Big∧b.ports.length≤Big:=by unfold Big; omega
 rcases hk with ⟨k1,k2,k3⟩|⟨k1,k2,k3⟩
 ·obtain⟨A1,A2,A3,B1,B2,B3,e1,e2,e3,f1,f2,f3,d⟩:=ZT h hp ha k2 hA 8 b.level b.value [a.value] (by unfold Big; simp)
  refine⟨A3,B3,_,fun bk r=>?_,?_,d,?_⟩
  ·unfold Cm
   rw [hp.hx,AA,hp.hy,AA,if_pos (by simp [k1]),e1,AA,e2,AA,e3,AA]
  ·unfold Fo
   rw [hp.bY h,AA,Jm b hb.1 hb.2,AA,hp.bx h,AA,if_neg (by simp [k1]),f1,AA]
   simp only [CV,AA,f2,f3]
  ·refine⟨⟨fun n hn=>?_,by simp⟩,fun n hn=>?_,rfl⟩
   ·rw [List.mem_singleton] at hn; subst hn
    exact⟨by simp,by simp,by simp⟩
   ·rw [List.mem_singleton] at hn; subst hn
    have lb:=Rw (m:=8) (Hn gb).1 (by omega) (by omega)
    have cb:=(Hn gb).2.1
    unfold Fw at cb
    rw [if_neg (by omega),if_pos k1] at cb
    simp only [Bool.and_eq_true,decide_eq_true_eq] at cb
    have ca:=(Hn ga).2.1
    unfold Fw at ca
    rw [if_pos hka] at ca
    simp only [Bool.and_eq_true,decide_eq_true_eq] at ca
    refine⟨by simp,?_⟩
    simp [shB,agB,ports,Fw,lb,cb,ca]
 ·obtain⟨d0,hd0⟩:∃d0,at? b.data 0=some d0:=by
   obtain⟨u,hu,-⟩:=Ef (l:=b.data) (i:=0) (by omega)
   exact⟨u,hu⟩
  obtain⟨v,hv⟩:=gI b.value d0 a.value
  obtain⟨A1,A2,B1,B2,e1,e2,f1,f2,d⟩:=Vv h hp ha k2 hA 6 0 v [] (by simp)
  refine⟨A2,B2,_,fun bk r=>?_,?_,d,?_⟩
  ·unfold Cm
   rw [hp.hx,AA,hp.hy,AA,if_neg (by simp [k1]),hd0,AA,hv,AA,e1,AA,e2,AA]
  ·unfold Fo
   rw [hp.bY h,AA,Jm b hb.1 hb.2,AA,hp.bx h,AA,if_pos (by simp [k1]),hd0,AA,gH,hv,AA,f1,AA]
   simp only [CV,AA,f2]
  ·refine⟨⟨fun n hn=>?_,by simp⟩,fun n hn=>?_,rfl⟩
   ·rw [List.mem_singleton] at hn; subst hn
    exact⟨by simp,by simp,by simp⟩
   ·rw [List.mem_singleton] at hn; subst hn
    have bd:=gJ hv
    refine⟨by simp,?_⟩
    simp [shB,agB,ports,Fw,levB,bd]
theorem ZU (h:Ok S (fun p=>S p.agent) A B) {x y} {a b} (hp:Pr S A x y a b) (gb:agB b=true) (ha:a.ports.length=1) (hka:a.kind=6) (hkb:b.kind=11) (hb:b.ports.length=2) (hd:b.data.length=2) (hA:A.length≤8000000):
  ∃A2 B2 new,(∀bk r,Br ⟨⟨A⟩,bk,r⟩ x y=some ⟨⟨A2⟩,bk,r⟩)∧Em ⟨B⟩ x y=some ⟨B2⟩∧Done S A x y new A2 B2∧NBs new∧SV new∧new.length=1:=by
 have hbb:b.data.length≤Big∧b.ports.length≤Big:=by unfold Big; omega
 obtain⟨d0,hd0,-⟩:=Ef (l:=b.data) (i:=0) (by omega)
 obtain⟨d1,hd1,-⟩:=Ef (l:=b.data) (i:=1) (by omega)
 obtain⟨A1,A2,B1,B2,e1,e2,f1,f2,d⟩:=Vv h hp ha hb hA 12 b.level (if a.value=0 then d1 else d0) [] (by simp)
 refine⟨A2,B2,_,fun bk r=>?_,?_,d,?_⟩
 ·unfold Br
  rw [hp.hx,AA,hp.hy,AA,if_pos (by simp [hka]),Rt,AA]
  by_cases hv:a.value=0
  ·simp only [hv,decide_true,if_true] at e1 e2 ⊢
   rw [hd1,AA,e1,AA,e2,AA]
  ·simp only [hv,decide_false,Bool.false_eq_true,if_false] at e1 e2 ⊢
   rw [hd0,AA,e1,AA,e2,AA]
 ·unfold Em Fa
  rw [hp.bY h,AA,Jm b hbb.1 hbb.2,AA,if_pos (by simp [hkb]),hd1,AA,hp.bx h,AA]
  by_cases hv:a.value=0
  ·rw [if_neg (by simp [hv])]
   rw [if_pos hv] at f1
   simp only [CV,AA,f1,f2]
  ·rw [if_pos (by simp [hv]),hd0,AA]
   rw [if_neg hv] at f1
   simp only [CV,AA,f1,f2]
 ·refine⟨⟨fun n hn=>?_,by simp⟩,fun n hn=>?_,rfl⟩
  ·rw [List.mem_singleton] at hn; subst hn
   exact⟨by simp,by simp,by simp⟩
  ·rw [List.mem_singleton] at hn; subst hn
   have lb:=Rw (m:=12) (Hn gb).1 (by omega) (by omega)
   have cb:=(Hn gb).2.1
   unfold Fw at cb
   rw [if_neg (by omega),if_neg (by omega),if_neg (by omega),if_neg (by omega),if_neg (by omega),if_neg (by omega),if_pos hkb] at cb
   simp only [Bool.and_eq_true,decide_eq_true_eq,List.all_eq_true] at cb
   have m0:=cb.2 d0 (List.mem_of_getElem? (A9 hd0).2)
   have m1:=cb.2 d1 (List.mem_of_getElem? (A9 hd1).2)
   refine⟨by simp,?_⟩
   by_cases hv:a.value=0
   ·simp [shB,agB,ports,Fw,lb,hv,m1]
   ·simp [shB,agB,ports,Fw,lb,hv,m0]
end
end Go.Proofs.YtckcfdggbbabfaaGreat.Ab
namespace Go.Proofs.YtckcfdggbbabfaaGreat.Ab
set_option linter.unusedVariables false
set_option linter.unusedSimpArgs false
open Go.RowKit
theorem YL {l} {p q u} {x} (h:Ab.get l p=some u):upd (l++[x]) p q=upd l p q++[x] :=by
 obtain⟨a,h1,-⟩:=Ay.1 h
 obtain⟨h2,h3⟩:=A9 h1
 have h4:=C6 h1
 have h5:at? (l++[x]) p.agent=some a:=by rw [Oe,if_neg (by omega)]; exact h1
 rw [Hg h1,Hg h5,List.set_append_left]
 omega
theorem gK {l} {p q u v} {x} (hp:Ab.get l p=some u) (hq:Ab.get l q=some v):lk (l++[x]) p q=lk l p q++[x] :=by
 unfold lk
 have:∃w,Ab.get (upd l p q) q=some w:=by
  rw [K9 hp]; split
  ·exact⟨_,rfl⟩
  ·exact⟨v,hq⟩
 obtain⟨w,hw⟩:=this
 rw [YL hp,YL hw]
theorem Fj {l} {p q r u v} (hp:Ab.get l p=some u) (hr:Ab.get l r=some v) (h:r≠p):Ab.get (upd l p q) r=some v:=by rw [K9 hp,if_neg h]; exact hr
theorem jz {l} {p q n v a b c d} (hp:Ab.get l p=some a) (hq:Ab.get l q=some b) (hn:Ab.get l n=some c) (hv:Ab.get l v=some d) (pq:p≠q) (nv:n≠v) (h1:p≠n) (h2:p≠v) (h3:q≠n) (h4:q≠v):lk (lk l p q) n v=lk (lk l n v) p q:=by
 unfold lk
 have p1:=fun x=>Fj (q:=x) hp hq pq.symm
 have p2:=fun x=>Fj (q:=x) hp hn h1.symm
 have p3:=fun x=>Fj (q:=x) hp hv h2.symm
 have n1:=fun x=>Fj (q:=x) hn hp h1
 have n2:=fun x=>Fj (q:=x) hn hq h3
 have n3:=fun x=>Fj (q:=x) hn hv nv.symm
 rw [ME h3 (p1 q) (p2 q),ME h1 hp hn]
 have e1:Ab.get (upd (upd l n v) p q) q=some b:=Fj (n1 v) (n2 v) pq.symm
 have e2:Ab.get (upd (upd l n v) p q) v=some d:=Fj (n1 v) (n3 v) h2.symm
 rw [ME h4 e1 e2,ME h2 (n1 v) (n3 v)]
def H9 (lv:Int):Sh:=(3,lv,0,[],3)
def gro (lv:Int):Nat→Port→List Agent→List Agent
 |0,_,l=>l
 |k+1,top,l=>gro lv k ⟨(l.length:Int),2⟩ (lk (l++[newA 3 lv 0 [] 3]) ⟨(l.length:Int),0⟩ top)
def QI:Nat→Port→Nat→Port
 |0,top,_=>top
 |k+1,_,n=>QI k ⟨(n:Int),2⟩ (n+1)
def JL (n:Nat):Nat→List Int
 |0=>[]
 |k+1=>(n:Int)::JL (n+1) k
theorem Mx (k:Nat):∀n,(JL n k).length =k:=by
 induction k with
 |zero=>intro n; rfl
 |succ k ih=>intro n; rw [JL,List.length_cons,ih]
theorem Vx (k:Nat):∀n j,j<k→(JL n k)[j]? =some ((n+j:Nat):Int):=by
 induction k with
 |zero=>intro n j h; omega
 |succ k ih=>
  intro n j h
  cases j with
  |zero=>rfl
  |succ j=>rw [JL,List.getElem?_cons_succ,ih (n+1) j (by omega)]; congr 2; omega
theorem MH {l:List Agent} {k lv v:Int} {d:List Int} {n:Nat} {s:Int} (h0:0≤s) (hs:s<(n:Int)):Ab.get (l++[newA k lv v d n]) ⟨(l.length:Int),s⟩=some ⟨0,0⟩:=by
 rw [KZ,if_pos rfl]
 unfold newA at?
 simp only
 rw [if_pos h0,List.getElem?_replicate,if_pos (by omega)]
theorem LC {l} {x} {p u} (h:Ab.get l p=some u):Ab.get (l++[x]) p=some u:=by
 have:=DQ h
 rw [KZ,if_neg (by omega)]; exact h
theorem j0 (a0:Rewriter) (x y:Int) (a b:Agent) (hf:a.ports.length≤5) (r:List (Int × Bool)):∀ (k i m:Nat) (top:Port) (l:List Agent) (apps:List Int) (t:Port),i+k+1=a.ports.length→k<m→l.length+k≤16000000→apps.length+k≤100→Ab.get l top=some t→
  BP m a0 x y a b r l top.agent top.slot apps (i:Int)=BF fuel a0 x y (QI k top l.length).agent (QI k top l.length).slot (apps++JL l.length k) r (gro b.level k top l) 0:=by
 intro k
 induction k with
 |zero=>
  intro i m top l apps t h hm hl hap ht
  obtain⟨m,rfl⟩:∃q,m=q+1:=⟨m - 1,by omega⟩
  rw [BP,if_neg (by rw [w64 (by omega) (by omega)]; simp; omega)]
  simp only [QI,gro,JL,List.append_nil]
 | succ k ih=>
  intro i m top l apps t h hm hl hap ht
  obtain⟨m,rfl⟩:∃q,m=q+1:=⟨m - 1,by omega⟩
  rw [BP,if_pos (by rw [w64 (by omega) (by omega)]; simp; omega)]
  have e:Ai ⟨⟨l⟩,a0.book,r⟩ 3 b.level 0 [] 3=some ((l.length:Int),⟨⟨l++[newA 3 b.level 0 [] 3]⟩,a0.book,r⟩):=YI l a0.book r 3 b.level 0 [] 3 (by unfold Big; omega) (by simp) (by unfold Big; omega)
  have g1:Ab.get (l++[newA 3 b.level 0 [] 3]) ⟨(l.length:Int),0⟩=some ⟨0,0⟩:=MH (by omega) (by omega)
  have g2:Ab.get (l++[newA 3 b.level 0 [] 3]) top=some t:=LC ht
  have g3:Ab.get (l++[newA 3 b.level 0 [] 3]) ⟨(l.length:Int),2⟩=some ⟨0,0⟩:=MH (by omega) (by omega)
  have tl:=DQ ht
  have g4:Ab.get (lk (l++[newA 3 b.level 0 [] 3]) ⟨(l.length:Int),0⟩ top) ⟨(l.length:Int),2⟩=some ⟨0,0⟩:=by
   rw [Jl g1 g2 (by simp) (fun e=>by have:=congrArg Port.agent e; simp only at this; omega)]; exact g3
  rw [e,AA]
  simp only
  rw [KY,Hm g1 g2,AA,C2 (by unfold Big; simp; omega),AA]
  rw [w64 (by omega) (by omega),show ((i:Int)+1)=((i+1:Nat):Int) from by omega]
  have:=ih (i+1) m ⟨(l.length:Int),2⟩ (lk (l++[newA 3 b.level 0 [] 3]) ⟨(l.length:Int),0⟩ top) (apps++[(l.length:Int)]) ⟨0,0⟩ (by omega) (by omega) (by rw [Np]; simp; omega) (by simp; omega) g4
  rw [Np,List.length_append,List.length_singleton] at this
  simp only at this
  rw [this]
  simp only [QI,gro,JL,List.append_assoc,List.singleton_append]
theorem gL (lv:Int):∀ (r:Nat) (T:List Agent) (X:Port→Prop) (top t o v n u:Port),M T X→Ab.get T top=some t→X top→Ab.get T o=some v→¬X o→Ab.get T n=some u→X n→top≠n→
  Ab.get (gro lv r top T) o=some v∧Ab.get (gro lv r top T) v=some o∧Ab.get (gro lv r top T) n=some u∧mv (gro lv r top T) o n=gro lv r top (mv T o n):=by
 intro r
 induction r with
 |zero=>
  intro T X top t o v n u hm ht xt ho xo hn xn hne
  obtain⟨-,-,h3⟩:=hm o v ho xo
  exact⟨ho,h3,hn,rfl⟩
 | succ r ih=>
  intro T X top t o v n u hm ht xt ho xo hn xn hne
  obtain⟨h1,h2,h3⟩:=hm o v ho xo
  have lt:=DQ ht
  have lo:=DQ ho
  have lv':=DQ h3
  have ln:=DQ hn
  have g1:Ab.get (T++[newA 3 lv 0 [] 3]) ⟨(T.length:Int),0⟩=some ⟨0,0⟩:=MH (by omega) (by omega)
  have g2:Ab.get (T++[newA 3 lv 0 [] 3]) top=some t:=LC ht
  have g3:Ab.get (T++[newA 3 lv 0 [] 3]) ⟨(T.length:Int),2⟩=some ⟨0,0⟩:=MH (by omega) (by omega)
  have nN:∀ (p:Port) (s:Int),p.agent<(T.length:Int)→p≠⟨(T.length:Int),s⟩:=fun p s hp e=>by rw [Aj] at e; omega
  have ot:o≠top:=fun e=>xo (e ▸ xt)
  have vt:v≠top:=fun e=>h1 (e ▸ xt)
  have nv:n≠v:=fun e=>h1 (e ▸ xn)
  have no:n≠o:=fun e=>xo (e ▸ xn)
  have hM:M (lk (T++[newA 3 lv 0 [] 3]) ⟨(T.length:Int),0⟩ top) fun p=>(X p∨p.agent=(T.length:Int))∧p≠⟨(T.length:Int),0⟩∧p≠top:=by
   refine M.link (X:=fun p=>X p∨p.agent=(T.length:Int)) (fun p q hp hx=>?_) g1 g2 (nN top 0 lt.2).symm (.inr rfl) (.inl xt)
   have e1:p.agent≠(T.length:Int):=fun e=>hx (.inr e)
   rw [KZ,if_neg e1] at hp
   obtain⟨k1,k2,k3⟩:=hm p q hp fun e=>hx (.inl e)
   have:=DQ k3
   refine⟨fun hq=>?_,k2,LC k3⟩
   rcases hq with hq|hq
   ·exact k1 hq
   ·omega
  have gg:∀ (p w:Port),p≠top→Ab.get T p=some w→Ab.get (lk (T++[newA 3 lv 0 [] 3]) ⟨(T.length:Int),0⟩ top) p=some w:=fun p w hpt hp=>by
   rw [Jl g1 g2 (nN p 0 (DQ hp).2) hpt]; exact LC hp
  have g4:Ab.get (lk (T++[newA 3 lv 0 [] 3]) ⟨(T.length:Int),0⟩ top) ⟨(T.length:Int),2⟩=some ⟨0,0⟩:=by
   rw [Jl g1 g2 (by simp) (nN top 2 lt.2).symm]; exact g3
  obtain⟨k1,k2,k3,k4⟩:=ih _ _ ⟨(T.length:Int),2⟩ _ o v n u hM g4 ⟨.inr rfl,by simp,(nN top 2 lt.2).symm⟩ (gg o v ot ho)
   (fun e=>by
    rcases e.1 with e|e
    ·exact xo e
    ·omega) (gg n u hne.symm hn) ⟨.inl xn,nN n 0 ln.2,hne.symm⟩ (nN n 2 ln.2).symm
  refine⟨k1,k2,k3,?_⟩
  have e1:mv T o n=lk T n v:=by unfold mv; rw [ho]
  have e2:mv (lk (T++[newA 3 lv 0 [] 3]) ⟨(T.length:Int),0⟩ top) o n=lk (lk (T++[newA 3 lv 0 [] 3]) ⟨(T.length:Int),0⟩ top) n v:=by unfold mv; rw [gg o v ot ho]
  have e3:(mv T o n).length =T.length:=by rw [e1,Np]
  rw [gro,k4,gro,e3,e2,e1,jz g1 g2 (LC hn) (LC h3) (nN top 0 lt.2).symm nv (nN n 0 ln.2).symm (nN v 0 lv'.2).symm hne vt.symm,gK hn h3]
end Go.Proofs.YtckcfdggbbabfaaGreat.Ab
namespace Go.Proofs.YtckcfdggbbabfaaGreat.Ab
set_option linter.unusedVariables false
set_option linter.unusedSimpArgs false
open Go.RowKit
section
variable {S:Int→Prop} {A B:List Agent}
def conX (S:Int→Prop) (x y:Int) (j:Nat) (ta ts:Int) (p:Port):Prop:=S p.agent∨(p.agent=x∧p.slot≤(j:Int))∨(p.agent=y∧p.slot=0)∨(p.agent=ta∧p.slot=ts)
theorem bp (hS:∀k,S k→0≤k∧k<(A.length:Int)) {x y} {a b} (hp:Pr S A x y a b) (hne:x≠y) (hb:b.ports.length=2) (hA:A.length≤8000000) (K:Nat) (hK:a.ports.length=K+1) (hK5:K≤4) (c:Sh) (tf:Port):
  ∀ (r j m m':Nat) (L B1:List Agent) (ta ts:Int) (t:Port),j+r=K→r<m→r<m'→Way1 S A (c::List.replicate j (H9 b.level)) (conX S x y j ta ts) L B1→Ab.get L ⟨ta,ts⟩=some t→(A.length:Int)≤ta→tf=QI r ⟨ta,ts⟩ L.length→
   ∃A2 B2,(∀ (a0:Rewriter) rr,BF m a0 x y tf.agent tf.slot (JL (A.length+1) K) rr (gro b.level r ⟨ta,ts⟩ L) (j:Int)=some ⟨⟨A2⟩,a0.book,rr⟩)∧Cz m' x y b (K:Int) B1 ta ts ((j:Int)+1)=some ⟨B2⟩∧Done S A x y (c::List.replicate K (H9 b.level)) A2 B2:=by
 have hyl:=C6 hp.hy
 have hxl:=C6 hp.hx
 intro r
 induction r with
 | zero=>
  intro j m m' L B1 ta ts t h hm hm' hw ht hta htf
  obtain⟨m,rfl⟩:∃q,m=q+1:=⟨m - 1,by omega⟩
  obtain⟨m',rfl⟩:∃q,m'=q+1:=⟨m' - 1,by omega⟩
  have hj:j=K:=by omega
  subst hj
  have tl:=DQ ht
  simp only at tl
  obtain⟨u,g1⟩:=hw.old hp.hy (s:=1) (by omega) (by omega)
  have nS:¬S ta:=fun hs=>by have:=hS _ hs; omega
  obtain⟨A2,B2,e1,e2,w⟩:=hw.move (o:=⟨y,1⟩) (n:=⟨ta,ts⟩) g1 ht (fun h=>by
    unfold conX at h
    simp only at h
    rcases h with h|h|h|h
    ·exact hp.sy h
    ·exact hne h.1.symm
    ·omega
    ·omega) (.inr (.inr (.inr ⟨rfl,rfl⟩))) nS (Y:=fun p=>S p.agent∨p.agent=x∨p.agent=y) (fun p q hq=>by
    have hx2:p.agent=x→p.slot≤(j:Int):=fun e=>by
     have:=Bh hq (x:=sh a) (by rw [hw.shp,e]; exact B8 (Dv hp.hx))
     simp only [sh,hK] at this; omega
    have hy2:p.agent=y→p.slot=0∨p.slot=1:=fun e=>by
     have:=Bh hq (x:=sh b) (by rw [hw.shp,e]; exact B8 (Dv hp.hy))
     simp only [sh,hb] at this; omega
    unfold conX
    simp only [ne_eq,Aj]
    grind) fun p hs=>.inl hs
  refine⟨A2,B2,fun a0 rr=>?_,?_,w.ok,w.shp,w.fr⟩
  ·rw [BF,if_neg (by rw [Mx]; simp),htf]
   simp only [QI,gro]
   rw [e1,AA]
  ·rw [Cz,if_neg (by simp; omega),CV,AA,e2,AA]
 | succ r ih=>
  intro j m m' L B1 ta ts t h hm hm' hw ht hta htf
  obtain⟨m,rfl⟩:∃q,m=q+1:=⟨m - 1,by omega⟩
  obtain⟨m',rfl⟩:∃q,m'=q+1:=⟨m' - 1,by omega⟩
  have hlen:=hw.len
  rw [List.length_cons,List.length_replicate] at hlen
  have tl:=DQ ht
  simp only at tl
  have nS:∀k:Int,(A.length:Int)≤k→¬S k:=fun k hk hs=>by have:=hS _ hs; omega
  obtain⟨e1,e2,w1⟩:=hw.add 3 b.level 0 [] 3 (by unfold Big; omega) (by simp) (by unfold Big; omega)
  rw [List.length_cons,List.length_replicate,← hlen] at e1 e2 w1
  have hnew:((c::List.replicate j (H9 b.level))++[(3,b.level,0,[],3)])[j+1]? =some (H9 b.level):=by
   rw [List.getElem?_append_right (by simp)]; simp [H9]
  have hN:((A.length+(j+1):Nat):Int)=(L.length:Int):=by omega
  obtain⟨u0,g0⟩:=w1.new hnew (s:=0) (by omega) (by simp [H9])
  rw [hN] at g0
  have g2:Ab.get (L++[newA 3 b.level 0 [] 3]) ⟨ta,ts⟩=some t:=LC ht
  obtain⟨T,BT,k1,k2,k3,k4,w2⟩:=w1.link g0 g2 (fun e=>by rw [Aj] at e; simp only at e; omega) (.inr rfl) (.inl (.inr (.inr (.inr ⟨rfl,rfl⟩)))) (nS _ (by simp only; omega)) (nS _ hta)
  have hT:T=lk (L++[newA 3 b.level 0 [] 3]) ⟨(L.length:Int),0⟩ ⟨ta,ts⟩:=by
   rw [KY,Hm g0 g2] at k1
   simp only [Option.some.injEq,Net.mk.injEq] at k1; exact k1.symm
  obtain⟨u1,g3⟩:=w2.new hnew (s:=1) (by omega) (by simp [H9])
  obtain⟨u2,g4⟩:=w2.new hnew (s:=2) (by omega) (by simp [H9])
  rw [hN] at g3 g4
  obtain⟨v,g5⟩:=w2.old hp.hx (s:=(j:Int)+1) (by omega) (by omega)
  have xo:¬ ((fun r=>(conX S x y j ta ts r∨r.agent=(L.length:Int))∧r≠⟨(L.length:Int),0⟩∧r≠⟨ta,ts⟩) (⟨x,(j:Int)+1⟩:Port)):=fun h=>by
   unfold conX at h
   simp only at h
   rcases h.1 with (h|h|h|h)|h
   ·exact hp.sx h
   ·omega
   ·exact hne h.1
   ·omega
   ·omega
  have xn:(fun r=>(conX S x y j ta ts r∨r.agent=(L.length:Int))∧r≠⟨(L.length:Int),0⟩∧r≠⟨ta,ts⟩) (⟨(L.length:Int),1⟩:Port):=⟨.inr rfl,by simp,fun e=>by rw [Aj] at e; simp only at e; omega⟩
  have xt:(fun r=>(conX S x y j ta ts r∨r.agent=(L.length:Int))∧r≠⟨(L.length:Int),0⟩∧r≠⟨ta,ts⟩) (⟨(L.length:Int),2⟩:Port):=⟨.inr rfl,by simp,fun e=>by rw [Aj] at e; simp only at e; omega⟩
  obtain⟨q1,q2,q3,q4⟩:=gL b.level r T _ ⟨(L.length:Int),2⟩ u2 ⟨x,(j:Int)+1⟩ v ⟨(L.length:Int),1⟩ u1 w2.ok.m g4 xt g5 xo g3 xn (by simp)
  obtain⟨A2,B2,f1,f2,w3⟩:=w2.move g5 g3 xo xn (nS _ (by simp only; omega)) (Y:=conX S x y (j+1) (L.length:Int) 2) (fun p q hq=>by
    have hn:p.agent=(L.length:Int)→p.slot=0∨p.slot=1∨p.slot=2:=fun e=>by
     have:=Bh hq (x:=H9 b.level) (by
      rw [w2.shp,e,← hN]
      have:=GJ (l:=A.map sh) hnew
      rwa [List.length_map] at this)
     simp only [H9] at this; omega
    unfold conX
    simp only [ne_eq,Aj]
    grind) fun p hs=>.inl hs
  have hA2:A2=mv T ⟨x,(j:Int)+1⟩ ⟨(L.length:Int),1⟩:=by
   obtain⟨-,-,h3⟩:=w2.ok.m _ _ g5 xo
   have:=f1 [] []
   rw [UG g5 h3 g3] at this
   simp only [Option.some.injEq,Rewriter.mk.injEq,Net.mk.injEq] at this
   exact this.1.symm
  have hl3:A2.length=L.length+1:=by
   have:=w3.len
   simp only [List.length_append,List.length_cons,List.length_replicate,List.length_nil] at this; omega
  obtain⟨u3,g6⟩:=w3.new hnew (s:=2) (by omega) (by simp [H9])
  rw [hN] at g6
  obtain⟨A3,B3,r1,r2,r3⟩:=ih (j+1) m m' A2 B2 (L.length:Int) 2 u3 (by omega) (by omega) (by omega) (by
   rw [List.replicate_succ',← List.cons_append]; exact w3) g6 (by omega) (by rw [htf,QI,hl3])
  refine⟨A3,B3,fun a0 rr=>?_,?_,r3⟩
  ·have hix:at? (JL (A.length+1) K) (j:Int)=some (L.length:Int):=by
    rw [MD (Vx K (A.length+1) j (by omega))]; congr 2; omega
   rw [BF,if_pos (by rw [Mx]; simp; omega),hix,AA,w64 (by omega) (by omega),gro,← hT,UG q1 q2 q3,AA,q4,← hA2,show ((j:Int)+1)=((j+1:Nat):Int) from by omega]
   exact r1 a0 rr
  ·rw [Cz,if_pos (by simp; omega)]
   have e2':Cj ⟨B1⟩ 3 b.level 0 [] 3=some ((L.length:Int),⟨B1++[newA 3 b.level 0 [] 3]⟩):=e2
   rw [e2',AA,CV,AA,k4,AA,CV,AA,CV,AA,f2,AA,CV,AA,w64 (by omega) (by omega),show ((j:Int)+1+1)=((j+1:Nat):Int)+1 from by omega]
   exact r2
theorem bq (h:Ok S (fun p=>S p.agent) A B) {x y} {a b} (hp:Pr S A x y a b) (gb:agB b=true) (hka:a.kind=9) (hkb:b.kind=10) (K:Nat) (hK:a.ports.length=K+1) (hK3:K≤3) (hb:b.ports.length=2) (hd:b.data.length≤4) (hv:0≤a.value) (hv2:a.value<(b.data.length:Int)) (hA:A.length≤8000000):
  ∃A2 B2 new,(∀bk r,Br ⟨⟨A⟩,bk,r⟩ x y=some ⟨⟨A2⟩,bk,r⟩)∧Em ⟨B⟩ x y=some ⟨B2⟩∧Done S A x y new A2 B2∧NBs new∧SV new∧new.length=K+1:=by
 obtain⟨h0,hne⟩:=h.start hp
 obtain⟨d,hd1,-⟩:=Ef (l:=b.data) (i:=a.value) ⟨hv,hv2⟩
 have hxl:=C6 hp.hx
 have hyl:=C6 hp.hy
 have w0:Way1 S A [] (fun p=>S p.agent∨p=⟨x,0⟩∨p=⟨y,0⟩) A B:=⟨h0,by simp,.refl⟩
 obtain⟨e1,e2,w1⟩:=w0.add 12 b.level d [] 1 (by unfold Big; omega) (by simp) (by unfold Big; omega)
 simp only [List.length_nil,Nat.add_zero,List.nil_append,Int.natCast_one] at e1 e2 w1
 have nS:∀k:Int,(A.length:Int)≤k→¬S k:=fun k hk hs=>by have:=h.s_lt hs; omega
 have w2:Way1 S A ((12,b.level,d,[],1)::List.replicate 0 (H9 b.level)) (conX S x y 0 (A.length:Int) 0) (A++[newA 12 b.level d [] 1]) (B++[newA 12 b.level d [] 1]):=by
  refine w1.mono (fun p q hq=>?_) fun p hs=>.inl hs
  have h1:p.agent=(A.length:Int)→p.slot=0:=fun e=>by
   have:=Bh hq (x:=(12,b.level,d,[],1)) (by
    rw [w1.shp,e]
    have:=GJ (l:=A.map sh) (m:=[(12,b.level,d,[],1)]) (k:=0) rfl
    rwa [List.length_map,Nat.add_zero] at this)
   simp only at this; omega
  have h2:p.agent=x→0≤p.slot:=fun e=>(Bh hq (x:=sh a) (by rw [w1.shp,e]; exact B8 (Dv hp.hx))).1
  unfold conX
  simp only [Aj]
  grind
 have hF:Cy a=some (K:Int):=by
  unfold Cy
  rw [if_pos (by simp [hka]),hK,w64 (by omega) (by omega)]; congr 1; omega
 have hg:Ab.get (A++[newA 12 b.level d [] 1]) ⟨(A.length:Int),0⟩=some ⟨0,0⟩:=MH (by omega) (by omega)
 obtain⟨A2,B2,s1,s2,s3⟩:=bp (fun k hk=>h.s_lt hk) hp hne hb hA K hK (by omega) _ _ K 0 fuel fuel _ _ _ _ _ (by omega) (by rw [Ah]; omega) (by rw [Ah]; omega) w2 hg (Int.le_refl _) rfl
 rw [List.length_append,List.length_singleton] at s1
 refine⟨A2,B2,_,fun bk r=>?_,?_,s3,⟨fun n hn=>?_,by simp; omega⟩,fun n hn=>?_,by simp⟩
 ·unfold Br D7
  rw [hp.hx,AA,hp.hy,AA,if_neg (by simp [hka]),hd1,AA,e1,AA]
  have:=j0 ⟨⟨A⟩,bk,r⟩ x y a b (by omega) r K 0 fuel ⟨(A.length:Int),0⟩ _ [] _ (by omega) (by rw [Ah]; omega) (by simp; omega) (by simp; omega) hg
  rw [List.length_append,List.length_singleton,List.nil_append] at this
  simp only [Int.natCast_zero] at this
  rw [this]
  exact s1 ⟨⟨A⟩,bk,r⟩ r
 ·unfold Em
  rw [hp.bY h,AA,Jm b (by unfold Big; omega) (by unfold Big; omega),AA,if_neg (by simp [hkb]),hp.bx h,AA,hF,AA,AA,hd1,AA,e2,AA,CV,AA]
  exact s2
 ·rcases List.mem_cons.1 hn with e|e
  ·subst e; exact⟨by simp,by simp,by simp⟩
  ·rw [(List.mem_replicate.1 e).2]; exact⟨by simp [H9],by simp [H9],by simp [H9]⟩
 ·have cb:=(Hn gb).2.1
  unfold Fw at cb
  rw [if_neg (by omega),if_neg (by omega),if_neg (by omega),if_neg (by omega),if_neg (by omega),if_pos hkb] at cb
  simp only [Bool.and_eq_true,decide_eq_true_eq,List.all_eq_true] at cb
  have m1:=cb.2 d (List.mem_of_getElem? (A9 hd1).2)
  rcases List.mem_cons.1 hn with e|e
  ·subst e
   have lb:=Rw (m:=12) (Hn gb).1 (by omega) (by omega)
   exact⟨by simp,by simp [shB,agB,ports,Fw,lb,m1]⟩
  ·rw [(List.mem_replicate.1 e).2]
   have lb:=Rw (m:=3) (Hn gb).1 (by omega) (by omega)
   exact⟨by simp [H9],by simp [H9,shB,agB,ports,Fw,lb]⟩
end
end Go.Proofs.YtckcfdggbbabfaaGreat.Ab
namespace Go.Proofs.YtckcfdggbbabfaaGreat.Ab
set_option linter.unusedVariables false
set_option linter.unusedSimpArgs false
open Go.RowKit
section
variable {S:Int→Prop} {A B:List Agent}
def dupS (lv:Int):Sh:=(4,lv,0,[],3)
def dupX (S:Int→Prop) (x y:Int) (n i:Nat) (p:Port):Prop:=
 S p.agent∨(p.agent=x∧p.slot=0)∨(p.agent=y∧p.slot=0)∨(p.agent=(n:Int)∧(p.slot=0∨(i:Int)≤p.slot))∨(p.agent=(n:Int)+1∧(p.slot=0∨(i:Int)≤p.slot))∨((n:Int)+2≤p.agent∧p.slot=0)
def XL (S:Int→Prop) (x y:Int) (n t:Nat) (p:Port):Prop:=
 S p.agent∨p.agent=x∨(p.agent=y∧p.slot≤(t:Int))∨((n:Int)+2+(t:Int)≤p.agent∧p.slot=0)
theorem ZV (hS:∀k,S k→0≤k∧k<(A.length:Int)) {x y} {a b} (hp:Pr S A x y a b) (hA:A.length≤8000000) (hb:b.ports.length≤4) (u2 u3:Int × Net) (hu2:u2.1 =(A.length:Int)) (hu3:u3.1 =(A.length:Int)+1):
  ∀ (k i m m':Nat) (L B1:List Agent),i+k=b.ports.length→1≤i→k<m→k<m'→Way1 S A (sh b::sh b::List.replicate (i - 1) (dupS a.level)) (dupX S x y A.length i) L B1→
   ∃L' B' m1 m2,(∀ (a0:Rewriter) (v2 v3:Int × Rewriter) rr (apps:List Int),v2.1 =(A.length:Int)→v3.1 =(A.length:Int)+1→apps.length+k≤100→Ap m a0 x y b v2 v3 rr L apps (i:Int)=Ap (m1+1) a0 x y b v2 v3 rr L' (apps++JL (A.length+1+i) k) (b.ports.length:Int))∧
    BZ m' x y a b u2 u3 B1 (i:Int)=BZ (m2+1) x y a b u2 u3 B' (b.ports.length:Int)∧Way1 S A (sh b::sh b::List.replicate (b.ports.length - 1) (dupS a.level)) (dupX S x y A.length b.ports.length) L' B':=by
 have hyl:=C6 hp.hy
 have hxl:=C6 hp.hx
 intro k
 induction k with
 |zero=>
  intro i m m' L B1 h h1 hm hm' hw
  obtain⟨m,rfl⟩:∃q,m=q+1:=⟨m - 1,by omega⟩
  obtain⟨m',rfl⟩:∃q,m'=q+1:=⟨m' - 1,by omega⟩
  have:i=b.ports.length:=by omega
  subst this
  exact⟨L,B1,m,m',fun a0 v2 v3 rr apps _ _ _=>by rw [JL,List.append_nil],rfl,hw⟩
 | succ k ih=>
  intro i m m' L B1 h h1 hm hm' hw
  obtain⟨m,rfl⟩:∃q,m=q+1:=⟨m - 1,by omega⟩
  obtain⟨m',rfl⟩:∃q,m'=q+1:=⟨m' - 1,by omega⟩
  have hlen:=hw.len
  simp only [List.length_cons,List.length_replicate] at hlen
  have nS:∀k:Int,(A.length:Int)≤k→¬S k:=fun k hk hs=>by have:=hS _ hs; omega
  have hsx:at? (L.map sh) x=some (sh a):=by rw [hw.shp]; exact B8 (Dv hp.hx)
  obtain⟨a',ha',has⟩:=MF hsx
  have hal:a'.level=a.level:=by simp only [sh,Prod.mk.injEq] at has; exact has.2.1
  obtain⟨e1,e2,w1⟩:=hw.add 4 a.level 0 [] 3 (by unfold Big; omega) (by simp) (by unfold Big; omega)
  rw [List.length_cons,List.length_cons,List.length_replicate,show A.length+(i - 1+1+1)=L.length from by omega] at e1 e2 w1
  have n0:((sh b::sh b::List.replicate (i - 1) (dupS a.level))++[(4,a.level,0,[],3)])[0]? =some (sh b):=rfl
  have n1:((sh b::sh b::List.replicate (i - 1) (dupS a.level))++[(4,a.level,0,[],3)])[1]? =some (sh b):=rfl
  have n2:((sh b::sh b::List.replicate (i - 1) (dupS a.level))++[(4,a.level,0,[],3)])[2+(i - 1)]? =some (dupS a.level):=by
   rw [List.getElem?_append_right (by simp; omega)]
   simp only [List.length_cons,List.length_replicate]
   rw [show 2+(i - 1) - (i - 1+1+1)=0 from by omega]; rfl
  have hN:((A.length+(2+(i - 1)):Nat):Int)=(L.length:Int):=by omega
  obtain⟨q1,g1⟩:=w1.new n2 (s:=1) (by omega) (by simp [dupS])
  obtain⟨q2,g2⟩:=w1.new n0 (s:=(i:Int)) (by omega) (by simp only [sh]; omega)
  rw [hN] at g1
  rw [Nat.add_zero] at g2
  obtain⟨T1,B2,k1,-,k2,-,w2⟩:=w1.link g1 g2 (fun e=>by rw [Aj] at e; simp only at e; omega) (.inr rfl) (.inl (.inr (.inr (.inr (.inl ⟨rfl,.inr (Int.le_refl _)⟩))))) (nS _ (by simp only; omega)) (nS _ (by simp only; omega))
  obtain⟨q3,g3⟩:=w2.new n2 (s:=2) (by omega) (by simp [dupS])
  obtain⟨q4,g4⟩:=w2.new n1 (s:=(i:Int)) (by omega) (by simp only [sh]; omega)
  rw [hN] at g3
  rw [show ((A.length+1:Nat):Int)=(A.length:Int)+1 from by omega] at g4
  obtain⟨T2,B3,k3,-,k4,-,w3⟩:=w2.link g3 g4 (fun e=>by rw [Aj] at e; simp only at e; omega) ⟨.inr rfl,by simp,fun e=>by rw [Aj] at e; simp only at e; omega⟩ ⟨.inl (.inr (.inr (.inr (.inr (.inl ⟨rfl,.inr (Int.le_refl _)⟩))))),fun e=>by rw [Aj] at e; simp only at e; omega,fun e=>by rw [Aj] at e; simp only at e; omega⟩ (nS _ (by simp only; omega)) (nS _ (by simp only; omega))
  have w4:Way1 S A (sh b::sh b::List.replicate (i+1 - 1) (dupS a.level)) (dupX S x y A.length (i+1)) T2 B3:=by
   have e:sh b::sh b::List.replicate (i+1 - 1) (dupS a.level)=(sh b::sh b::List.replicate (i - 1) (dupS a.level))++[(4,a.level,0,[],3)] :=by
    rw [show i+1 - 1=i - 1+1 from by omega,List.replicate_succ']; rfl
   rw [e]
   refine w3.mono (fun p q hq=>?_) fun p hs=>.inl hs
   have hn:p.agent=(L.length:Int)→p.slot=0∨p.slot=1∨p.slot=2:=fun e=>by
    have:=Bh hq (x:=dupS a.level) (by
     rw [w3.shp,e,← hN]
     have:=GJ (l:=A.map sh) n2
     rwa [List.length_map] at this)
    simp only [dupS] at this; omega
   have hlt:p.agent<(L.length:Int)+1:=by
    have:=DQ hq
    have e5:=w3.len
    simp only [List.length_append,List.length_cons,List.length_replicate,List.length_nil] at e5
    omega
   unfold dupX
   simp only [ne_eq,Aj]
   grind
  obtain⟨L',B',m1,m2,r1,r2,r3⟩:=ih (i+1) m m' T2 B3 (by omega) (by omega) (by omega) (by omega) w4
  refine⟨L',B',m1,m2,fun a0 v2 v3 rr apps hv2 hv3 hap=>?_,?_,r3⟩
  ·have e1':Ai ⟨⟨L⟩,a0.book,rr⟩ 4 a.level 0 [] 3=some ((L.length:Int),⟨⟨L++[newA 4 a.level 0 [] 3]⟩,a0.book,rr⟩):=e1 a0.book rr
   rw [Ap,if_pos (by simp; omega),ha',AA,hal,e1',AA,hv2,hv3]
   simp only
   rw [k1,AA,k3,AA,C2 (by unfold Big; simp; omega),AA,w64 (by omega) (by omega),show ((i:Int)+1)=((i+1:Nat):Int) from by omega,r1 a0 v2 v3 rr (apps++[(L.length:Int)]) hv2 hv3 (by simp; omega),JL,List.append_assoc,List.singleton_append,show A.length+1+(i+1)=A.length+1+i+1 from by omega,show (L.length:Int)=((A.length+1+i:Nat):Int) from by omega]
  ·have e2':Cj ⟨B1⟩ 4 a.level 0 [] 3=some ((L.length:Int),⟨B1++[newA 4 a.level 0 [] 3]⟩):=e2
   rw [BZ,if_pos (by simp; omega),e2',AA,hu2,hu3]
   simp only [CV,AA]
   rw [k2,AA,k4,AA,w64 (by omega) (by omega),show ((i:Int)+1)=((i+1:Nat):Int) from by omega]
   exact r2
theorem ZW (hS:∀k,S k→0≤k∧k<(A.length:Int)) {x y} {a b} (hp:Pr S A x y a b) (hne:x≠y) (hA:A.length≤8000000) (P:Nat) (hP:b.ports.length=P+1) (hb:P≤3) (u3:Int × Net) (hu3:u3.1 =(A.length:Int)+1):
  ∀ (k t m m':Nat) (L B1:List Agent),t+k=P→k<m→k<m'→Way1 S A (sh b::sh b::List.replicate P (dupS a.level)) (XL S x y A.length t) L B1→
   ∃A2 B2,(∀ (a0:Rewriter) rr,A8 m a0 y (JL (A.length+2) P) rr L (t:Int)=some ⟨⟨A2⟩,a0.book,rr⟩)∧Bs m' y b u3 B1 ((t:Int)+1)=some ⟨B2⟩∧Done S A x y (sh b::sh b::List.replicate P (dupS a.level)) A2 B2:=by
 have hyl:=C6 hp.hy
 have hxl:=C6 hp.hx
 intro k
 induction k with
 | zero=>
  intro t m m' L B1 h hm hm' hw
  obtain⟨m,rfl⟩:∃q,m=q+1:=⟨m - 1,by omega⟩
  obtain⟨m',rfl⟩:∃q,m'=q+1:=⟨m' - 1,by omega⟩
  refine⟨L,B1,fun a0 rr=>?_,?_,hw.done fun p q hq=>?_⟩
  ·rw [A8,if_neg (by rw [Mx]; simp; omega)]
  ·rw [Bs,if_neg (by simp; omega)]
  ·have hy2:p.agent=y→p.slot≤(t:Int):=fun e=>by
    have:=Bh hq (x:=sh b) (by rw [hw.shp,e]; exact B8 (Dv hp.hy))
    simp only [sh,hP] at this; omega
   have hlt:=DQ hq
   have hlen:=hw.len
   simp only [List.length_cons,List.length_replicate] at hlen
   unfold XL
   grind
 | succ k ih=>
  intro t m m' L B1 h hm hm' hw
  obtain⟨m,rfl⟩:∃q,m=q+1:=⟨m - 1,by omega⟩
  obtain⟨m',rfl⟩:∃q,m'=q+1:=⟨m' - 1,by omega⟩
  have nS:∀k:Int,(A.length:Int)≤k→¬S k:=fun k hk hs=>by have:=hS _ hs; omega
  have n2:(sh b::sh b::List.replicate P (dupS a.level))[2+t]? =some (dupS a.level):=by
   rw [show 2+t=t+1+1 from by omega,List.getElem?_cons_succ,List.getElem?_cons_succ,List.getElem?_replicate,if_pos (by omega)]
  obtain⟨v,g1⟩:=hw.old hp.hy (s:=(t:Int)+1) (by omega) (by omega)
  obtain⟨u,g2⟩:=hw.new n2 (s:=0) (by omega) (by simp [dupS])
  rw [show ((A.length+(2+t):Nat):Int)=(A.length:Int)+2+(t:Int) from by omega] at g2
  obtain⟨A2,B2,f1,f2,w⟩:=hw.move g1 g2 (fun h=>by
    unfold XL at h
    simp only at h
    rcases h with h|h|h|h
    ·exact hp.sy h
    ·exact hne h.symm
    ·omega
    ·omega) (.inr (.inr (.inr ⟨Int.le_refl _,rfl⟩))) (nS _ (by simp only; omega)) (Y:=XL S x y A.length (t+1)) (fun p q hq=>by
    unfold XL
    simp only [ne_eq,Aj]
    grind) fun p hs=>.inl hs
  obtain⟨A3,B3,r1,r2,r3⟩:=ih (t+1) m m' A2 B2 (by omega) (by omega) (by omega) w
  refine⟨A3,B3,fun a0 rr=>?_,?_,r3⟩
  ·have hix:at? (JL (A.length+2) P) (t:Int)=some ((A.length:Int)+2+(t:Int)):=by
    rw [MD (Vx P (A.length+2) t (by omega))]; congr 1
   rw [A8,if_pos (by rw [Mx]; simp; omega),hix,AA,w64 (by omega) (by omega),f1,AA,show ((t:Int)+1)=((t+1:Nat):Int) from by omega]
   exact r1 a0 rr
  ·rw [Bs,if_pos (by simp; omega),CV,AA,hu3,w64 (by omega) (by omega),CV,AA,show (A.length:Int)+1+((t:Int)+1)=(A.length:Int)+2+(t:Int) from by omega,f2,AA,w64 (by omega) (by omega),show (t:Int)+1+1=((t+1:Nat):Int)+1 from by omega]
   exact r2
theorem gM (h:Ok S (fun p=>S p.agent) A B) {x y} {a b} (hp:Pr S A x y a b) (ga:agB a=true) (gb:agB b=true) (hka:a.kind=4) (hkb:b.kind≠1) (ha:a.ports.length=3) (hb1:1≤b.ports.length) (hb:b.ports.length≤4) (hd:b.data.length≤4) (hbk:b.kind≠0) (hA:A.length≤8000000):
  ∃A2 B2 new,(∀bk r,Cv ⟨⟨A⟩,bk,r⟩ x y=some ⟨⟨A2⟩,bk,r⟩)∧FZ ⟨B⟩ x y=some ⟨B2⟩∧Done S A x y new A2 B2∧NBs new∧SV new∧new.length=b.ports.length+1:=by
 obtain⟨h0,hne⟩:=h.start hp
 have hxl:=C6 hp.hx
 have hyl:=C6 hp.hy
 have w0:Way1 S A [] (fun p=>S p.agent∨p=⟨x,0⟩∨p=⟨y,0⟩) A B:=⟨h0,by simp,.refl⟩
 obtain⟨e1,e2,w1⟩:=w0.add b.kind b.level b.value b.data b.ports.length (by unfold Big; omega) (by unfold Big; omega) (by unfold Big; omega)
 simp only [List.length_nil,Nat.add_zero,List.nil_append] at e1 e2 w1
 obtain⟨e3,e4,w2⟩:=w1.add b.kind b.level b.value b.data b.ports.length (by rw [List.length_append,List.length_singleton]; unfold Big; omega) (by unfold Big; omega) (by unfold Big; omega)
 simp only [List.length_singleton] at e3 e4 w2
 have nS:∀k:Int,(A.length:Int)≤k→¬S k:=fun k hk hs=>by have:=h.s_lt hs; omega
 have w3:Way1 S A (sh b::sh b::List.replicate (1 - 1) (dupS a.level)) (dupX S x y A.length 1) (A++[newA b.kind b.level b.value b.data b.ports.length] ++[newA b.kind b.level b.value b.data b.ports.length]) (B++[newA b.kind b.level b.value b.data b.ports.length] ++[newA b.kind b.level b.value b.data b.ports.length]):=by
  refine w2.mono (fun p q hq=>?_) fun p hs=>.inl hs
  have hlt:=DQ hq
  simp only [List.length_append,List.length_singleton] at hlt
  have hs0:0≤p.slot:=by
   obtain⟨a,h1,h2⟩:=Ay.1 hq
   exact(C6 h2).1
  unfold dupX
  simp only [Aj]
  grind
 obtain⟨P,hP⟩:∃P,b.ports.length=P+1:=⟨b.ports.length - 1,by omega⟩
 obtain⟨L1,B1,m1,m2,r1,r2,w4⟩:=ZV (fun k hk=>h.s_lt hk) hp hA hb ((A.length:Int),⟨B++[newA b.kind b.level b.value b.data b.ports.length]⟩) (((A.length+1:Nat):Int),⟨B++[newA b.kind b.level b.value b.data b.ports.length] ++[newA b.kind b.level b.value b.data b.ports.length]⟩) rfl (by simp only; omega) P 1 fuel fuel _ _ (by omega) (by omega) (by rw [Ah]; omega) (by rw [Ah]; omega) w3
 obtain⟨v1,g1⟩:=w4.old hp.hx (s:=1) (by omega) (by omega)
 obtain⟨q1,g2⟩:=w4.new (k:=0) (s:=0) rfl (by omega) (by simp only [sh]; omega)
 rw [Nat.add_zero] at g2
 obtain⟨L2,B2,f1,f2,w5⟩:=w4.move g1 g2 (fun h=>by
   unfold dupX at h
   simp only at h
   rcases h with h|h|h|h|h|h
   ·exact hp.sx h
   all_goals omega) (.inr (.inr (.inr (.inl ⟨rfl,.inl rfl⟩)))) (nS _ (by simp only; omega)) (Y:=fun p=>S p.agent∨(p.agent=x∧p.slot≤1)∨(p.agent=y∧p.slot=0)∨(p.agent=(A.length:Int)+1∧p.slot=0)∨((A.length:Int)+2≤p.agent∧p.slot=0)) (fun p q hq=>by
   have hs0:0≤p.slot:=by
    obtain⟨a,h1,h2⟩:=Ay.1 hq
    exact(C6 h2).1
   have hc1:p.agent=(A.length:Int)→p.slot<(b.ports.length:Int):=fun e=>by
    have:=Bh hq (x:=sh b) (by
     rw [w4.shp,e]
     have:=GJ (l:=A.map sh) (m:=sh b::sh b::List.replicate (b.ports.length - 1) (dupS a.level)) (k:=0) rfl
     rwa [List.length_map,Nat.add_zero] at this)
    simp only [sh] at this; omega
   have hc2:p.agent=(A.length:Int)+1→p.slot<(b.ports.length:Int):=fun e=>by
    have:=Bh hq (x:=sh b) (by
     rw [w4.shp,e]
     have:=GJ (l:=A.map sh) (m:=sh b::sh b::List.replicate (b.ports.length - 1) (dupS a.level)) (k:=1) rfl
     rwa [List.length_map] at this)
    simp only [sh] at this; omega
   unfold dupX
   simp only [ne_eq,Aj]
   grind) fun p hs=>.inl hs
 obtain⟨v2,g3⟩:=w5.old hp.hx (s:=2) (by omega) (by omega)
 obtain⟨q2,g4⟩:=w5.new (k:=1) (s:=0) rfl (by omega) (by simp only [sh]; omega)
 obtain⟨L3,B3,f3,f4,w6⟩:=w5.move g3 g4 (fun h=>by
   simp only at h
   rcases h with h|h|h|h|h
   ·exact hp.sx h
   all_goals omega) (.inr (.inr (.inr (.inl ⟨by simp only; omega,rfl⟩)))) (nS _ (by simp only; omega)) (Y:=XL S x y A.length 0) (fun p q hq=>by
   have hs0:0≤p.slot:=by
    obtain⟨a,h1,h2⟩:=Ay.1 hq
    exact(C6 h2).1
   have hx2:p.agent=x→p.slot<3:=fun e=>by
    have:=Bh hq (x:=sh a) (by rw [w5.shp,e]; exact B8 (Dv hp.hx))
    simp only [sh,ha] at this; omega
   unfold XL
   simp only [ne_eq,Aj]
   grind) fun p hs=>.inl hs
 rw [show b.ports.length - 1=P from by omega] at w6
 obtain⟨A4,B4,t1,t2,t3⟩:=ZW (fun k hk=>h.s_lt hk) hp hne hA P hP (by omega) (((A.length+1:Nat):Int),⟨B++[newA b.kind b.level b.value b.data b.ports.length] ++[newA b.kind b.level b.value b.data b.ports.length]⟩) (by simp only; omega) P 0 fuel fuel _ _ (by omega) (by rw [Ah]; omega) (by rw [Ah]; omega) w6
 refine⟨A4,B4,_,fun bk r=>?_,?_,t3,⟨fun n hn=>?_,by simp; omega⟩,fun n hn=>?_,by simp; omega⟩
 ·unfold Cv
  rw [hp.hy,AA,e1,AA,e3,AA]
  have:=r1 ⟨⟨A⟩,bk,r⟩ ((A.length:Int),⟨⟨A++[newA b.kind b.level b.value b.data b.ports.length]⟩,bk,r⟩) (((A.length+1:Nat):Int),⟨⟨A++[newA b.kind b.level b.value b.data b.ports.length] ++[newA b.kind b.level b.value b.data b.ports.length]⟩,bk,r⟩) r [] rfl (by simp only; omega) (by simp; omega)
  rw [Int.natCast_one] at this
  rw [this,Ap,if_neg (by simp),f1,AA,f3,AA,List.nil_append]
  exact t1 ⟨⟨A⟩,bk,r⟩ r
 ·unfold FZ
  rw [hp.bx h,AA,hp.bY h,AA,Jm b (by unfold Big; omega) (by unfold Big; omega),AA,e2,AA,e4,AA]
  rw [Int.natCast_one] at r2
  rw [r2,BZ,if_neg (by simp)]
  simp only [CV,AA]
  rw [f2,AA,f4,AA]
  exact t2
 ·rcases List.mem_cons.1 hn with e|e
  ·subst e; exact⟨by simp only [sh]; omega,by simp only [sh]; omega,hbk⟩
  ·rcases List.mem_cons.1 e with e|e
   ·subst e; exact⟨by simp only [sh]; omega,by simp only [sh]; omega,hbk⟩
   ·rw [(List.mem_replicate.1 e).2]; exact⟨by simp [dupS],by simp [dupS],by simp [dupS]⟩
 ·have hbb:(sh b).1 ≠1∧shB (sh b)=true:=⟨hkb,by rw [XJ]; exact gb⟩
  rcases List.mem_cons.1 hn with e|e
  ·subst e; exact hbb
  ·rcases List.mem_cons.1 e with e|e
   ·subst e; exact hbb
   ·rw [(List.mem_replicate.1 e).2]
    have lb:=Rw (m:=4) (Hn ga).1 (by omega) (by omega)
    exact⟨by simp [dupS],by simp [dupS,shB,agB,ports,Fw,lb]⟩
end
end Go.Proofs.YtckcfdggbbabfaaGreat.Ab
namespace Go.Proofs.YtckcfdggbbabfaaGreat.Ab
set_option linter.unusedVariables false
set_option linter.unusedSimpArgs false
open Go.RowKit
theorem XM {α:Type} (L:Nat→List α→Int→Option (List α)) (f:α→Option α) (l:List α) (hl:l.length≤Big) (hf:∀x ∈ l,f x=some x)
  (hL:∀n acc i,L (n+1) acc i=(if (decide (i<((List.length l:Nat):Int)))=true then (Option.bind (at? l i) fun v=>(Option.bind (f v) fun w=>(Option.bind (app? acc [w]) fun z=>(L n z (IntKind.i64.wrap (i+1)))))) else (some acc))):L fuel [] 0=some l:=by
 have loop:∀ (post pre:List α) (n:Nat),l=pre++post→post.length<n→L n pre ((List.length pre:Nat):Int)=some l:=by
  intro post
  induction post with
  |nil=>
   intro pre n h hn
   obtain⟨n,rfl⟩:∃m,n=m+1:=⟨n - 1,by omega⟩
   rw [hL,CU h,if_neg (by simp),h,List.append_nil]
  |cons x post ih=>
   intro pre n h hn
   rw [List.length_cons] at hn
   obtain⟨n,rfl⟩:∃m,n=m+1:=⟨n - 1,by omega⟩
   have hx:x ∈ l:=by rw [h]; simp
   have hlen:pre.length+ [x].length ≤Big:=by rw [h] at hl; simp at hl ⊢; omega
   rw [hL,if_pos (CG h),BO h,AA,hf x hx,AA,C2 hlen,AA,Ax h hl]
   exact ih (pre++[x]) n (Ae h) (by omega)
 exact loop l [] fuel rfl (by rw [Ah]; unfold Big at hl; omega)
theorem bt (d:List Int) (hd:d.length≤Big):FV d=some d:=by
 unfold FV
 rw [C2 (by simpa using hd)]; rfl
theorem Sb (a:Agent) (h:a.Small):i_copyAgent_z a=some a:=by
 unfold i_copyAgent_z
 rw [Ta _ h.2,AA,Tb _ h.1]; rfl
theorem Of (a:Agent) (h:a.Small):i_copyAgent a=some a:=by
 unfold i_copyAgent
 rw [bt _ h.2,AA,Tb _ h.1]; rfl
theorem Vy (n:Net) (hl:n.agents.length≤Big) (h:∀a ∈ n.agents,a.Small):Hw n=some n:=by
 unfold Hw
 rw [Rr hl,AA]
 have hc:=XM (fun n' acc i=>(Dl n' n acc i).map (·.agents)) i_copyAgent_z n.agents hl (fun a ha=>Sb a (h a ha)) fun n' acc i=>by
  rw [Dl]
  split
  ·cases at? n.agents i with
   |none=>rfl
   |some v=>simp only [Option.bind]; cases i_copyAgent_z v with
    |none=>rfl
    |some w=>simp only; cases app? acc [w] <;> rfl
  ·rfl
 simp only [Option.map_eq_some_iff] at hc
 obtain⟨a,h1,h2⟩:=hc
 rw [h1]; congr 1
 cases a; cases n; simp_all
theorem XN (n:Net) (hl:n.agents.length≤Big) (h:∀a ∈ n.agents,a.Small):KL n=some n:=by
 unfold KL
 rw [Rr hl,AA]
 have hc:=XM (fun n' acc i=>(Et n' n acc i).map (·.agents)) i_copyAgent n.agents hl (fun a ha=>Of a (h a ha)) fun n' acc i=>by
  rw [Et]
  split
  ·cases at? n.agents i with
   |none=>rfl
   |some v=>simp only [Option.bind]; cases i_copyAgent v with
    |none=>rfl
    |some w=>simp only; cases app? acc [w] <;> rfl
  ·rfl
 simp only [Option.map_eq_some_iff] at hc
 obtain⟨a,h1,h2⟩:=hc
 rw [h1]; congr 1
 cases a; cases n; simp_all
theorem bu (n:Net) (hl:n.agents.length≤Big) (h:∀a ∈ n.agents,a.Small):MB n=some n:=by
 unfold MB
 have hc:=XM (fun n' acc i=>(Fb n' n acc i).map (·.agents)) s_l11OwnAgent n.agents hl (fun a ha=>Jm a (h a ha).2 (h a ha).1) fun n' acc i=>by
  rw [Fb]
  split
  ·cases at? n.agents i with
   |none=>rfl
   |some v=>simp only [Option.bind]; cases s_l11OwnAgent v with
    |none=>rfl
    |some w=>simp only; cases app? acc [w] <;> rfl
  ·rfl
 simp only [Option.map_eq_some_iff] at hc
 obtain⟨a,h1,h2⟩:=hc
 rw [h1]; congr 1
 cases a; cases n; simp_all
theorem Vz (b:List Net) (n:Net) (hl:n.agents.length≤Big) (h:∀a ∈ n.agents,a.Small):FC b n=some ⟨n,b,[]⟩:=by
 unfold FC
 rw [Vy n hl h]; rfl
theorem V0:∀ (l:List Agent) (i:Nat),T8 i l=true→∀ (k:Nat) (a:Agent),l[k]? =some a→agB a=true∧(a.kind=1↔i+k=0)
 | [],_,_,k,a,h=>by simp at h
 |x::l,i,hb,0,a,h=>by
  rw [T8] at hb
  simp only [Bool.and_eq_true,beq_iff_eq] at hb
  simp only [List.getElem?_cons_zero,Option.some.injEq] at h
  subst h
  refine⟨hb.1.1,?_⟩
  have:=hb.1.2
  by_cases h1:x.kind=1 <;> by_cases h2:i=0 <;> simp_all
 |x::l,i,hb,k+1,a,h=>by
  rw [T8] at hb
  simp only [Bool.and_eq_true] at hb
  rw [List.getElem?_cons_succ] at h
  obtain⟨h1,h2⟩:=V0 l (i+1) hb.2 k a h
  exact⟨h1,by rw [h2]; omega⟩
theorem Rx {l} {i}:∀ (ps:List Port) (k:Nat),He l i k ps=true→∀ (j:Nat) (p:Port),ps[j]? =some p→TX l i (k+j) p=true
 | [],_,_,j,p,h=>by simp at h
 |x::ps,k,hb,0,p,h=>by
  rw [He] at hb
  simp only [Bool.and_eq_true] at hb
  simp only [List.getElem?_cons_zero,Option.some.injEq] at h
  subst h; exact hb.1
 |x::ps,k,hb,j+1,p,h=>by
  rw [He] at hb
  simp only [Bool.and_eq_true] at hb
  rw [List.getElem?_cons_succ] at h
  have:=Rx ps (k+1) hb.2 j p h
  rwa [show k+1+j=k+(j+1) from by omega] at this
theorem NF {l}:∀ (m:List Agent) (i:Nat),FG l i m=true→∀ (k:Nat) (a:Agent),m[k]? =some a→He l (i+k) 0 a.ports=true
 | [],_,_,k,a,h=>by simp at h
 |x::m,i,hb,0,a,h=>by
  rw [FG] at hb
  simp only [Bool.and_eq_true] at hb
  simp only [List.getElem?_cons_zero,Option.some.injEq] at h
  subst h; exact hb.1
 |x::m,i,hb,k+1,a,h=>by
  rw [FG] at hb
  simp only [Bool.and_eq_true] at hb
  rw [List.getElem?_cons_succ] at h
  have:=NF m (i+1) hb.2 k a h
  rwa [show i+1+k=i+(k+1) from by omega] at this
structure VnN (N:Nat) (l:List Agent):Prop where
 len:1≤l.length∧l.length≤N
 ag:∀k a,at? l k=some a→agB a=true∧(a.kind=1↔k=0)
 m:M l fun _=>False
abbrev Vn:=VnN 600
theorem Net.valid_vn {n:Net} (h:n.valid=true):Vn n.agents:=by
 unfold Net.valid agentsB at h
 simp only [Bool.and_eq_true,decide_eq_true_eq] at h
 obtain⟨⟨h1,h2⟩,h3⟩:=h
 refine⟨h1,fun k a hk=>?_,fun p q hp _=>?_⟩
 ·obtain⟨k1,k2⟩:=A9 hk
  obtain⟨g1,g2⟩:=V0 _ 0 h2 _ _ k2
  exact⟨g1,by rw [g2]; omega⟩
 ·obtain⟨a,ha,hq⟩:=Ay.1 hp
  obtain⟨k1,k2⟩:=A9 ha
  obtain⟨k3,k4⟩:=A9 hq
  have:=Rx _ 0 (NF _ 0 h3 _ _ k2) _ _ k4
  rw [Nat.zero_add,Nat.zero_add] at this
  unfold TX at this
  simp only [Bool.and_eq_true,Bool.not_eq_true',Bool.and_eq_false_iff,decide_eq_false_iff_not] at this
  obtain⟨g1,g2⟩:=this
  refine⟨not_false,fun e=>?_,?_⟩
  ·subst e
   rcases g1 with g|g
   ·omega
   ·omega
  ·unfold get
   cases hq':FM n.agents q with
   |none=>rw [hq'] at g2; cases g2
   |some r=>
    rw [hq'] at g2
    simp only [Bool.and_eq_true,decide_eq_true_eq] at g2
    congr 1
    exact B7 (by omega) (by omega)
theorem IW {a} (h:agB a=true):levB a.kind a.level=true:=by
 unfold agB at h; simp only [Bool.and_eq_true] at h; exact h.1.2
theorem Tc {a} (h:agB a=true):ports a.kind (if a.kind=9 then (a.ports.length:Int) - 1 else 0)=(a.ports.length:Int)∧0<a.ports.length:=by
 unfold agB at h; simp only [Bool.and_eq_true,decide_eq_true_eq] at h; exact⟨h.1.1.2,h.1.1.1⟩
theorem CW {a} (h:agB a=true):1≤a.ports.length∧a.ports.length≤4:=by
 obtain⟨h1,h2⟩:=Tc h
 unfold ports at h1
 repeat' split at h1
 all_goals omega
theorem MI {a} (h:agB a=true):a.data.length≤4:=by
 unfold agB at h; simp only [Bool.and_eq_true] at h
 have h:=h.2
 unfold Fw at h
 repeat' split at h
 all_goals (simp only [Bool.and_eq_true,decide_eq_true_eq] at h; omega)
theorem ZX {a} (h:agB a=true):a.Small:=⟨by have:=CW h; unfold Big; omega,by have:=MI h; unfold Big; omega⟩
theorem Ka {a} (h:agB a=true):1≤a.kind∧a.kind≤12:=by
 have:=IW h; unfold levB at this; simp only [Bool.and_eq_true,decide_eq_true_eq] at this; exact this.1
theorem Ip {a} (h:agB a=true):0≤a.level∧a.level≤8:=by
 have:=IW h; unfold levB at this; simp only [Bool.and_eq_true,decide_eq_true_eq] at this
 have:=this.2
 split at this <;> simp only [decide_eq_true_eq] at this <;> omega
theorem MJ {a} (h:agB a=true):(a.kind=1∨a.kind=5∨a.kind=6∨a.kind=12→a.ports.length=1)∧(a.kind=8∨a.kind=10∨a.kind=11→a.ports.length=2)∧(a.kind=2∨a.kind=3∨a.kind=4∨a.kind=7→a.ports.length=3):=by
 obtain⟨h1,h2⟩:=Tc h
 unfold ports at h1
 repeat' split at h1
 all_goals omega
theorem VnN.mem {N} {l} (h:VnN N l) {a} (ha:a ∈ l):agB a=true:=by
 obtain⟨i,hi,rfl⟩:=List.getElem_of_mem ha
 exact(h.ag i _ (MD (by rw [List.getElem?_eq_getElem hi]))).1
theorem VnN.small {N} {l} (h:VnN N l):∀a ∈ l,a.Small:=fun a ha=>ZX (h.mem ha)
def hiL:Int→List Agent→Int
 |m,[] =>m
 |m,a::l=>hiL (if a.level<m then m else a.level) l
theorem j5 (n:Net) (hl:n.agents.length≤Big):IR n=some (hiL 0 n.agents):=by
 have loop:∀ (post pre:List Agent) (m:Int) (k:Nat),n.agents=pre++post→post.length<k→Cb k n m ((List.length pre:Nat):Int)=some (hiL m post):=by
  intro post
  induction post with
  |nil=>
   intro pre m k h hk
   obtain⟨k,rfl⟩:∃q,k=q+1:=⟨k - 1,by omega⟩
   rw [Cb,CU h,if_neg (by simp),hiL]
  | cons x post ih=>
   intro pre m k h hk
   rw [List.length_cons] at hk
   obtain⟨k,rfl⟩:∃q,k=q+1:=⟨k - 1,by omega⟩
   rw [Cb,if_pos (CG h),BO h,AA]
   have:HD m x.level=some (if x.level<m then m else x.level):=by
    unfold HD
    by_cases e:x.level<m <;> simp [e]
   rw [this,AA,Ax h hl,hiL]
   exact ih (pre++[x]) _ k (Ae h) (by omega)
 exact loop n.agents [] 0 fuel rfl (by rw [Ah]; unfold Big at hl; omega)
theorem UI:∀ (l:List Agent) (m c:Int),(hiL m l≤c↔m≤c∧∀a ∈ l,a.level≤c)
 | [],m,c=>by simp [hiL]
 | a::l,m,c=>by
  rw [hiL,UI l]
  simp only [List.mem_cons,forall_eq_or_imp]
  constructor
  ·rintro ⟨h1,h2⟩
   split at h1 <;> exact⟨by omega,by omega,h2⟩
  ·rintro ⟨h1,h2,h3⟩
   split <;> exact⟨by omega,h3⟩
end Go.Proofs.YtckcfdggbbabfaaGreat.Ab
namespace Go.Proofs.YtckcfdggbbabfaaGreat.Ab
set_option linter.unusedVariables false
set_option linter.unusedSimpArgs false
open Go.RowKit
theorem MK {α:Type} {pre post:List α} {x y:α}:CF (pre++x::post) ((List.length pre:Nat):Int) y=some (pre++y::post):=by
 unfold CF Vi
 simp
theorem F4 {α:Type} {pre post:List α} {x:α}:at? (pre++x::post) ((List.length pre:Nat):Int)=some x:=BO rfl
def lvA (lv:Int) (a:Agent):Agent:=if hasL a.kind=true then ⟨a.kind,a.level+lv,a.value,a.data,a.ports⟩ else a
def okL (lv:Int) (l:List Agent):Bool:=l.all fun a=> !hasL a.kind||decide (a.level+lv≤8)
theorem Ry (T:Net) (lv:Int) (hT:Vn T.agents) (hlv:0≤lv∧lv≤8):Ii T lv=some (if okL lv T.agents=true then (⟨T.agents.map (lvA lv)⟩,true) else (⟨[]⟩,false)):=by
 have hl:T.agents.length≤Big:=by have:=hT.len; unfold Big; omega
 unfold Ii
 rw [XN T hl hT.small,AA]
 have loop:∀ (post pre:List Agent) (k:Nat),T.agents=pre++post→post.length<k→DL k lv T (pre.map (lvA lv)++post) ((List.length pre:Nat):Int)=some (if okL lv post=true then (⟨(pre++post).map (lvA lv)⟩,true) else (⟨[]⟩,false)):=by
  intro post
  induction post with
  |nil=>
   intro pre k h hk
   obtain⟨k,rfl⟩:∃q,k=q+1:=⟨k - 1,by omega⟩
   rw [DL,CU h,if_neg (by simp)]
   simp [okL]
  | cons x post ih=>
   intro pre k h hk
   rw [List.length_cons] at hk
   obtain⟨k,rfl⟩:∃q,k=q+1:=⟨k - 1,by omega⟩
   have hx:=Ip (hT.mem (a:=x) (by rw [h]; simp))
   have e1:((List.length pre:Nat):Int)=((List.length (pre.map (lvA lv)):Nat):Int):=by rw [List.length_map]
   have ih':=ih (pre++[x]) k (Ae h) (by omega)
   rw [List.map_append,List.map_singleton,List.append_assoc,List.singleton_append,List.append_assoc,List.singleton_append] at ih'
   rw [DL,if_pos (CG h),e1,F4,AA,YJ,AA]
   by_cases hk':hasL x.kind=true
   ·rw [hk',if_neg (by simp),MK,AA,F4,AA,w64 (by omega) (by omega)]
    have e2:lvA lv x=⟨x.kind,x.level+lv,x.value,x.data,x.ports⟩:=by unfold lvA; rw [if_pos hk']
    by_cases h8:8<x.level+lv
    ·rw [if_pos (by simpa using h8)]
     simp only [okL,List.all_cons,hk',Bool.not_true,Bool.false_or,show decide (x.level+lv≤8)=false from by simp; omega,Bool.false_and,Bool.false_eq_true,if_false]
    ·rw [if_neg (by simpa using h8),← e1,Ax h hl,← e2,ih']
     simp only [okL,List.all_cons,hk',Bool.not_true,Bool.false_or,show decide (x.level+lv≤8)=true from by simp; omega,Bool.true_and]
     rfl
   ·have hk2:hasL x.kind=false:=by simpa using hk'
    have e2:lvA lv x=x:=by unfold lvA; rw [if_neg hk']
    rw [hk2,if_pos (by simp),← e1,Ax h hl]
    rw [e2] at ih'
    rw [ih']
    simp only [okL,List.all_cons,hk2,Bool.not_false,Bool.true_or,Bool.true_and]
    rfl
 have:=loop T.agents [] fuel rfl (by rw [Ah]; unfold Big at hl; omega)
 simpa using this
theorem gN {l} {lv} (hl:∀a ∈ l,agB a=true) (hlv:0≤lv∧lv≤8):okL lv l=decide (hiL 0 l+lv≤8):=by
 have:(okL lv l=true)↔hiL 0 l+lv≤8:=by
  rw [show (hiL 0 l+lv≤8)↔(hiL 0 l≤8 - lv) from by omega,UI]
  unfold okL
  rw [List.all_eq_true]
  constructor
  ·intro h
   refine⟨by omega,fun a ha=>?_⟩
   have h1:=h a ha
   have h2:=hl a ha
   have h3:=IW h2
   by_cases hk:hasL a.kind=true
   ·rw [hk] at h1; simp only [Bool.not_true,Bool.false_or,decide_eq_true_eq] at h1; omega
   ·have hk:=Ka h2
    unfold levB at h3
    unfold hasL at*
    by_cases h4:a.kind=1∨a.kind=5∨a.kind=6
    ·rw [if_pos h4] at h3; simp only [Bool.and_eq_true,decide_eq_true_eq] at h3; omega
    ·exfalso
     simp only [not_or] at h4
     simp_all
  ·rintro ⟨-,h⟩ a ha
   have:=h a ha
   simp only [Bool.or_eq_true,decide_eq_true_eq]
   exact .inr (by omega)
 by_cases h:okL lv l=true
 ·rw [h,decide_eq_true (this.1 h)]
 ·have h':okL lv l=false:=by simpa using h
  rw [h',decide_eq_false fun e=>h (this.2 e)]
def sp (off:Int) (p:Port):Port:=⟨p.agent+off,p.slot⟩
def expA (off lv:Int) (a:Agent):Agent:=⟨a.kind,(lvA lv a).level,a.value,a.data,a.ports.map (sp off)⟩
def Pin (a:Agent):Prop:=∀q ∈ a.ports,0≤q.agent∧q.agent<600
theorem Vn.pin {l} (h:Vn l):∀a ∈ l,Pin a:=fun a ha q hq=>by
 obtain⟨i,hi,rfl⟩:=List.getElem_of_mem ha
 obtain⟨j,hj,rfl⟩:=List.getElem_of_mem hq
 obtain⟨-,-,h3⟩:=h.m ⟨(i:Int),(j:Int)⟩ _ (Ay.2 ⟨l[i],MD (by rw [List.getElem?_eq_getElem hi]),MD (by rw [List.getElem?_eq_getElem hj])⟩) not_false
 have:=DQ h3
 have:=h.len
 omega
theorem V1 (T Bn:Net) (y i lvl:Int) (a x:Agent) (acc:List Agent) (hB:Bn.agents.length≤8000000) (hB1:1≤Bn.agents.length):∀ (post pre:List Port) (n:Nat),(∀q ∈ post,0≤q.agent∧q.agent<600)→pre.length+post.length≤Big→
  Cc (post.length+1+n) T Bn y acc i lvl a x (pre.map (sp ((Bn.agents.length:Int) - 1))++post) ((List.length pre:Nat):Int)=Option.bind (app? acc [⟨x.kind,lvl,x.value,x.data,(pre++post).map (sp ((Bn.agents.length:Int) - 1))⟩]) fun v=>BM n T Bn y a v (IntKind.i64.wrap (i+1)):=by
 intro post
 induction post with
 |nil=>
  intro pre n hq hb
  rw [show ([] :List Port).length +1+n=n+1 from by simp; omega,Cc,if_neg (by simp),List.append_nil,List.append_nil]
 |cons q post ih=>
  intro pre n hq hb
  rw [List.length_cons] at hb
  have e1:((List.length pre:Nat):Int)=((List.length (pre.map (sp ((Bn.agents.length:Int) - 1))):Nat):Int):=by rw [List.length_map]
  have hq0:=hq q List.mem_cons_self
  rw [show (q::post).length +1+n=(post.length+1+n)+1 from by simp; omega,Cc,if_pos (by simp; omega),e1,F4,AA,AA,MK,AA,← e1,w64 (n:=(Bn.agents.length:Int) - 1) (by omega) (by omega),w64 (by omega) (by omega),w64 (by unfold Big at hb; omega) (by unfold Big at hb; omega)]
  have:=ih (pre++[q]) n (fun r hr=>hq r (List.mem_cons_of_mem _ hr)) (by simp; omega)
  rw [List.map_append,List.map_singleton,List.append_assoc,List.singleton_append,List.append_assoc,List.singleton_append,List.length_append,List.length_singleton] at this
  rw [show ((List.length pre:Nat):Int)+1=((List.length pre+1:Nat):Int) from by omega]
  exact this
theorem V2 (a0:Rewriter) (y i:Int) (v3:Port) (v4:List Agent) (hs:List HAgent) (x:Agent) (acc:List Agent) (hB:a0.net.agents.length≤8000000) (hB1:1≤a0.net.agents.length):∀ (post pre:List Port) (n:Nat),x.ports=pre++post→(∀q ∈ post,0≤q.agent∧q.agent<600)→pre.length+post.length≤Big→
  BJ (post.length+1+n) a0 y acc hs i v3 v4 x (pre.map (sp ((a0.net.agents.length:Int) - 1))++post) ((List.length pre:Nat):Int)=Option.bind (app? acc [⟨x.kind,x.level,x.value,x.data,(pre++post).map (sp ((a0.net.agents.length:Int) - 1))⟩]) fun v=>Aq n a0 y v3 v4 v (List.set hs (Int.toNat i) (HAgent.gone x)) (IntKind.i64.wrap (i+1)):=by
 intro post
 induction post with
 |nil=>
  intro pre n hx hq hb
  rw [show ([] :List Port).length +1+n=n+1 from by simp; omega,BJ,if_neg (by rw [hx]; simp),List.append_nil,List.append_nil]
 |cons q post ih=>
  intro pre n hx hq hb
  rw [List.length_cons] at hb
  have e1:((List.length pre:Nat):Int)=((List.length (pre.map (sp ((a0.net.agents.length:Int) - 1))):Nat):Int):=by rw [List.length_map]
  have hq0:=hq q List.mem_cons_self
  rw [show (q::post).length +1+n=(post.length+1+n)+1 from by simp; omega,BJ,if_pos (by rw [hx]; simp; omega),e1,F4,AA,AA,MK,AA,← e1,w64 (n:=(a0.net.agents.length:Int) - 1) (by omega) (by omega),w64 (by omega) (by omega),w64 (by unfold Big at hb; omega) (by unfold Big at hb; omega)]
  have:=ih (pre++[q]) n (by rw [hx]; simp) (fun r hr=>hq r (List.mem_cons_of_mem _ hr)) (by simp; omega)
  rw [List.map_append,List.map_singleton,List.append_assoc,List.singleton_append,List.append_assoc,List.singleton_append,List.length_append,List.length_singleton] at this
  rw [show ((List.length pre:Nat):Int)+1=((List.length pre+1:Nat):Int) from by omega]
  exact this
theorem ZY (T Bn:Net) (y:Int) (a r:Agent) (v:Port) (hB:Bn.agents.length≤8000000) (hB1:1≤Bn.agents.length) (hT:∀x ∈ T.agents,agB x=true∧Pin x) (hl:T.agents.length≤600) (hr:at? T.agents 0=some r) (hv:at? r.ports 0=some v) (hva:0≤v.agent∧v.agent<600) (ha:0≤a.level∧a.level≤8):∀ (post pre acc:List Agent) (n:Nat),T.agents=pre++post→acc.length+post.length≤Big→10*post.length<n→
  BM n T Bn y a acc ((List.length pre:Nat):Int)=s_l11Link ⟨acc++post.map (expA ((Bn.agents.length:Int) - 1) a.level)⟩ (sp ((Bn.agents.length:Int) - 1) v) ⟨y,0⟩:=by
 intro post
 induction post with
 |nil=>
  intro pre acc n h hb hn
  obtain⟨n,rfl⟩:∃q,n=q+1:=⟨n - 1,by omega⟩
  rw [BM,CU h,if_neg (by simp),hr,AA,hv,AA,CV,AA,CV,AA,w64 (n:=(Bn.agents.length:Int) - 1) (by omega) (by omega),w64 (by omega) (by omega),List.map_nil,List.append_nil]
  unfold sp
  rw [show (Bn.agents.length:Int) - 1+v.agent=v.agent+((Bn.agents.length:Int) - 1) from by omega]
  cases s_l11Link ⟨acc⟩ ⟨v.agent+((Bn.agents.length:Int) - 1),v.slot⟩ ⟨y,0⟩ <;> rfl
 | cons x post ih=>
  intro pre acc n h hb hn
  rw [List.length_cons] at hb hn
  obtain⟨h1,h2⟩:=hT x (by rw [h]; simp)
  have hp4:=CW h1
  have hd:=MI h1
  have hxl:=Ip h1
  have hlB:T.agents.length≤Big:=by unfold Big; omega
  obtain⟨n,rfl⟩:∃q,n=(x.ports.length+1+q)+1+1:=⟨n - x.ports.length - 3,by omega⟩
  have key:∀lvl,DC ((x.ports.length+1+n)+1) T Bn y acc ((List.length pre:Nat):Int) a x lvl=Option.bind (app? acc [⟨x.kind,lvl,x.value,x.data,x.ports.map (sp ((Bn.agents.length:Int) - 1))⟩]) fun v=>BM n T Bn y a v (IntKind.i64.wrap (((List.length pre:Nat):Int)+1)):=fun lvl=>by
   rw [DC]
   have:=V1 T Bn y ((List.length pre:Nat):Int) lvl a x acc hB hB1 x.ports [] n h2 (by simp; unfold Big; omega)
   simp only [List.map_nil,List.nil_append,List.length_nil,Int.natCast_zero] at this
   exact this
  have fin:(Option.bind (app? acc [expA ((Bn.agents.length:Int) - 1) a.level x]) fun v=>BM n T Bn y a v (IntKind.i64.wrap (((List.length pre:Nat):Int)+1)))=s_l11Link ⟨acc++(x::post).map (expA ((Bn.agents.length:Int) - 1) a.level)⟩ (sp ((Bn.agents.length:Int) - 1) v) ⟨y,0⟩:=by
   rw [C2 (by simp; omega),AA,Ax h hlB,ih (pre++[x]) (acc++[expA ((Bn.agents.length:Int) - 1) a.level x]) n (Ae h) (by simp; omega) (by omega),List.map_cons,List.append_assoc,List.singleton_append]
  rw [BM,if_pos (CG h),BO h,AA,Jm x (by unfold Big; omega) (by unfold Big; omega),AA,YK,AA]
  by_cases hk:hasL x.kind=true
  ·rw [if_pos hk,w64 (by omega) (by omega),key]
   have:expA ((Bn.agents.length:Int) - 1) a.level x=⟨x.kind,x.level+a.level,x.value,x.data,x.ports.map (sp ((Bn.agents.length:Int) - 1))⟩:=by
    unfold expA lvA; rw [if_pos hk]
   rw [← this]; exact fin
  ·rw [if_neg hk,key]
   have:expA ((Bn.agents.length:Int) - 1) a.level x=⟨x.kind,x.level,x.value,x.data,x.ports.map (sp ((Bn.agents.length:Int) - 1))⟩:=by
    unfold expA lvA; rw [if_neg hk]
   rw [← this]; exact fin
theorem Td (lv:Int) (x:Agent):(lvA lv x).ports =x.ports∧(lvA lv x).kind =x.kind∧(lvA lv x).value =x.value∧(lvA lv x).data =x.data:=by
 unfold lvA; split <;> exact⟨rfl,rfl,rfl,rfl⟩
theorem ZZ (a0:Rewriter) (y:Int) (v:Port) (lv:Int) (tl:List Agent) (hB:a0.net.agents.length≤8000000) (hB1:1≤a0.net.agents.length) (hT:∀x ∈ tl,agB x=true∧Pin x) (hl:tl.length≤600) (hva:0≤v.agent∧v.agent<600):∀ (post pre acc:List Agent) (n:Nat),tl=pre++post→acc.length+post.length≤Big→10*post.length<n→
  Aq n a0 y v (tl.map (lvA lv)) acc ((pre.map (lvA lv)).map HAgent.gone++(post.map (lvA lv)).map HAgent.full) ((List.length pre:Nat):Int)=Option.bind (CO ⟨acc++post.map (expA ((a0.net.agents.length:Int) - 1) lv)⟩ ⟨y,0⟩ (sp ((a0.net.agents.length:Int) - 1) v)) fun z=>some ⟨z,a0.book,a0.removed⟩:=by
 intro post
 induction post with
 |nil=>
  intro pre acc n h hb hn
  obtain⟨n,rfl⟩:∃q,n=q+1:=⟨n - 1,by omega⟩
  rw [Aq,if_neg (by rw [h]; simp),w64 (n:=(a0.net.agents.length:Int) - 1) (by omega) (by omega),w64 (by omega) (by omega),List.map_nil,List.append_nil]
  rfl
 | cons x post ih=>
  intro pre acc n h hb hn
  rw [List.length_cons] at hb hn
  obtain⟨h1,h2⟩:=hT x (by rw [h]; simp)
  have hp4:=CW h1
  obtain⟨q1,q2,q3,q4⟩:=Td lv x
  obtain⟨n,rfl⟩:∃q,n=(x.ports.length+1+q)+1:=⟨n - x.ports.length - 2,by omega⟩
  have e1:((List.length pre:Nat):Int)=((List.length ((pre.map (lvA lv)).map HAgent.gone):Nat):Int):=by simp
  have hlen:pre.length<tl.length:=by rw [h]; simp
  rw [Aq,if_pos (by rw [h]; simp; omega),List.map_cons,List.map_cons,e1,F4,AA]
  have hf:HAgent.full? (HAgent.full (lvA lv x))=some (lvA lv x):=rfl
  rw [hf,AA,← e1]
  have:=V2 a0 y ((List.length pre:Nat):Int) v (tl.map (lvA lv)) (((pre.map (lvA lv)).map HAgent.gone)++HAgent.full (lvA lv x)::(post.map (lvA lv)).map HAgent.full) (lvA lv x) acc hB hB1 x.ports [] n (by rw [q1]; rfl) h2 (by simp; unfold Big; omega)
  simp only [List.map_nil,List.nil_append,List.length_nil,Int.natCast_zero] at this
  rw [q1,this,C2 (by simp; omega),AA,w64 (by omega) (by omega)]
  have e2:(((pre.map (lvA lv)).map HAgent.gone)++HAgent.full (lvA lv x)::(post.map (lvA lv)).map HAgent.full).set (Int.toNat ((List.length pre:Nat):Int)) (HAgent.gone (lvA lv x))=((pre++[x]).map (lvA lv)).map HAgent.gone++(post.map (lvA lv)).map HAgent.full:=by
   rw [Int.toNat_natCast,List.set_append_right _ _ (by simp)]
   simp
  have e3:(⟨(lvA lv x).kind,(lvA lv x).level,(lvA lv x).value,(lvA lv x).data,x.ports.map (sp ((a0.net.agents.length:Int) - 1))⟩:Agent)=expA ((a0.net.agents.length:Int) - 1) lv x:=by
   unfold expA; rw [q2,q3,q4]
  rw [e2,e3,show ((List.length pre:Nat):Int)+1=((List.length (pre++[x]):Nat):Int) from by simp,ih (pre++[x]) (acc++[expA ((a0.net.agents.length:Int) - 1) lv x]) n (Ae h) (by simp; omega) (by omega),List.map_cons,List.append_assoc,List.singleton_append]
end Go.Proofs.YtckcfdggbbabfaaGreat.Ab
namespace Go.Proofs.YtckcfdggbbabfaaGreat.Ab
set_option linter.unusedVariables false
set_option linter.unusedSimpArgs false
open Go.RowKit
theorem My {α:Type} {l m:List α} {k:Int}:at? (l++m) k=if k<(l.length:Int) then at? l k else at? m (k - l.length):=by
 unfold at?
 by_cases hk:0≤k
 ·rw [if_pos hk,if_pos hk]
  by_cases h:k<(l.length:Int)
  ·rw [if_pos h,List.getElem?_append_left (by omega)]
  ·rw [if_neg h,if_pos (by omega),List.getElem?_append_right (by omega)]
   congr 1
   omega
 ·rw [if_neg hk,if_neg hk,if_pos (by omega)]
theorem Rz {α β:Type} {f:α→β} {l:List α} {k:Int}:at? (l.map f) k=(at? l k).map f:=by
 unfold at?
 split
 ·rw [List.getElem?_map]
 ·rfl
theorem d8 {α:Type} {l:List α} {k:Int}:at? (l.drop 1) k=if 0≤k then at? l (k+1) else none:=by
 unfold at?
 by_cases hk:0≤k
 ·rw [if_pos hk,if_pos hk,if_pos (by omega),List.getElem?_drop]
  congr 1
  omega
 ·rw [if_neg hk,if_neg hk]
theorem Hh {l m:List Agent} {p:Port}:Ab.get (l++m) p=if p.agent<(l.length:Int) then Ab.get l p else Ab.get m ⟨p.agent - l.length,p.slot⟩:=by
 unfold Ab.get FM
 rw [My]
 split <;> rfl
theorem UJ {T:List Agent} {off lv:Int} {k s:Int}:Ab.get ((T.drop 1).map (expA off lv)) ⟨k,s⟩=if 0≤k then (Ab.get T ⟨k+1,s⟩).map (sp off) else none:=by
 unfold Ab.get FM
 simp only
 rw [Rz,d8]
 split
 ·cases at? T (k+1) with
  |none=>rfl
  |some a=>
   simp only [Option.map_some,Option.bind_some,expA]
   exact Rz
 ·rfl
theorem d9 (off lv:Int) (a:Agent):sh (expA off lv a)=(a.kind,(lvA lv a).level,a.value,a.data,a.ports.length):=by
 unfold sh expA; simp
section
variable {S:Int→Prop} {X:Port→Prop} {A B:List Agent}
theorem j6 {X:Port→Prop} (hm:M A X) {T:List Agent} (hT:Vn T) {v r:Port} (hv:Ab.get T ⟨0,0⟩=some v) (lv:Int) (hA:1≤A.length) (hX:∀p,X p→p.agent<(A.length:Int)):
  M (A++(T.drop 1).map (expA ((A.length:Int) - 1) lv)) fun p=>X p∨p=sp ((A.length:Int) - 1) v:=by
 have hr1:∀s q,Ab.get T ⟨0,s⟩=some q→s=0:=fun s q h=>by
  obtain⟨a,h1,h2⟩:=Ay.1 h
  obtain⟨g1,g2⟩:=hT.ag _ _ h1
  have:=(MJ g1).1 (.inl (g2.2 rfl))
  have:=C6 h2
  simp only at this; omega
 have hv0:v.agent≠0:=fun e=>by
  obtain⟨-,h2,h3⟩:=hT.m _ _ hv not_false
  have e2:v=⟨0,v.slot⟩:=B7 e rfl
  have:=hr1 v.slot ⟨0,0⟩ (by rw [← e2]; exact h3)
  exact h2 (B7 e this)
 have hv1:1≤v.agent:=by
  obtain⟨-,-,h3⟩:=hT.m _ _ hv not_false
  have:=DQ h3; omega
 intro p q hp hx
 rw [Hh] at hp
 by_cases hlt:p.agent<(A.length:Int)
 ·rw [if_pos hlt] at hp
  obtain⟨h1,h2,h3⟩:=hm p q hp fun h=>hx (.inl h)
  have hq:=DQ h3
  refine⟨?_,h2,by rw [Hh,if_pos hq.2]; exact h3⟩
  rintro (h|h)
  ·exact h1 h
  ·have:=congrArg Port.agent h
   simp only [sp] at this; omega
 ·rw [if_neg hlt,UJ,if_pos (by omega)] at hp
  simp only [Option.map_eq_some_iff] at hp
  obtain⟨q',hq',rfl⟩:=hp
  obtain⟨-,h2,h3⟩:=hT.m _ _ hq' not_false
  have hql:=DQ h3
  have hq0:q'.agent≠0:=fun e=>by
   have e2:q'=⟨0,q'.slot⟩:=B7 e rfl
   have hs:=hr1 q'.slot _ (by rw [← e2]; exact h3)
   have e3:q'=⟨0,0⟩:=B7 e hs
   rw [e3,hv] at h3
   cases h3
   exact hx (.inr (B7 (by simp only [sp]; omega) rfl))
  refine⟨?_,fun e=>?_,?_⟩
  ·rintro (h|h)
   ·have:=hX _ h
    simp only [sp] at this; omega
   ·have e1:=congrArg Port.agent h
    have e2:=congrArg Port.slot h
    simp only [sp] at e1 e2
    have e3:q'=v:=B7 (by omega) e2
    obtain⟨-,-,h4⟩:=hT.m _ _ hv not_false
    rw [e3,h4] at h3
    simp only [Option.some.injEq] at h3
    have:=congrArg Port.agent h3
    simp only at this; omega
  ·have e1:=congrArg Port.agent e
   have e2:=congrArg Port.slot e
   simp only [sp] at e1 e2
   exact h2 (B7 (by simp only; omega) e2)
  ·have hge:¬ (sp ((A.length:Int) - 1) q').agent <(A.length:Int):=by simp only [sp]; omega
   rw [Hh,if_neg hge,UJ,if_pos (by simp only [sp]; omega)]
   simp only [sp]
   rw [show (q'.agent+((A.length:Int) - 1) - (A.length:Int)+1)=q'.agent from by omega]
   have:(⟨q'.agent,q'.slot⟩:Port)=q':=rfl
   rw [this,h3]
   simp only [Option.map_some,sp]
   congr 1
   exact B7 (by simp only; omega) rfl
theorem Ok.append (h:Ok S X A B) {E:List Agent} {Y:Port→Prop} (hm:M (A++E) Y) (hs:∀p,S p.agent→Y p):Ok S Y (A++E) (B++E):=by
 refine⟨by rw [List.length_append,List.length_append,h.len],fun k hk=>?_,fun k hk=>?_,hm,hs⟩
 ·rw [My,My,h.len,h.ag k hk]
 ·have:=h.s_lt hk
  rw [My,if_pos (by rw [← h.len]; omega)]; exact h.hl k hk
theorem Za (h:Ok S (fun p=>S p.agent) A B) {x y:Int} {a b:Agent} (hp:Pr S A x y a b) (ha:a.ports.length=1) {T:Net} (hT:Vn T.agents) (hlv:0≤a.level∧a.level≤8) (hok:okL a.level T.agents=true) (hA:A.length≤8000000):
  ∃A2 B2 new,(∀bk r,at? bk a.value=some T→D8 ⟨⟨A⟩,bk,r⟩ x y=some ⟨⟨A2⟩,bk,r⟩)∧H3 T ⟨B⟩ x y=some ⟨B2⟩∧Ok S (fun p=>S p.agent∨p.agent=x) A2 B2∧A2.map sh=A.map sh++new∧((∀n ∈ new,NB n)∧SV new)∧(new.length+1=T.agents.length∧1≤new.length)∧Fr A A2 (fun p=>S p.agent∨p.agent=x):=by
 obtain⟨h0,hne⟩:=h.start hp
 have hxl:=C6 hp.hx
 have hyl:=C6 hp.hy
 have hA1:1≤A.length:=by omega
 have hTl:=hT.len
 obtain⟨rt,hrt,-⟩:=Ef (l:=T.agents) (i:=0) (by omega)
 have hr1:=(MJ (hT.ag _ _ hrt).1).1 (.inl ((hT.ag _ _ hrt).2.2 rfl))
 obtain⟨v,hv,-⟩:=Ef (l:=rt.ports) (i:=0) (by omega)
 have hg:Ab.get T.agents ⟨0,0⟩=some v:=Ay.2 ⟨rt,hrt,hv⟩
 obtain⟨-,-,hv3⟩:=hT.m _ _ hg not_false
 have hvl:=DQ hv3
 have hM:=j6 (r:=v) h0.m hT hg a.level hA1 (fun p hp'=>by
  rcases hp' with hs|hs|hs
  ·exact(h.s_lt hs).2
  ·rw [Aj] at hs; omega
  ·rw [Aj] at hs; omega)
 have hO:=h0.append hM fun p hs=>.inl (.inl hs)
 have hv1:1≤v.agent:=by
  have hq:=hT.m _ _ hg not_false
  by_cases e:v.agent=0
  ·exfalso
   have e2:v=⟨0,v.slot⟩:=B7 e rfl
   obtain⟨a',h1,h2⟩:=Ay.1 hv3
   rw [e] at h1
   rw [hrt] at h1; cases h1
   have:=C6 h2
   exact hq.2.1 (B7 e (by simp only; omega))
  ·omega
 have g1:Ab.get (A++(T.agents.drop 1).map (expA ((A.length:Int) - 1) a.level)) ⟨y,0⟩=some ⟨x,0⟩:=by
  rw [Hh,if_pos hyl.2]
  exact(h.m _ _ hp.w hp.sx).2.2
 have g2:Ab.get (A++(T.agents.drop 1).map (expA ((A.length:Int) - 1) a.level)) (sp ((A.length:Int) - 1) v)=some (sp ((A.length:Int) - 1) ⟨0,0⟩):=by
  rw [Hh,if_neg (by simp only [sp]; omega),UJ,if_pos (by simp only [sp]; omega)]
  simp only [sp]
  rw [show (v.agent+((A.length:Int) - 1) - (A.length:Int)+1)=v.agent from by omega]
  have:(⟨v.agent,v.slot⟩:Port)=v:=rfl
  rw [this,hv3]; rfl
 have ngt:¬S (sp ((A.length:Int) - 1) v).agent :=fun hs=>by have:=h.s_lt hs; simp only [sp] at this; omega
 obtain⟨e1,e2,e3,e4,hO2⟩:=hO.link g1 g2 (fun e=>by have:=congrArg Port.agent e; simp only [sp] at this; omega) (.inl (.inr (.inr rfl))) (.inr rfl) hp.sy ngt
 refine⟨_,_,(T.agents.drop 1).map fun t=>(t.kind,(lvA a.level t).level,t.value,t.data,t.ports.length),fun bk r hbk=>?_,?_,hO2.mono' (fun p q hq=>?_) fun p hs=>.inl hs,?_,⟨fun n hn=>?_,fun n hn=>?_⟩,⟨by simp; omega,by simp; omega⟩,fun p q h1 h2 n1 n2=>?_⟩
 ·unfold D8
  rw [hp.hx,AA,hbk,AA,AA,Ry T a.level hT hlv,if_pos hok,AA]
  have hpe:DB ⟨T.agents.map (lvA a.level)⟩ ⟨0,0⟩=some v:=by
   rw [Od]
   apply LA
   refine Ay.2 ⟨lvA a.level rt,?_,?_⟩
   ·rw [Rz,hrt]; rfl
   ·rw [(Td _ _).1]; exact hv
  have hcut:cutL (T.agents.map (lvA a.level)) 1 ((List.length (T.agents.map (lvA a.level)):Nat):Int)=some ((T.agents.drop 1).map (lvA a.level)):=by
   unfold cutL
   rw [if_pos (by rw [List.length_map]; omega),← List.map_drop,List.take_of_length_le]
   ·rfl
   ·rw [List.length_map,List.length_drop,List.length_map]; omega
  simp only
  rw [hpe,AA,hcut,AA]
  have:=ZZ ⟨⟨A⟩,bk,r⟩ y v a.level (T.agents.drop 1) hA hA1 (fun t ht=>⟨hT.mem (List.mem_of_mem_drop ht),hT.pin t (List.mem_of_mem_drop ht)⟩) (by simp; omega) (by omega) (T.agents.drop 1) [] A fuel rfl (by simp; unfold Big; omega) (by rw [Ah]; simp; omega)
  simp only [List.map_nil,List.nil_append,List.length_nil,Int.natCast_zero] at this
  rw [this,e1,AA]
 ·unfold H3
  rw [hp.bx h,AA]
  obtain⟨t0,tl,htl⟩:∃t0 tl,T.agents=t0::tl:=by
   cases hh:T.agents with
   |nil=>rw [hh] at hTl; simp at hTl
   |cons t0 tl=>exact⟨t0,tl,rfl⟩
  have hd:T.agents.drop 1=tl:=by rw [htl]; rfl
  have:=ZY T ⟨B⟩ y a rt v (by simp only; rw [← h.len]; exact hA) (by simp only; rw [← h.len]; exact hA1) (fun t ht=>⟨hT.mem ht,hT.pin t ht⟩) hTl.2 hrt hv (by omega) hlv tl [t0] B fuel htl (by rw [← h.len]; rw [htl] at hTl; simp at hTl; unfold Big; omega) (by rw [Ah]; rw [htl] at hTl; simp at hTl; omega)
  simp only [List.length_singleton,Int.natCast_one] at this
  rw [this,← hd,← h.len]
  exact e4
 ·have hx2:p.agent=x→p.slot=0:=fun e=>by
   have:=Bh hq (x:=sh a) (by rw [Vs,List.map_append,e]; exact B8 (Dv hp.hx))
   simp only [sh,ha] at this; omega
  have hr:p=sp ((A.length:Int) - 1) v→(A.length:Int)≤p.agent:=fun e=>by rw [e]; simp only [sp]; omega
  constructor
  ·rintro ⟨((h1|h1|h1)|h1),h2,h3⟩
   ·exact .inl h1
   ·exact .inr (by rw [h1])
   ·exact absurd h1 h2
   ·exact absurd h1 h3
  ·rintro (h1|h1)
   ·refine⟨.inl (.inl h1),fun e=>hp.sy (by rw [e] at h1; exact h1),fun e=>?_⟩
    have:=h.s_lt h1
    have:=hr e; omega
   ·refine⟨.inl (.inr (.inl (B7 h1 (hx2 h1)))),fun e=>hne ?_,fun e=>?_⟩
    ·rw [← h1,e]
    ·have:=hr e; omega
 ·rw [Vs,List.map_append,List.map_map]
  congr 1
  exact List.map_congr_left fun t _=>d9 _ _ _
 ·obtain⟨t,ht,rfl⟩:=List.mem_map.1 hn
  have g:=hT.mem (List.mem_of_mem_drop ht)
  exact⟨MI g,(CW g).2,by have:=Ka g; simp only; omega⟩
 ·obtain⟨t,ht,rfl⟩:=List.mem_map.1 hn
  have hm:=List.mem_of_mem_drop ht
  have g:=hT.mem hm
  have hk1:t.kind≠1:=by
   obtain⟨i,hi,e⟩:=List.getElem_of_mem ht
   rw [List.getElem_drop] at e
   rw [List.length_drop] at hi
   have:=(hT.ag ((1+i:Nat):Int) t (MD (by rw [List.getElem?_eq_getElem (by omega),e]))).2
   intro h1
   have:=this.1 h1
   omega
  refine⟨hk1,?_⟩
  have hs:(t.kind,(lvA a.level t).level,t.value,t.data,t.ports.length)=sh (lvA a.level t):=by
   unfold lvA sh; split <;> rfl
  rw [hs,XJ]
  obtain⟨g1,g2,g3,g4⟩:=Hn g
  have ho:=List.all_eq_true.1 hok t hm
  unfold lvA
  split
  ·rename_i hh
   have ho':t.level+a.level≤8:=by simpa [hh] using ho
   have hl:levB t.kind (t.level+a.level)=true:=by
    unfold hasL at hh
    unfold levB at g1 ⊢
    simp only [Bool.and_eq_true,Bool.not_eq_true',Bool.or_eq_false_iff,decide_eq_true_eq,decide_eq_false_iff_not] at hh g1 ⊢
    rw [if_neg (by omega)] at g1 ⊢
    simp only [decide_eq_true_eq] at g1 ⊢
    omega
   unfold agB
   simp only [Bool.and_eq_true,decide_eq_true_eq]
   exact⟨⟨⟨g3,g4⟩,hl⟩,by unfold Fw at g2 ⊢; exact g2⟩
  ·exact g
 ·have l1:=DQ h1
  have py:p≠⟨y,0⟩:=fun e=>n2 (.inr (by
   have g3:=(h.m _ _ hp.w hp.sx).2.2
   rw [e,g3] at h1
   rw [← Option.some.inj h1]))
  have pr:p≠sp ((A.length:Int) - 1) v:=fun e=>by
   have:=congrArg Port.agent e
   simp only [sp] at this; omega
  rw [Jl g1 g2 py pr,Hh,if_pos l1.2]
  exact h1
end
end Go.Proofs.YtckcfdggbbabfaaGreat.Ab
namespace Go.Proofs.YtckcfdggbbabfaaGreat.Ab
set_option linter.unusedVariables false
set_option linter.unusedSimpArgs false
open Go.RowKit
def AT:List Agent→Nat
 | [] =>0
 |a::l=>(if a.kind=0 then 0 else 1)+AT l
theorem Iq (l m:List Agent):AT (l++m)=AT l+AT m:=by
 induction l with
 |nil=>simp [AT]
 |cons a l ih=>rw [List.cons_append,AT,AT,ih]; omega
theorem Kb (l:List Agent):AT l≤l.length:=by
 induction l with
 |nil=>simp [AT]
 |cons a l ih=>rw [AT,List.length_cons]; split <;> omega
theorem R0 {l m} (h:l.map (·.kind)=m.map (·.kind)):AT l=AT m:=by
 induction l generalizing m with
 |nil=>
  cases m with
  |nil=>rfl
  |cons b m=>cases h
 | cons a l ih=>
  cases m with
  |nil=>cases h
  |cons b m=>
   simp only [List.map_cons,List.cons.injEq] at h
   rw [AT,AT,h.1,ih h.2]
theorem Mz {l} (h:∀a ∈ l,a.kind≠0):AT l=l.length:=by
 induction l with
 |nil=>rfl
 |cons a l ih=>rw [AT,if_neg (h a List.mem_cons_self),ih fun b hb=>h b (List.mem_cons_of_mem _ hb),List.length_cons]; omega
theorem YM (n:Net) (hl:n.agents.length≤Big):Ik n=some ((AT n.agents:Nat):Int):=by
 have loop:∀ (post pre:List Agent) (k:Nat),n.agents=pre++post→post.length<k→DM k n ((AT pre:Nat):Int) ((List.length pre:Nat):Int)=some ((AT n.agents:Nat):Int):=by
  intro post
  induction post with
  |nil=>
   intro pre k h hk
   obtain⟨k,rfl⟩:∃q,k=q+1:=⟨k - 1,by omega⟩
   rw [DM,CU h,if_neg (by simp),h,List.append_nil]
  | cons x post ih=>
   intro pre k h hk
   rw [List.length_cons] at hk
   obtain⟨k,rfl⟩:∃q,k=q+1:=⟨k - 1,by omega⟩
   have ih':=ih (pre++[x]) k (Ae h) (by omega)
   have hle:=Kb pre
   have hpl:pre.length≤Big:=by rw [h] at hl; simp at hl; omega
   rw [Iq] at ih'
   rw [DM,if_pos (CG h),BO h,AA]
   by_cases hk0:x.kind=0
   ·rw [if_neg (by simp [hk0]),Ax h hl]
    rw [show AT [x] =0 from by simp [AT,hk0],Nat.add_zero] at ih'
    exact ih'
   ·rw [if_pos (by simp [hk0]),Ax h hl,w64 (by omega) (by unfold Big at hpl; omega)]
    rw [show AT [x] =1 from by simp [AT,hk0]] at ih'
    rw [show ((AT pre:Nat):Int)+1=((AT pre+1:Nat):Int) from by omega]
    exact ih'
 exact loop n.agents [] fuel rfl (by rw [Ah]; unfold Big at hl; omega)
def remM (R:List Int):List (Int × Bool):=R.map fun k=>(k,true)
theorem V3:∀ (R:List Int) (k:Int),(I3 (remM R) k).getD false=decide (k ∈ R)
 | [],k=>by simp [remM,I3]
 |r::R,k=>by
  have:=V3 R k
  unfold remM at this ⊢
  rw [List.map_cons,I3]
  by_cases e:k=r
  ·rw [if_pos e]; simp [e]
  ·rw [if_neg e,this]; simp [e]
theorem V4:∀ (R:List Int) (k:Int),k ∉ R→L6 (remM R) k true=remM (R++[k])
 | [],k,_=>rfl
 |r::R,k,h=>by
  have:=V4 R k fun e=>h (List.mem_cons_of_mem _ e)
  unfold remM at this ⊢
  rw [List.map_cons,L6,if_neg (fun e=>h (by simp only at e; rw [e]; exact List.mem_cons_self)),this]
  simp
theorem Pa (R:List Int) (k:Int) (h:k ∉ R) (hl:R.length<Big):QF (remM R) k true=some (remM (R++[k])):=by
 unfold QF
 rw [if_pos (by unfold remM; rw [List.length_map]; unfold Big at hl; omega),V4 R k h]
theorem eA (n:Net) (bk:List Net) (R:List Int) (x:Int) (h:x ∉ R) (hl:R.length<Big):BN ⟨n,bk,remM R⟩ [x] =some ⟨n,bk,remM (R++[x])⟩:=by
 unfold BN
 obtain⟨f,hf⟩:∃f,fuel=f+1+1:=⟨fuel - 2,by rw [Ah]⟩
 rw [hf,A0,if_pos (by simp)]
 have:at? [x] 0=some x:=rfl
 simp only
 rw [this,AA,Pa R x h hl,AA,w64 (by omega) (by omega),A0,if_neg (by simp)]
theorem eC (n:Net) (bk:List Net) (R:List Int) (x y:Int) (hx:x ∉ R) (hy:y ∉ R) (hne:x≠y) (hl:R.length+1<Big):BN ⟨n,bk,remM R⟩ [x,y] =some ⟨n,bk,remM (R++[x] ++[y])⟩:=by
 unfold BN
 obtain⟨f,hf⟩:∃f,fuel=f+1+1+1:=⟨fuel - 3,by rw [Ah]⟩
 rw [hf,A0,if_pos (by simp)]
 have h0:at? [x,y] 0=some x:=rfl
 have h1:at? [x,y] (0+1)=some y:=rfl
 simp only
 rw [h0,AA,Pa R x hx (by omega),AA,w64 (by omega) (by omega),A0,if_pos (by simp),h1,AA,Pa (R++[x]) y (by simp; exact⟨hy,fun e=>hne e.symm⟩) (by simp; omega),AA,w64 (by omega) (by omega),A0,if_neg (by simp)]
structure Stt (R:List Int) (A B:List Agent):Prop where
 ok:Ok (fun k=>k ∈ R) (fun p=>p.agent ∈ R) A B
 cnt:AT B+R.length=B.length
 nb:∀a ∈ A,NB (sh a)
theorem V5 {R:List Int} {X Y:Port→Prop} {A B A' B':List Agent} {new:List Sh} (h:Ok (fun k=>k ∈ R) X A B) (h':Ok (fun k=>k ∈ R) Y A' B') (hs:A'.map sh=A.map sh++new):B'.map (·.kind)=B.map (·.kind)++new.map (·.1):=by
 have e:A'.map (·.kind)=A.map (·.kind)++new.map (·.1):=by
  have:=congrArg (List.map (·.1)) hs
  rw [List.map_append,List.map_map,List.map_map] at this
  exact this
 have hlA:=congrArg List.length e
 simp only [List.length_append,List.length_map] at hlA
 have l1:=h.len
 have l2:=h'.len
 apply List.ext_getElem?
 intro i
 by_cases hi:i<A'.length
 ·by_cases hr:(i:Int) ∈ R
  ·have k1:=h.hl _ hr
   have k2:=h'.hl _ hr
   have k3:=C6 k1
   rw [List.getElem?_append_left (by rw [List.length_map]; omega),List.getElem?_map,List.getElem?_map]
   obtain⟨-,k4⟩:=A9 k1
   obtain⟨-,k5⟩:=A9 k2
   rw [Int.toNat_natCast] at k4 k5
   rw [k4,k5]
  ·have k1:=h.ag _ hr
   have k2:=h'.ag _ hr
   unfold at? at k1 k2
   rw [if_pos (by omega),Int.toNat_natCast] at k1 k2
   rw [if_pos (by omega)] at k1 k2
   have e2:=congrArg (fun l=>l[i]?) e
   simp only at e2
   by_cases hi2:i<A.length
   ·rw [List.getElem?_append_left (by rw [List.length_map]; exact hi2),List.getElem?_map,List.getElem?_map] at e2
    rw [List.getElem?_append_left (by rw [List.length_map]; omega),List.getElem?_map,List.getElem?_map,← k1,← k2,e2]
   ·rw [List.getElem?_append_right (by rw [List.length_map]; omega),List.getElem?_map,List.length_map] at e2
    rw [List.getElem?_append_right (by rw [List.length_map]; omega),List.getElem?_map,← k2,e2,List.length_map,l1]
 ·rw [List.getElem?_eq_none (by rw [List.length_map]; omega),List.getElem?_eq_none (by simp; omega)]
theorem Zb {l} {i} {a} (h:l[i]? =some a) (hk:a.kind≠0):AT (l.set i ba)+1=AT l:=by
 induction l generalizing i with
 |nil=>simp at h
 | cons b l ih=>
  cases i with
  |zero=>
   simp only [List.getElem?_cons_zero,Option.some.injEq] at h
   subst h
   rw [List.set_cons_zero,AT,AT,if_neg hk,if_pos (by rfl)]; omega
  |succ i=>
   rw [List.getElem?_cons_succ] at h
   rw [List.set_cons_succ,AT,AT,← ih h]; omega
theorem Ok.rem {R} {X} {A B} (h:Ok (fun k=>k ∈ R) X A B) {x} {a} (ha:at? A x=some a) (hx:x ∉ R) (hX:∀p:Port,p.agent=x→X p):
  D9 ⟨B⟩ x=some ⟨B.set x.toNat ba⟩∧Ok (fun k=>k ∈ R++[x]) X A (B.set x.toNat ba)∧(a.kind≠0→AT (B.set x.toNat ba)+1=AT B):=by
 have hb:at? B x=some a:=(h.ag x hx).symm.trans ha
 refine⟨?_,⟨by rw [List.length_set]; exact h.len,fun k hk=>?_,fun k hk=>?_,h.m,fun p hp=>?_⟩,fun hk=>?_⟩
 ·unfold D9 CF Vi
  rw [hb,AA,AA]; rfl
 ·have hk':k ∉ R∧k≠x:=by simpa using hk
  rw [UD hb,if_neg hk'.2]; exact h.ag k hk'.1
 ·rw [UD hb]
  rcases List.mem_append.1 hk with e|e
  ·rw [if_neg (fun e2:k=x=>hx (e2 ▸ e))]; exact h.hl k e
  ·rw [if_pos (by simpa using e)]
 ·rcases List.mem_append.1 hp with e|e
  ·exact h.sx p e
  ·exact hX p (by simpa using e)
 ·exact Zb (A9 hb).2 hk
theorem Stt.both {R:List Int} {A B:List Agent} (hst:Stt R A B) {x y:Int} {a b:Agent} (hp:Pr (fun k=>k ∈ R) A x y a b) (hne:x≠y) {new:List Sh} {A2 B2:List Agent} (d:Done (fun k=>k ∈ R) A x y new A2 B2) (hn:∀n ∈ new,NB n) (bk:List Net) (hR:R.length+1<Big):
  ∃B3 B4,D9 ⟨B2⟩ x=some ⟨B3⟩∧D9 ⟨B3⟩ y=some ⟨B4⟩∧BN ⟨⟨A2⟩,bk,remM R⟩ [x,y] =some ⟨⟨A2⟩,bk,remM (R++[x] ++[y])⟩∧Stt (R++[x] ++[y]) A2 B4:=by
 have nb2:∀a ∈ A2,NB (sh a):=fun a ha=>by
  have:=List.mem_map_of_mem (f:=sh) ha
  rw [d.shp] at this
  rcases List.mem_append.1 this with e|e
  ·obtain⟨c,hc,e⟩:=List.mem_map.1 e
   rw [← e]; exact hst.nb c hc
  ·exact hn _ e
 have hx2:=B8 (m:=new) (Dv hp.hx)
 have hy2:=B8 (m:=new) (Dv hp.hy)
 rw [← d.shp] at hx2 hy2
 obtain⟨a',ha',-⟩:=MF hx2
 obtain⟨b',hb',-⟩:=MF hy2
 have ka:a'.kind≠0:=(nb2 a' (List.mem_of_getElem? (A9 ha').2)).2.2
 have kb:b'.kind≠0:=(nb2 b' (List.mem_of_getElem? (A9 hb').2)).2.2
 obtain⟨e1,o1,c1⟩:=d.ok.rem ha' hp.sx fun p hp=>.inr (.inl hp)
 obtain⟨e2,o2,c2⟩:=o1.rem hb' (by simp only [List.mem_append,List.mem_singleton,not_or]; exact⟨hp.sy,fun e=>hne e.symm⟩) fun p hp=>.inr (.inr hp)
 refine⟨_,_,e1,e2,eC _ _ R x y hp.sx hp.sy hne hR,⟨o2.len,o2.ag,o2.hl,o2.m.mono fun p=>?_,fun p hp=>hp⟩,?_,nb2⟩
 ·simp only [List.mem_append,List.mem_singleton]
  constructor
  ·rintro (h|h|h)
   ·exact .inl (.inl h)
   ·exact .inl (.inr h)
   ·exact .inr h
  ·rintro ((h|h)|h)
   ·exact .inl h
   ·exact .inr (.inl h)
   ·exact .inr (.inr h)
 ·have hk:=V5 hst.ok d.ok d.shp
  have l1:=congrArg List.length hk
  simp only [List.length_map,List.length_append] at l1
  have c3:AT B2=AT B+new.length:=by
   have:AT B2=AT (B++new.map fun s=>(⟨s.1,0,0,[],[]⟩:Agent)):=R0 (by rw [hk,List.map_append,List.map_map]; rfl)
   rw [this,Iq,Mz (l:=new.map _),List.length_map]
   intro a ha
   obtain⟨s,hs,rfl⟩:=List.mem_map.1 ha
   exact(hn s hs).2.2
  have:=c1 ka
  have:=c2 kb
  have:=hst.cnt
  simp only [List.length_append,List.length_singleton,List.length_set]
  omega
theorem Stt.one {R:List Int} {A B:List Agent} (hst:Stt R A B) {x:Int} {a:Agent} (hx:at? A x=some a) (sx:x ∉ R) {new:List Sh} {A2 B2:List Agent} (ok:Ok (fun k=>k ∈ R) (fun p=>p.agent ∈ R∨p.agent=x) A2 B2) (hs:A2.map sh=A.map sh++new) (hn:∀n ∈ new,NB n) (bk:List Net) (hR:R.length<Big):
  ∃B3,D9 ⟨B2⟩ x=some ⟨B3⟩∧BN ⟨⟨A2⟩,bk,remM R⟩ [x] =some ⟨⟨A2⟩,bk,remM (R++[x])⟩∧Stt (R++[x]) A2 B3:=by
 have nb2:∀a ∈ A2,NB (sh a):=fun a ha=>by
  have:=List.mem_map_of_mem (f:=sh) ha
  rw [hs] at this
  rcases List.mem_append.1 this with e|e
  ·obtain⟨c,hc,e⟩:=List.mem_map.1 e
   rw [← e]; exact hst.nb c hc
  ·exact hn _ e
 have hx2:=B8 (m:=new) (Dv hx)
 rw [← hs] at hx2
 obtain⟨a',ha',-⟩:=MF hx2
 have ka:a'.kind≠0:=(nb2 a' (List.mem_of_getElem? (A9 ha').2)).2.2
 obtain⟨e1,o1,c1⟩:=ok.rem ha' sx fun p hp=>.inr hp
 refine⟨_,e1,eA _ _ R x sx hR,⟨o1.len,o1.ag,o1.hl,o1.m.mono fun p=>by simp,fun p hp=>hp⟩,?_,nb2⟩
 have hk:=V5 hst.ok ok hs
 have l1:=congrArg List.length hk
 simp only [List.length_map,List.length_append] at l1
 have c3:AT B2=AT B+new.length:=by
  have:AT B2=AT (B++new.map fun s=>(⟨s.1,0,0,[],[]⟩:Agent)):=R0 (by rw [hk,List.map_append,List.map_map]; rfl)
  rw [this,Iq,Mz (l:=new.map _),List.length_map]
  intro a ha
  obtain⟨s,hs,rfl⟩:=List.mem_map.1 ha
  exact(hn s hs).2.2
 have:=c1 ka
 have:=hst.cnt
 simp only [List.length_append,List.length_singleton,List.length_set]
 omega
end Go.Proofs.YtckcfdggbbabfaaGreat.Ab
namespace Go.Proofs.YtckcfdggbbabfaaGreat.Ab
set_option linter.unusedVariables false
set_option linter.unusedSimpArgs false
open Go.RowKit
theorem j7 {a b} (h:pfi a b=0):kcl a b=8:=by
 unfold pfi at h
 unfold kcl pcl
 split at h
 ·omega
 ·split at h
  ·omega
  ·rename_i h1 h2
   rw [if_neg h1,if_neg h2]; split <;> rfl
theorem j8 {a b} (h:pfi a b=1):ru a.kind a.level b.kind b.level≠0∧pcl a b=ru a.kind a.level b.kind b.level:=by
 unfold pfi at h
 unfold pcl
 split at h
 ·rename_i h1
  rw [if_pos h1]; exact⟨h1,rfl⟩
 ·split at h <;> omega
theorem j9 {a b} (h:pfi a b=2):ru b.kind b.level a.kind a.level≠0∧pcl b a=ru b.kind b.level a.kind a.level∧pcl a b=pcl b a:=by
 unfold pfi at h
 unfold pcl
 split at h
 ·omega
 ·rename_i h1
  split at h
  ·rename_i h2
   rw [if_pos h2,if_neg h1,if_pos h2]; exact⟨h2,rfl,rfl⟩
  ·omega
theorem pfi_cases (a b:Agent):pfi a b=0∨pfi a b=1∨pfi a b=2:=by
 unfold pfi; repeat' split
 all_goals omega
theorem bv {a b} (h:pcl a b=pcl b a):kcl a b=kcl b a:=by
 unfold kcl
 rw [h]
 by_cases h1:DD a b=true <;> by_cases h2:DD b a=true <;> simp [h1,h2]
def Fx (bk:List Net) (c:Int) (a:Agent):Int:=
 if c=8 then 11 else if c=7 then match at? bk a.value with
  |none=>3
  |some T=>if okL a.level T.agents=true then 0 else 9
 else 0
def gnum (bk:List Net) (c:Int) (a b:Agent):Int:=
 if c=3∨c=4 then (b.ports.length:Int) - 1 else if c=6 then (if a.kind=9 then (a.ports.length:Int) - 1 else 0)
 else if c=7 then match at? bk a.value with
  |none=>0
  |some T=>(T.agents.length:Int)
 else 0
section
variable {A B:List Agent} {bk:List Net}
theorem Pb {x y} {a} (ha:at? A x=some a) (ga:agB a=true) (hbk:∀T ∈ bk,Vn T.agents) (r:List (Int × Bool)) (c:Int) (hv:c=7→0≤a.value) (sw:Bool):
  CX ⟨⟨A⟩,bk,r⟩ (c,sw) x y=some (if Fx bk c a=0 then (c,x,y,0) else (0,0,0,Fx bk c a)):=by
 unfold CX DG Fx
 by_cases h8:c=8
 ·subst h8; simp
 ·by_cases h7:c=7
  ·subst h7
   simp only [show ¬ ((7:Int)=8) from by omega,decide_false,Bool.false_eq_true,if_false,decide_true,if_true]
   have hv:=hv rfl
   rw [ha,AA]
   by_cases hlt:(bk.length:Int)≤a.value
   ·rw [if_pos (by simpa using hlt),K7 (by omega)]
    simp
   ·rw [if_neg (by simpa using hlt)]
    obtain⟨T,hT,hm⟩:=Ef (l:=bk) (i:=a.value) (by omega)
    rw [hT,AA,Ry T a.level (hbk T hm) (Ip ga),AA]
    by_cases ho:okL a.level T.agents=true
    ·simp [ho]
    ·simp [ho]
  ·simp [h8,h7]
theorem bw {x y} {a b} (ha:at? A x=some a) (hb:at? A y=some b) (ga:agB a=true) (gb:agB b=true) (r:List (Int × Bool)) (c:Int) (he:Fx bk c a=0):
  D5 ⟨⟨A⟩,bk,r⟩ c x y=some (grow c (gnum bk c a b)):=by
 have hp:=CW ga
 have hq:=CW gb
 have hj:∀n,BE ⟨⟨A⟩,bk,r⟩ c n=some (grow c n):=fun n=>by
  unfold BE
  obtain⟨e,h⟩:=XG c n
  rw [h,AA]
 unfold D5 Cu gnum
 by_cases h3:c=3
 ·subst h3
  simp only [decide_true,if_true,true_or]
  rw [hb,AA,hj,w64 (by omega) (by omega)]
 ·by_cases h4:c=4
  ·subst h4
   simp only [show ¬ ((4:Int)=3) from by omega,decide_false,decide_true,Bool.false_eq_true,if_true,if_false,or_true]
   rw [hb,AA,hj,w64 (by omega) (by omega)]
  ·by_cases h6:c=6
   ·subst h6
    simp only [show ¬ ((6:Int)=3) from by omega,show ¬ ((6:Int)=4) from by omega,decide_false,decide_true,Bool.false_eq_true,if_true,if_false,or_false]
    rw [ha,AA]
    by_cases h9:a.kind=9
    ·rw [if_pos (by simpa using h9),if_pos h9,AA,hj,w64 (by omega) (by omega)]
    ·rw [if_neg (by simpa using h9),if_neg h9,hj]
   ·by_cases h7:c=7
    ·subst h7
     simp only [show ¬ ((7:Int)=3) from by omega,show ¬ ((7:Int)=4) from by omega,show ¬ ((7:Int)=6) from by omega,decide_false,decide_true,Bool.false_eq_true,if_true,if_false,or_false]
     unfold Fx at he
     simp only [show ¬ ((7:Int)=8) from by omega,if_false,if_true] at he
     cases hT:at? bk a.value with
     |none=>rw [hT] at he; simp at he
     |some T=>rw [ha,AA,hT,AA,hj]
    ·simp only [h3,h4,h6,h7,decide_false,Bool.false_eq_true,if_false,or_false]
     exact hj 0
theorem bz {px py x y} {a b} (hF:FW ⟨B⟩ px py=some (x,y)) (ha:at? B x=some a) (hb:at? B y=some b) (h2:Two a b) (ga:agB a=true) (gb:agB b=true) (hv:kcl a b=7→0≤a.value) (hbk:∀T ∈ bk,Vn T.agents):
  H1 bk ⟨B⟩ px py=some (if Fx bk (kcl a b) a=0 then (grow (kcl a b) (gnum bk (kcl a b) a b),0) else (0,Fx bk (kcl a b) a)):=by
 have hp:=CW ga
 have hq:=CW gb
 have hj:∀n,-1000000000000≤n∧n≤1000000000000→Cw (kcl a b) n=some (grow (kcl a b) n,0):=fun n hn=>by
  unfold Cw
  obtain⟨e,h⟩:=XH (kcl a b) n hn
  rw [h,AA]
 unfold H1 FY
 rw [hF,AA,ha,AA,hb,AA,MG h2,AA]
 generalize kcl a b=c at*
 unfold Fx gnum
 by_cases h8:c=8
 ·subst h8; simp
 ·rw [if_neg (by simpa using h8),if_neg h8]
  by_cases h3:c=3
  ·subst h3
   simp only [decide_true,if_true,true_or,show ¬ ((3:Int)=7) from by omega,if_false]
   rw [w64 (by omega) (by omega)]
   exact hj _ (by omega)
  ·by_cases h4:c=4
   ·subst h4
    simp only [show ¬ ((4:Int)=3) from by omega,decide_false,decide_true,Bool.false_eq_true,if_true,if_false,or_true,show ¬ ((4:Int)=7) from by omega]
    rw [w64 (by omega) (by omega)]
    exact hj _ (by omega)
   ·by_cases h6:c=6
    ·subst h6
     simp only [show ¬ ((6:Int)=3) from by omega,show ¬ ((6:Int)=4) from by omega,show ¬ ((6:Int)=7) from by omega,decide_false,decide_true,Bool.false_eq_true,if_true,if_false,or_false]
     have hF:Cy a=some (if a.kind=9 then (a.ports.length:Int) - 1 else 0):=by
      unfold Cy
      by_cases h9:a.kind=9
      ·rw [if_pos (by simpa using h9),if_pos h9,w64 (by omega) (by omega)]
      ·rw [if_neg (by simpa using h9),if_neg h9]
     rw [hF,AA]
     exact hj _ (by split <;> omega)
    ·by_cases h7:c=7
     ·subst h7
      simp only [show ¬ ((7:Int)=3) from by omega,show ¬ ((7:Int)=4) from by omega,show ¬ ((7:Int)=6) from by omega,decide_false,decide_true,Bool.false_eq_true,if_true,if_false,or_false]
      have hv:=hv rfl
      by_cases hlt:(bk.length:Int)≤a.value
      ·rw [if_pos (by simpa using hlt),K7 (by omega)]
       simp
      ·rw [if_neg (by simpa using hlt)]
       obtain⟨T,hT,hm⟩:=Ef (l:=bk) (i:=a.value) (by omega)
       have hV:=hbk T hm
       have hl:=Ip ga
       have hVl:=hV.len
       have hhi:hiL 0 T.agents≤8:=(UI _ _ _).2 ⟨by omega,fun t ht=>(Ip (hV.mem ht)).2⟩
       have hhi0:0≤hiL 0 T.agents:=by
        by_cases e:hiL 0 T.agents≤ -1
        ·have:=((UI _ _ _).1 e).1; omega
        ·omega
       rw [hT,AA,AA,j5 T (by unfold Big; omega),AA,w64 (by omega) (by omega)]
       simp only
       rw [gN (fun t ht=>hV.mem ht) hl]
       by_cases ho:8<hiL 0 T.agents+a.level
       ·rw [if_pos (by simpa using ho)]
        simp only [show ¬ (hiL 0 T.agents+a.level≤8) from by omega,decide_false,Bool.false_eq_true,if_false,show ¬ ((9:Int)=0) from by omega]
       ·rw [if_neg (by simpa using ho)]
        simp only [show (hiL 0 T.agents+a.level≤8) from by omega,decide_true,if_true]
        exact hj _ (by omega)
     ·simp only [h3,h4,h6,h7,decide_false,Bool.false_eq_true,if_false,or_false,if_true]
      exact hj 0 (by omega)
end
end Go.Proofs.YtckcfdggbbabfaaGreat.Ab
namespace Go.Proofs.YtckcfdggbbabfaaGreat.Ab
set_option linter.unusedVariables false
set_option linter.unusedSimpArgs false
open Go.RowKit
theorem Pc (a b:Agent):let c:=ru a.kind a.level b.kind b.level
  (0≤c∧c≤7)∧(c=1→a.kind=2∧b.kind=3)∧(c=2→a.kind=4∧b.kind=4)∧(c=3→a.kind=4)∧(c=4→a.kind=5)∧(c=5→a.kind=6∧(b.kind=7∨b.kind=8))∧(c=6→(a.kind=6∧b.kind=11)∨(a.kind=9∧b.kind=10))∧(c=7→a.kind=12):=by
 intro c
 have hc:c=ru a.kind a.level b.kind b.level:=rfl
 clear_value c
 unfold ru at hc
 repeat' split at hc
 all_goals omega
structure RuInv (c:Int) (a b:Agent):Prop where
 k1:c=1→a.kind=2∧b.kind=3
 k2:c=2→a.kind=4∧b.kind=4
 k3:c=3→a.kind=4
 k4:c=4→a.kind=5
 k5:c=5→a.kind=6∧(b.kind=7∨b.kind=8)
 k6:c=6→(a.kind=6∧b.kind=11)∨(a.kind=9∧b.kind=10)
 k7:c=7→a.kind=12
structure PkInv (a:Agent):Prop where
 p1:a.kind=1∨a.kind=5∨a.kind=6∨a.kind=12→a.ports.length=1
 p2:a.kind=8∨a.kind=10∨a.kind=11→a.ports.length=2
 p3:a.kind=2∨a.kind=3∨a.kind=4∨a.kind=7→a.ports.length=3
theorem kA {a} (h:agB a=true):Fw a=true:=by
 unfold agB at h; simp only [Bool.and_eq_true] at h; exact h.2
theorem Kc {a} (h:agB a=true):(a.kind=7→a.data.length=0)∧(a.kind=8→a.data.length=1)∧(a.kind=9→0≤a.value)∧(a.kind=11→a.data.length=2)∧(a.kind=12→0≤a.value):=by
 have h:=kA h
 unfold Fw at h
 refine⟨fun e=>?_,fun e=>?_,fun e=>?_,fun e=>?_,fun e=>?_⟩
 ·rw [if_neg (by omega),if_pos e] at h
  simp only [Bool.and_eq_true,decide_eq_true_eq] at h; exact h.1
 ·rw [if_neg (by omega),if_neg (by omega),if_pos e] at h
  simp only [Bool.and_eq_true,decide_eq_true_eq] at h; exact h.1.1
 ·rw [if_neg (by omega),if_neg (by omega),if_neg (by omega),if_pos e] at h
  simp only [Bool.and_eq_true,decide_eq_true_eq] at h; exact h.2.1
 ·rw [if_neg (by omega),if_neg (by omega),if_neg (by omega),if_neg (by omega),if_neg (by omega),if_neg (by omega),if_pos e] at h
  simp only [Bool.and_eq_true,decide_eq_true_eq] at h; exact h.1.2
 ·rw [if_neg (by omega),if_neg (by omega),if_neg (by omega),if_neg (by omega),if_pos e] at h
  simp only [Bool.and_eq_true,GW,decide_eq_true_eq] at h
  omega
section
variable {R:List Int} {A B:List Agent}
structure Outc (R:List Int) (A:List Agent) (x y:Int) (R':List Int) (A' B':List Agent) (new:List Sh):Prop where
 st:Stt R' A' B'
 shp:A'.map sh=A.map sh++new
 nl:new.length≤600
 sv:SV new
 fr:∀p q,Ab.get A p=some q→Ab.get A q=some p→p.agent ∉ R'→q.agent ∉ R'→Ab.get A' p=some q
 mem:∀k,k ∈ R'↔k ∈ R∨k=x∨(k=y∧y ∈ R')
theorem ML (hst:Stt R A B) {x y} {a b} (hp:Pr (fun k=>k ∈ R) A x y a b) (hne:x≠y) {new} {A2 B2} (d:Done (fun k=>k ∈ R) A x y new A2 B2) (hn:NBs new) (sv:SV new) (hR:R.length+1<Big) (bk:List Net) (a0:Rewriter) (h0:a0.book=bk) (c:Int) (hc:c≠7) (v:Int × Int × Int × Int) (hv:v.2.1 =x∧v.2.2.1 =y) (z:Int × Int) (hz:z=(x,y)):
  ∃B4,Ag a0 v (remM R) A2=some (0,⟨⟨A2⟩,bk,remM (R++[x] ++[y])⟩)∧Cn z c B2=some (0,⟨B4⟩)∧Outc R A x y (R++[x] ++[y]) A2 B4 new:=by
 obtain⟨B3,B4,e1,e2,e3,e4⟩:=hst.both hp hne d hn.1 bk hR
 subst h0 hz
 refine⟨B4,?_,?_,e4,d.shp,hn.2,sv,fun p q h1 h2 n1 n2=>d.fr p q h1 h2 (fun e=>n1 (by rcases e with e|e|e <;> simp [e])) (fun e=>n2 (by rcases e with e|e|e <;> simp [e])),fun k=>?_⟩
 ·unfold Ag
  rw [hv.1,hv.2,e3,AA]
 ·unfold Cn
  rw [e1,AA,if_pos (by simp [hc]),e2,AA]
 ·simp only [List.mem_append,List.mem_singleton]
  constructor
  ·rintro ((h|h)|h)
   ·exact .inl h
   ·exact .inr (.inl h)
   ·exact .inr (.inr ⟨h,by simp⟩)
  ·rintro (h|h|⟨h,-⟩)
   ·exact .inl (.inl h)
   ·exact .inl (.inr h)
   ·exact .inr h
theorem eD (hst:Stt R A B) {x y} {a b} (hp:Pr (fun k=>k ∈ R) A x y a b) (ga:agB a=true) (gb:agB b=true) (kb:b.kind≠1) (c:Int) (hc:ru a.kind a.level b.kind b.level=c) (hc0:c≠0) (hno:c=6→a.kind=9→a.value<(b.data.length:Int)) (hA:A.length≤8000000) (bk:List Net) (hbk:∀T ∈ bk,Vn T.agents) (he:Fx bk c a=0):
  ∃R' A' B' new,BR ⟨⟨A⟩,bk,remM R⟩ (c,x,y,0) (decide (c=1∨c=2))=some (0,⟨⟨A'⟩,bk,remM R'⟩)∧GV bk ⟨B⟩ (x,y) c (decide (c=1∨c=2))=some (0,⟨B'⟩)∧Outc R A x y R' A' B' new∧((AT B':Nat):Int)=((AT B:Nat):Int)+grow c (gnum bk c a b):=by
 have hOk:=hst.ok
 have hne:=(hOk.start hp).2
 have hRl:R.length+1<Big:=by
  have:=hst.cnt
  have:=hOk.len
  unfold Big; omega
 obtain⟨hcr,K⟩:(0≤c∧c≤7)∧RuInv c a b:=by
  obtain⟨h,k1,k2,k3,k4,k5,k6,k7⟩:=Pc a b
  rw [hc] at h k1 k2 k3 k4 k5 k6 k7
  exact⟨h,k1,k2,k3,k4,k5,k6,k7⟩
 have pa:PkInv a:=⟨(MJ ga).1,(MJ ga).2.1,(MJ ga).2.2⟩
 have pb:PkInv b:=⟨(MJ gb).1,(MJ gb).2.1,(MJ gb).2.2⟩
 have hp4:=CW ga
 have hq4:=CW gb
 have hbd:=MI gb
 have lv:∀ {R':List Int} {A' B':List Agent} {new:List Sh},Outc R A x y R' A' B' new→((AT B':Nat):Int)=((AT B:Nat):Int)+(new.length:Int) - ((R'.length:Int) - (R.length:Int)):=fun {R' A' B' new} o=>by
  have c1:=o.st.cnt
  have c2:=hst.cnt
  have c3:=o.st.ok.len
  have c4:=hOk.len
  have c5:=LB o.shp
  rw [List.length_append,List.length_map] at c5
  omega
 have lv2:∀ {A' B':List Agent} {new:List Sh},Outc R A x y (R++[x] ++[y]) A' B' new→∀g:Int,g=(new.length:Int) - 2→((AT B':Nat):Int)=((AT B:Nat):Int)+g:=fun {A' B' new} o g hg=>by
  have:=lv o
  simp only [List.length_append,List.length_singleton] at this
  omega
 by_cases h12:c=1∨c=2
 ·have ha3:a.ports.length=3:=by
   rcases h12 with e|e
   ·exact pa.p3 (.inl (K.k1 e).1)
   ·exact pa.p3 (.inr (.inr (.inl (K.k2 e).1)))
  have hb3:b.ports.length=3:=by
   rcases h12 with e|e
   ·exact pb.p3 (.inr (.inl (K.k1 e).2))
   ·exact pb.p3 (.inr (.inr (.inl (K.k2 e).2)))
  obtain⟨A1,A2,B1,B2,e1,e2,f1,f2,d⟩:=d7 hOk hp ha3 hb3
  obtain⟨B4,g1,g2,g3⟩:=ML hst hp hne d (And.intro (fun n hn=>by cases hn) (by simp)) (fun n hn=>by cases hn) hRl bk ⟨⟨A⟩,bk,remM R⟩ rfl c (by omega) (c,x,y,0) ⟨rfl,rfl⟩ (x,y) rfl
  refine⟨_,A2,B4,_,?_,?_,g3,lv2 g3 _ (by rcases h12 with e|e <;> simp [grow,gnum,e])⟩
  ·unfold BR
   rw [if_pos (by simpa using h12)]
   simp only
   rw [e1,AA,e2,AA]
   exact g1
  ·unfold GV
   rw [if_pos (by simpa using h12)]
   simp only [CV,AA]
   rw [f1,AA,f2,AA]
   exact g2
 ·have hd:decide (c=1∨c=2)=false:=by simpa using h12
  rw [hd]
  unfold BR GV
  rw [if_neg (show ¬ ((false:Bool)=true) from by simp),if_neg (show ¬ ((false:Bool)=true) from by simp)]
  simp only
  by_cases h3:c=3
  ·obtain⟨A2,B2,new,e1,f1,d,hn,sv,nl⟩:=gM hOk hp ga gb (K.k3 h3) kb (pa.p3 (.inr (.inr (.inl (K.k3 h3))))) hq4.1 hq4.2 hbd (by have:=Ka gb; omega) hA
   obtain⟨B4,g1,g2,g3⟩:=ML hst hp hne d hn sv hRl bk ⟨⟨A⟩,bk,remM R⟩ rfl c (by omega) (c,x,y,0) ⟨rfl,rfl⟩ (x,y) rfl
   refine⟨_,A2,B4,_,?_,?_,g3,lv2 g3 _ (by simp only [grow,gnum,h3]; simp; omega)⟩
   ·rw [if_pos (by simpa using h3),e1,AA]; exact g1
   ·rw [if_pos (by simpa using h3),f1,AA]; exact g2
  ·have n3:¬ (decide (c=3)=true):=by simpa using h3
   rw [if_neg n3,if_neg n3]
   by_cases h4:c=4
   ·obtain⟨A2,B2,e1,f1,d⟩:=bi hOk hp (pa.p1 (.inr (.inl (K.k4 h4)))) hq4.1 (by omega) hA ⟨⟨A⟩,bk,remM R⟩ (c,x,y,0) rfl (remM R) (x,y) rfl c
    obtain⟨B4,g1,g2,g3⟩:=ML hst hp hne d ⟨fun n hn=>by rw [(List.mem_replicate.1 hn).2]; exact⟨by simp [JK],by simp [JK],by simp [JK]⟩,by rw [List.length_replicate]; omega⟩ (fun n hn=>by rw [(List.mem_replicate.1 hn).2]; exact⟨by simp [JK],by rfl⟩) hRl bk ⟨⟨A⟩,bk,remM R⟩ rfl c (by omega) (c,x,y,0) ⟨rfl,rfl⟩ (x,y) rfl
    refine⟨_,A2,B4,_,?_,?_,g3,lv2 g3 _ (by simp only [grow,gnum,h4,List.length_replicate]; simp; omega)⟩
    ·rw [if_pos (by simpa using h4),e1]; exact g1
    ·rw [if_pos (by simpa using h4),hp.bY hOk,AA,f1]; exact g2
   ·have n4:¬ (decide (c=4)=true):=by simpa using h4
    rw [if_neg n4,if_neg n4]
    by_cases h5:c=5
    ·obtain⟨A2,B2,new,e1,f1,d,hn,sv,nl⟩:=XK hOk hp ga gb (K.k5 h5).1 (pa.p1 (.inr (.inr (.inl (K.k5 h5).1)))) (by
      rcases (K.k5 h5).2 with e|e
      ·exact .inl ⟨e,pb.p3 (.inr (.inr (.inr e))),(Kc gb).1 e⟩
      ·exact .inr ⟨e,pb.p2 (.inl e),(Kc gb).2.1 e⟩) hA
     obtain⟨B4,g1,g2,g3⟩:=ML hst hp hne d hn sv hRl bk ⟨⟨A⟩,bk,remM R⟩ rfl c (by omega) (c,x,y,0) ⟨rfl,rfl⟩ (x,y) rfl
     refine⟨_,A2,B4,_,?_,?_,g3,lv2 g3 _ (by simp only [grow,gnum,h5,nl]; simp)⟩
     ·rw [if_pos (by simpa using h5),e1,AA]; exact g1
     ·rw [if_pos (by simpa using h5),f1,AA]; exact g2
    ·have n5:¬ (decide (c=5)=true):=by simpa using h5
     rw [if_neg n5,if_neg n5]
     by_cases h6:c=6
     ·obtain⟨A2,B2,new,e1,f1,d,hn,sv,nl⟩:∃A2 B2 new,(∀bk r,Br ⟨⟨A⟩,bk,r⟩ x y=some ⟨⟨A2⟩,bk,r⟩)∧Em ⟨B⟩ x y=some ⟨B2⟩∧Done (fun k=>k ∈ R) A x y new A2 B2∧NBs new∧SV new∧(new.length:Int)=gnum bk 6 a b+1:=by
       rcases K.k6 h6 with ⟨e1,e2⟩|⟨e1,e2⟩
       ·obtain⟨A2,B2,new,z1,z2,z3,z4,z5,z6⟩:=ZU hOk hp gb (pa.p1 (.inr (.inr (.inl e1)))) e1 e2 (pb.p2 (.inr (.inr e2))) ((Kc gb).2.2.2.1 e2) hA
        exact⟨A2,B2,new,z1,z2,z3,z4,z5,by simp [gnum,e1,z6]⟩
       ·obtain⟨A2,B2,new,z1,z2,z3,z4,z5,z6⟩:=bq hOk hp gb e1 e2 (a.ports.length - 1) (by omega) (by omega) (pb.p2 (.inr (.inl e2))) hbd ((Kc ga).2.2.1 e1) (hno h6 e1) hA
        exact⟨A2,B2,new,z1,z2,z3,z4,z5,by simp only [gnum,e1,z6]; simp; omega⟩
      obtain⟨B4,g1,g2,g3⟩:=ML hst hp hne d hn sv hRl bk ⟨⟨A⟩,bk,remM R⟩ rfl c (by omega) (c,x,y,0) ⟨rfl,rfl⟩ (x,y) rfl
      refine⟨_,A2,B4,_,?_,?_,g3,lv2 g3 _ (by
       have hg:0≤gnum bk 6 a b∧gnum bk 6 a b≤3:=by
        simp only [gnum]
        simp
        split <;> omega
       rw [h6,nl]
       simp [grow,hg]
       omega)⟩
      ·rw [if_pos (by simpa using h6),e1,AA]; exact g1
      ·rw [if_pos (by simpa using h6),f1,AA]; exact g2
     ·have h7:c=7:=by omega
      have n6:¬ (decide (c=6)=true):=by simpa using h6
      have p7:decide (c=7)=true:=by simpa using h7
      rw [if_neg n6,if_neg n6,if_pos p7,if_pos p7]
      unfold Fx at he
      rw [if_neg (by omega),if_pos h7] at he
      cases hT:at? bk a.value with
      |none=>rw [hT] at he; simp at he
      | some T=>
       rw [hT] at he
       have hok:okL a.level T.agents=true:=by
        by_cases e:okL a.level T.agents=true
        ·exact e
        ·simp [e] at he
       have hm:T ∈ bk:=List.mem_of_getElem? (A9 hT).2
       obtain⟨A2,B2,new,e1,f1,o,s,⟨hn,sv⟩,⟨hl,hl1⟩,hfr⟩:=Za hOk hp (pa.p1 (.inr (.inr (.inr (K.k7 h7))))) (hbk T hm) (Ip ga) hok hA
       obtain⟨B3,g1,g2,g3⟩:=hst.one hp.hx hp.sx o s hn bk (by omega)
       have hO:Outc R A x y (R++[x]) A2 B3 new:=⟨g3,s,by have:=(hbk T hm).len; omega,sv,fun p q h1 h2 n1 n2=>hfr p q h1 h2 (fun e=>n1 (by simpa using e)) (fun e=>n2 (by simpa using e)),fun k=>by
        simp only [List.mem_append,List.mem_singleton]
        constructor
        ·rintro (h|h)
         ·exact .inl h
         ·exact .inr (.inl h)
        ·rintro (h|h|⟨h,h2⟩)
         ·exact .inl h
         ·exact .inr h
         ·rw [h]; exact h2⟩
       refine⟨_,A2,B3,new,?_,?_,hO,?_⟩
       ·rw [e1 bk (remM R) hT,AA,g2,AA]
       ·rw [hp.bx hOk,AA,hT,AA,f1,AA]
        unfold Cn
        simp only
        rw [g1,AA,if_neg (by simp [h7])]
       ·have:=lv hO
        rw [List.length_append,List.length_singleton] at this
        have hTl:=(hbk T hm).len
        simp only [grow,gnum,h7,hT]
        simp
        rw [if_pos (by omega)]
        omega
end
end Go.Proofs.YtckcfdggbbabfaaGreat.Ab
namespace Go.Proofs.YtckcfdggbbabfaaGreat.Ab
set_option linter.unusedVariables false
set_option linter.unusedSimpArgs false
open Go.RowKit
theorem eE (c n:Int): -2≤grow c n∧grow c n≤600:=by
 unfold grow
 repeat' split
 all_goals omega
theorem UK {a b} (h:kcl a b≠8):DD a b=false∧DD b a=false∧kcl a b=pcl a b:=by
 unfold kcl at h ⊢
 split at h
 ·exact absurd rfl h
 ·rename_i h1
  rw [if_neg h1]
  simp only [not_or,Bool.not_eq_true] at h1
  exact⟨h1.1,h1.2,rfl⟩
section
variable {R:List Int} {A B:List Agent}
theorem step_ord (hst:Stt R A B) {px py x y} {a b} (hp:Pr (fun k=>k ∈ R) A x y a b) (ga:agB a=true) (gb:agB b=true) (h2:Two a b) (bk:List Net) (hbk:∀T ∈ bk,Vn T.agents) (hA:A.length≤8000000)
  (hF:FW ⟨B⟩ px py=some (x,y)) (hr:kcl a b≠8→ru a.kind a.level b.kind b.level≠0∧pcl a b=ru a.kind a.level b.kind b.level)
  (hC:CH ⟨⟨A⟩,bk,remM R⟩ ⟨px,py⟩=some (if Fx bk (kcl a b) a=0 then (kcl a b,x,y,0) else (0,0,0,Fx bk (kcl a b) a))):
  (∃e,e≠0∧Ak ⟨⟨A⟩,bk,remM R⟩ ⟨px,py⟩=some (e,⟨⟨A⟩,bk,remM R⟩)∧IS bk ⟨B⟩ px py=some (e,⟨B⟩))∨
   (∃R' A' B' new,(kcl a b≠8∧AT B'≤600)∧Ak ⟨⟨A⟩,bk,remM R⟩ ⟨px,py⟩=some (0,⟨⟨A'⟩,bk,remM R'⟩)∧IS bk ⟨B⟩ px py=some (0,⟨B'⟩)∧Outc R A x y R' A' B' new):=by
 have hOk:=hst.ok
 have hv:kcl a b=7→0≤a.value:=fun e=>by
  have h8:kcl a b≠8:=by omega
  obtain⟨h3,h4⟩:=hr h8
  obtain⟨-,-,h5⟩:=UK h8
  have h6:=(Pc a b).2.2.2.2.2.2.2
  exact(Kc ga).2.2.2.2 (h6 (by omega))
 have hG:=bz hF (hp.bx hOk) (hp.bY hOk) h2 ga gb hv hbk
 unfold Ak IS
 rw [hC,AA,hG,AA]
 by_cases he:Fx bk (kcl a b) a=0
 ·rw [if_pos he,if_pos he]
  have h8:kcl a b≠8:=fun e=>by rw [e] at he; simp [Fx] at he
  obtain⟨h3,h4⟩:=hr h8
  obtain⟨n1,n2,h5⟩:=UK h8
  have hl1:AT B≤B.length:=Kb B
  have hl2:=hst.cnt
  have hl3:=hOk.len
  have hgb:=eE (kcl a b) (gnum bk (kcl a b) a b)
  have hcount:EZ ⟨⟨A⟩,bk,remM R⟩=some ((AT B:Nat):Int):=by
   unfold EZ
   simp only [remM,List.length_map]
   rw [w64 (by omega) (by omega)]
   congr 1; omega
  have hlive:=YM ⟨B⟩ (by simp only; unfold Big; omega)
  simp only at hlive
  simp only [decide_true,Bool.not_true,Bool.false_eq_true,if_false]
  rw [hcount,AA,bw hp.hx hp.hy ga gb (remM R) (kcl a b) he,AA,hlive,AA]
  rw [w64 (by omega) (by omega)]
  by_cases h6:(600:Int)<((AT B:Nat):Int)+grow (kcl a b) (gnum bk (kcl a b) a b)
  ·rw [if_pos (by simpa using h6),if_pos (by simpa using h6)]
   exact .inl ⟨4,by omega,rfl,rfl⟩
  ·have h6':¬ (decide ((600:Int)<((AT B:Nat):Int)+grow (kcl a b) (gnum bk (kcl a b) a b))=true):=by simpa using h6
   rw [if_neg h6',if_neg h6',hF,AA,hp.bx hOk,AA,hp.bY hOk,AA,MG h2,AA]
   obtain⟨R',A',B',new,r1,r2,r3,r4⟩:=eD hst hp ga gb h2.rb (kcl a b) (by rw [h5,h4]) (by rw [h5,h4]; exact h3) (fun e1 e2=>by
    have h7:=(Pc a b).2.2.2.2.2.2.1 (by rw [← h4,← h5,e1])
    rcases h7 with h7|h7
    ·omega
    ·by_cases h9:a.value<(b.data.length:Int)
     ·exact h9
     ·unfold DD at n1
      simp [h7.1,h7.2] at n1
      omega) hA bk hbk he
   refine .inr ⟨R',A',B',new,⟨h8,by omega⟩,?_,?_,r3⟩
   ·rw [← r1]
    by_cases hc1:kcl a b=1
    ·rw [if_pos (by simpa using hc1)]; simp [hc1]
    ·rw [if_neg (by simpa using hc1)]; simp [hc1]
   ·rw [← r2]
    by_cases hc1:kcl a b=1
    ·rw [if_pos (by simpa using hc1)]; simp [hc1]
    ·rw [if_neg (by simpa using hc1)]; simp [hc1]
 ·rw [if_neg he,if_neg he]
  refine .inl ⟨_,he,?_,?_⟩
  ·simp only
   rw [if_pos (by simpa using he)]
  ·simp only
   rw [if_pos (by simpa using he)]
theorem step (hst:Stt R A B) {px py} {a b} (hp:Pr (fun k=>k ∈ R) A px py a b) (ga:agB a=true) (gb:agB b=true) (ka:a.kind≠1) (kb:b.kind≠1) (bk:List Net) (hbk:∀T ∈ bk,Vn T.agents) (hA:A.length≤8000000):
  (∃e,e≠0∧Ak ⟨⟨A⟩,bk,remM R⟩ ⟨px,py⟩=some (e,⟨⟨A⟩,bk,remM R⟩)∧IS bk ⟨B⟩ px py=some (e,⟨B⟩))∨
   (∃x y R' A' B' new,((x=px∧y=py)∨(x=py∧y=px))∧(kcl a b≠8∧AT B'≤600)∧Ak ⟨⟨A⟩,bk,remM R⟩ ⟨px,py⟩=some (0,⟨⟨A'⟩,bk,remM R'⟩)∧IS bk ⟨B⟩ px py=some (0,⟨B'⟩)∧Outc R A x y R' A' B' new):=by
 have hOk:=hst.ok
 have h2:Two a b:=⟨IW ga,IW gb,ka,kb⟩
 obtain⟨sw,hcl,hsw⟩:=QH (i:=px) (j:=py) hp.hx hp.hy h2
 have hFF:FW ⟨B⟩ px py=some (if pfi a b=2 then (py,px) else (px,py)):=by
  unfold FW
  rw [hp.bx hOk,AA,hp.bY hOk,AA,ZS h2,AA]
  by_cases e:pfi a b=2 <;> simp [e]
 have hv:∀ {a b:Agent},agB a=true→kcl a b=7→pcl a b=ru a.kind a.level b.kind b.level→0≤a.value:=fun {a b} ga e h4=>by
  obtain⟨-,-,h5⟩:=UK (a:=a) (b:=b) (by omega)
  have h6:=(Pc a b).2.2.2.2.2.2.2
  exact(Kc ga).2.2.2.2 (h6 (by omega))
 by_cases h22:pfi a b=2
 ·obtain⟨q1,q2,q3⟩:=j9 h22
  have hk:kcl a b=kcl b a:=bv q3
  rw [if_pos h22] at hFF
  have hp':Pr (fun k=>k ∈ R) A py px b a:=⟨hp.hy,hp.hx,(hOk.m _ _ hp.w hp.sx).2.2,hp.sy,hp.sx⟩
  have hC:CH ⟨⟨A⟩,bk,remM R⟩ ⟨px,py⟩=some (if Fx bk (kcl b a) b=0 then (kcl b a,py,px,0) else (0,0,0,Fx bk (kcl b a) b)):=by
   unfold CH
   rw [hcl,AA,hk]
   by_cases h8:kcl a b=8
   ·have h8':kcl b a=8:=hk ▸ h8
    rw [h8']
    have e11:∀z,Fx bk 8 z=11:=fun z=>by simp [Fx]
    cases sw with
    |true=>rw [if_pos rfl,Pb hp.hy gb hbk (remM R) 8 (by omega) true]
    |false=>rw [if_neg (by simp),Pb hp.hx ga hbk (remM R) 8 (by omega) false,e11,e11]; simp
   ·have:=hsw h8
    rw [this,h22]
    simp only [decide_true,if_true]
    exact Pb hp.hy gb hbk (remM R) (kcl b a) (fun e=>hv gb e q2) true
  rcases step_ord hst hp' gb ga h2.symm bk hbk hA hFF (fun _=>⟨q1,q2⟩) hC with h|⟨R',A',B',new,r0,r1,r2,r3⟩
  ·exact .inl h
  ·exact .inr ⟨py,px,R',A',B',new,.inr ⟨rfl,rfl⟩,⟨by rw [hk]; exact r0.1,r0.2⟩,r1,r2,r3⟩
 ·rw [if_neg h22] at hFF
  have hr:kcl a b≠8→ru a.kind a.level b.kind b.level≠0∧pcl a b=ru a.kind a.level b.kind b.level:=fun h8=>by
   rcases pfi_cases a b with e|e|e
   ·exact absurd (j7 e) h8
   ·exact j8 e
   ·exact absurd e h22
  have hC:CH ⟨⟨A⟩,bk,remM R⟩ ⟨px,py⟩=some (if Fx bk (kcl a b) a=0 then (kcl a b,px,py,0) else (0,0,0,Fx bk (kcl a b) a)):=by
   unfold CH
   rw [hcl,AA]
   by_cases h8:kcl a b=8
   ·rw [h8]
    have e11:∀z,Fx bk 8 z=11:=fun z=>by simp [Fx]
    cases sw with
    |true=>rw [if_pos rfl,Pb hp.hy gb hbk (remM R) 8 (by omega) true,e11,e11]; simp
    |false=>rw [if_neg (by simp),Pb hp.hx ga hbk (remM R) 8 (by omega) false]
   ·have:=hsw h8
    rw [this]
    simp only [h22,decide_false,Bool.false_eq_true,if_false]
    exact Pb hp.hx ga hbk (remM R) (kcl a b) (fun e=>hv ga e (hr h8).2) false
  rcases step_ord hst hp ga gb h2 bk hbk hA hFF hr hC with h|⟨R',A',B',new,r0,r1,r2,r3⟩
  ·exact .inl h
  ·exact .inr ⟨px,py,R',A',B',new,.inl ⟨rfl,rfl⟩,r0,r1,r2,r3⟩
end
end Go.Proofs.YtckcfdggbbabfaaGreat.Ab
namespace Go.Proofs.YtckcfdggbbabfaaGreat.Ab
set_option linter.unusedVariables false
set_option linter.unusedSimpArgs false
open Go.RowKit
def pr1 (i:Nat) (a:Agent):List Pair:=match at? a.ports 0 with
 |some v=>if v.slot=0∧(i:Int)<v.agent then [⟨(i:Int),v.agent⟩] else []
 |none=>[]
def prs:Nat→List Agent→List Pair
 |_,[] =>[]
 |i,a::l=>pr1 i a++prs (i+1) l
theorem eF (i:Nat) (a:Agent):(pr1 i a).length ≤1:=by
 unfold pr1
 split
 ·split <;> simp
 ·simp
theorem UL:∀ (l:List Agent) (i:Nat),(prs i l).length ≤l.length
 | [],_=>by simp [prs]
 |a::l,i=>by
  rw [prs,List.length_append,List.length_cons]
  have:=UL l (i+1)
  have:=eF i a
  omega
theorem Pd {N} (n:Net) (h:VnN N n.agents) (hN:N≤5000000):Ek n=some (prs 1 (n.agents.drop 1)):=by
 have hl:n.agents.length≤Big:=by have:=h.len; unfold Big; omega
 have loop:∀ (post pre:List Agent) (acc:List Pair) (k:Nat),n.agents=pre++post→1≤pre.length→acc.length≤pre.length→2*post.length<k→Bd k n acc ((List.length pre:Nat):Int)=some (acc++prs pre.length post):=by
  intro post
  induction post with
  |nil=>
   intro pre acc k he h1 ha hk
   obtain⟨k,rfl⟩:∃q,k=q+1:=⟨k - 1,by omega⟩
   rw [Bd,CU he,if_neg (by simp),prs,List.append_nil]
  | cons x post ih=>
   intro pre acc k he h1 ha hk
   rw [List.length_cons] at hk
   obtain⟨k,rfl⟩:∃q,k=q+1+1:=⟨k - 2,by omega⟩
   obtain⟨gx,gk⟩:=h.ag _ x (BO he)
   have hp:=CW gx
   have hk1:x.kind≠1:=fun e=>by have:=gk.1 e; omega
   obtain⟨v,hv,-⟩:=Ef (l:=x.ports) (i:=0) (by omega)
   have hnl:pre.length<n.agents.length:=by rw [he]; simp
   have e1:pr1 pre.length x=if v.slot=0∧((List.length pre:Nat):Int)<v.agent then [⟨((List.length pre:Nat):Int),v.agent⟩] else [] :=by unfold pr1; rw [hv]
   have ih':=fun acc' ha'=>ih (pre++[x]) acc' k (Ae he) (by simp) ha' (by omega)
   rw [List.length_append,List.length_singleton] at ih'
   have hw:=Ax he hl
   rw [List.length_append,List.length_singleton] at hw
   rw [Bd,if_pos (CG he),BO he,AA,hv,AA,prs,e1]
   by_cases h0:v.slot=0
   ·rw [if_pos (by simpa using h0)]
    by_cases h2:((List.length pre:Nat):Int)<v.agent
    ·rw [if_pos (by simpa using h2),Be,if_pos (by simpa using hk1),C2 (by simp; unfold Big at hl; unfold Big; omega),AA,hw,ih' _ (by simp; omega),if_pos ⟨h0,h2⟩,List.append_assoc]
    ·rw [if_neg (by simpa using h2),Be,if_neg (by simp),hw,ih' _ (by omega),if_neg (fun e=>h2 e.2),List.nil_append]
   ·rw [if_neg (by simpa using h0),Be,if_neg (by simp),hw,ih' _ (by omega),if_neg (fun e=>h0 e.1),List.nil_append]
 have hlen:=h.len
 obtain⟨t0,tl,htl⟩:∃t0 tl,n.agents=t0::tl:=by
  cases hh:n.agents with
  |nil=>rw [hh] at hlen; simp at hlen
  |cons t0 tl=>exact⟨t0,tl,rfl⟩
 have he0:n.agents=[] ++t0::tl:=by rw [htl]; rfl
 obtain⟨gx,gk⟩:=h.ag 0 t0 (BO he0)
 have hp:=CW gx
 have hk1:t0.kind=1:=gk.2 rfl
 obtain⟨v,hv,-⟩:=Ef (l:=t0.ports) (i:=0) (by omega)
 have hd:n.agents.drop 1=tl:=by rw [htl]; rfl
 unfold Ek
 obtain⟨k,hk⟩:∃q,fuel=q+1+1:=⟨fuel - 2,by rw [Ah]⟩
 have l1:=loop tl [t0] [] k htl (by simp) (by simp) (by rw [Ah] at hk; rw [htl] at hlen; simp at hlen; omega)
 rw [List.length_singleton,List.nil_append,Int.natCast_one] at l1
 have h0:at? n.agents 0=some t0:=by have:=BO he0; simpa using this
 rw [hk,Bd,if_pos (by rw [htl]; simp),h0,AA,hv,AA,hd]
 have hj:∀b,b=false→Be (k+1) n [] 0 v b=some (prs 1 tl):=fun b hb=>by
  rw [hb,Be,if_neg (by simp),w64 (by omega) (by omega)]; exact l1
 by_cases c0:v.slot=0
 ·rw [if_pos (by simpa using c0)]
  by_cases c2:(0:Int)<v.agent
  ·rw [if_pos (by simpa using c2)]; exact hj _ (by simp [hk1])
  ·rw [if_neg (by simpa using c2)]; exact hj _ rfl
 ·rw [if_neg (by simpa using c0)]; exact hj _ rfl
theorem Zc {N} (n:Net) (h:VnN N n.agents) (hN:N≤5000000):HY n=some (prs 1 (n.agents.drop 1)):=by
 have hl:n.agents.length≤Big:=by have:=h.len; unfold Big; omega
 have loop:∀ (post pre:List Agent) (acc:List Pair) (k:Nat),n.agents=pre++post→acc.length≤pre.length→2*post.length<k→Bw k n acc ((List.length pre:Nat):Int)=some (acc++prs pre.length post):=by
  intro post
  induction post with
  |nil=>
   intro pre acc k he ha hk
   obtain⟨k,rfl⟩:∃q,k=q+1:=⟨k - 1,by omega⟩
   rw [Bw,CU he,if_neg (by simp),prs,List.append_nil]
  | cons x post ih=>
   intro pre acc k he ha hk
   rw [List.length_cons] at hk
   obtain⟨k,rfl⟩:∃q,k=q+1+1:=⟨k - 2,by omega⟩
   obtain⟨gx,gk⟩:=h.ag _ x (BO he)
   have hp:=CW gx
   have hk0:x.kind≠0:=by have:=Ka gx; omega
   obtain⟨v,hv,-⟩:=Ef (l:=x.ports) (i:=0) (by omega)
   have hnl:pre.length<n.agents.length:=by rw [he]; simp
   have e1:pr1 pre.length x=if v.slot=0∧((List.length pre:Nat):Int)<v.agent then [⟨((List.length pre:Nat):Int),v.agent⟩] else [] :=by unfold pr1; rw [hv]
   have ih':=fun acc' ha'=>ih (pre++[x]) acc' k (Ae he) ha' (by omega)
   rw [List.length_append,List.length_singleton] at ih'
   have hw:=Ax he hl
   rw [List.length_append,List.length_singleton] at hw
   rw [Bw,if_pos (CG he),BO he,AA,if_neg (by simpa using hk0),AA,hv,AA,prs,e1]
   by_cases h0:v.slot=0
   ·rw [if_pos (by simpa using h0),EN]
    by_cases h2:((List.length pre:Nat):Int)<v.agent
    ·rw [if_pos (by simpa using h2),C2 (by simp; unfold Big at hl; unfold Big; omega),AA,hw,ih' _ (by simp; omega),if_pos ⟨h0,h2⟩,List.append_assoc]
    ·rw [if_neg (by simpa using h2),hw,ih' _ (by omega),if_neg (fun e=>h2 e.2),List.nil_append]
   ·rw [if_neg (by simpa using h0),EN,if_neg (by simp),hw,ih' _ (by omega),if_neg (fun e=>h0 e.1),List.nil_append]
 have hlen:=h.len
 obtain⟨t0,tl,htl⟩:∃t0 tl,n.agents=t0::tl:=by
  cases hh:n.agents with
  |nil=>rw [hh] at hlen; simp at hlen
  |cons t0 tl=>exact⟨t0,tl,rfl⟩
 have hd:n.agents.drop 1=tl:=by rw [htl]; rfl
 unfold HY
 have l1:=loop tl [t0] [] fuel htl (by simp) (by rw [Ah]; rw [htl] at hlen; simp at hlen; omega)
 rw [List.length_singleton,List.nil_append,Int.natCast_one] at l1
 rw [l1,hd]
theorem UM:∀ (l:List Agent) (i:Nat) (p:Pair),p ∈ prs i l→∃ (j:Nat) (a:Agent) (v:Port),l[j]? =some a∧at? a.ports 0=some v∧v.slot=0∧p=⟨((i+j:Nat):Int),v.agent⟩∧p.a<v.agent
 | [],_,p,h=>by simp [prs] at h
 | a ::l,i,p,h=>by
  rw [prs] at h
  rcases List.mem_append.1 h with h|h
  ·unfold pr1 at h
   split at h
   ·rename_i v hv
    split at h
    ·rename_i hc
     rw [List.mem_singleton] at h
     subst h
     exact⟨0,a,v,rfl,hv,hc.1,rfl,hc.2⟩
    ·cases h
   ·cases h
  ·obtain⟨j,b,v,h1,h2,h3,h4,h5⟩:=UM l (i+1) p h
   exact⟨j+1,b,v,h1,h2,h3,by rw [h4]; congr 1; omega,h5⟩
theorem XO {N} {l} (h:VnN N l) {p} (hp:p ∈ prs 1 (l.drop 1)):∃a b,Pr (fun k=>k ∈ ([] :List Int)) l p.a p.b a b∧agB a=true∧agB b=true∧a.kind≠1∧b.kind≠1:=by
 obtain⟨j,a,v,h1,h2,h3,h4,h5⟩:=UM _ _ _ hp
 rw [List.getElem?_drop] at h1
 have ha:at? l p.a=some a:=by rw [h4]; exact MD h1
 have hg:Ab.get l ⟨p.a,0⟩=some ⟨p.b,0⟩:=Ay.2 ⟨a,ha,by rw [h2,h4]; exact congrArg some (B7 rfl h3)⟩
 obtain⟨-,-,g3⟩:=h.m _ _ hg not_false
 obtain⟨b,hb,-⟩:=Ay.1 g3
 have e1:p.a=((1+j:Nat):Int):=by rw [h4]
 have e2:p.b=v.agent:=by rw [h4]
 refine⟨a,b,⟨ha,hb,hg,by simp,by simp⟩,(h.ag _ _ ha).1,(h.ag _ _ hb).1,fun e=>?_,fun e=>?_⟩
 ·have:=(h.ag _ _ ha).2.1 e; omega
 ·have:=(h.ag _ _ hb).2.1 e; simp only at this; omega
end Go.Proofs.YtckcfdggbbabfaaGreat.Ab
namespace Go.Proofs.YtckcfdggbbabfaaGreat.Ab
set_option linter.unusedVariables false
set_option linter.unusedSimpArgs false
open Go.RowKit
def kp:Nat→List Agent→List Int
 |_,[] =>[]
 |i,a::l=>if a.kind=0 then kp (i+1) l else (i:Int)::kp (i+1) l
def mpz:Nat→List Int→List (Int × Int)
 |_,[] =>[]
 |j,k::l=>(k,(j:Int))::mpz (j+1) l
def ixL:Nat→List Agent→List Int
 |_,[] =>[]
 |c,a::l=>(c:Int)::ixL (if a.kind=0 then c else c+1) l
theorem XP:∀ (l:List Agent) (i:Nat),(kp i l).length ≤l.length
 | [],_=>by simp [kp]
 |a::l,i=>by
  have:=XP l (i+1)
  rw [kp,List.length_cons]
  split
  ·omega
  ·rw [List.length_cons]; omega
theorem YN:∀ (l:List Agent) (c t:Nat),t<l.length→(ixL c l)[t]? =some ((c+AT (l.take t):Nat):Int)
 | [],_,t,h=>by simp at h
 |a::l,c,0,h=>by simp [ixL,AT]
 |a::l,c,t+1,h=>by
  rw [List.length_cons] at h
  rw [ixL,List.getElem?_cons_succ,YN l _ t (by omega),List.take_succ_cons,AT]
  by_cases e:a.kind=0
  ·rw [if_pos e,if_pos e]; congr 2; omega
  ·rw [if_neg e,if_neg e]; congr 2; omega
theorem cA:∀ (l:List Agent) (i:Nat) (k:Int),k ∈ kp i l→(i:Int)≤k
 | [],_,k,h=>by simp [kp] at h
 | a::l,i,k,h=>by
  rw [kp] at h
  split at h
  ·have:=cA l (i+1) k h; omega
  ·rcases List.mem_cons.1 h with e|e
   ·omega
   ·have:=cA l (i+1) k e; omega
theorem UN:∀ (l:List Agent) (i j t:Nat) (a:Agent),l[t]? =some a→a.kind≠0→I3 (mpz j (kp i l)) ((i+t:Nat):Int)=some ((j+AT (l.take t):Nat):Int)
 | [],_,_,t,a,h,_=>by simp at h
 |b::l,i,j,0,a,h,hk=>by
  simp only [List.getElem?_cons_zero,Option.some.injEq] at h
  subst h
  rw [kp,if_neg hk,mpz,I3,if_pos (by simp)]
  simp [AT]
 | b::l,i,j,t+1,a,h,hk=>by
  rw [List.getElem?_cons_succ] at h
  rw [kp,List.take_succ_cons,AT]
  by_cases e:b.kind=0
  ·rw [if_pos e,if_pos e,show i+(t+1)=(i+1)+t from by omega,UN l (i+1) j t a h hk,Nat.zero_add]
  ·rw [if_neg e,if_neg e,mpz,I3,if_neg (by simp only; omega),show i+(t+1)=(i+1)+t from by omega,UN l (i+1) (j+1) t a h hk]
   congr 2; omega
def rnP (f:Int→Int) (q:Port):Port:=⟨f q.agent,q.slot⟩
def rnA (f:Int→Int) (a:Agent):Agent:=⟨a.kind,a.level,a.value,a.data,a.ports.map (rnP f)⟩
def C7 (f:Int→Int):List Agent→List Agent
 | [] =>[]
 |a::l=>if a.kind=0 then C7 f l else rnA f a::C7 f l
theorem Te (f:Int→Int):∀l:List Agent,(C7 f l).length ≤l.length
 | [] =>by simp [C7]
 |a::l=>by
  have:=Te f l
  rw [C7,List.length_cons]
  split
  ·omega
  ·rw [List.length_cons]; omega
theorem Zd (n:Net) (ix:List Int) (f:Int→Int) (i:Int) (x:Agent) (acc:List Agent):∀ (post pre:List Port) (k:Nat),(∀q ∈ post,at? ix q.agent=some (f q.agent))→pre.length+post.length≤Big→
  DX (post.length+1+k) n ix acc i x (pre.map (rnP f)++post) ((List.length pre:Nat):Int)=Option.bind (app? acc [⟨x.kind,x.level,x.value,x.data,(pre++post).map (rnP f)⟩]) fun v=>BS k n ix v (IntKind.i64.wrap (i+1)):=by
 intro post
 induction post with
 |nil=>
  intro pre k hq hb
  rw [show ([] :List Port).length +1+k=k+1 from by simp; omega,DX,if_neg (by simp),List.append_nil,List.append_nil]
 |cons q post ih=>
  intro pre k hq hb
  rw [List.length_cons] at hb
  have e1:((List.length pre:Nat):Int)=((List.length (pre.map (rnP f)):Nat):Int):=by rw [List.length_map]
  rw [show (q::post).length +1+k=(post.length+1+k)+1 from by simp; omega,DX,if_pos (by simp; omega),e1,F4,AA,hq q List.mem_cons_self,AA,AA,MK,AA,← e1,w64 (by unfold Big at hb; omega) (by unfold Big at hb; omega)]
  have:=ih (pre++[q]) k (fun r hr=>hq r (List.mem_cons_of_mem _ hr)) (by simp; omega)
  rw [List.map_append,List.map_singleton,List.append_assoc,List.singleton_append,List.append_assoc,List.singleton_append,List.length_append,List.length_singleton] at this
  rw [show ((List.length pre:Nat):Int)+1=((List.length pre+1:Nat):Int) from by omega]
  exact this
theorem Ze (n:Net) (keep:List Int) (mp:List (Int × Int)) (f:Int→Int) (i:Int) (x:Agent) (acc:List Agent):∀ (post pre:List Port) (k:Nat),x.ports=pre++post→(∀q ∈ post,(I3 mp q.agent).getD 0=f q.agent)→pre.length+post.length≤Big→
  Bf (post.length+1+k) n keep mp acc i x (pre.map (rnP f)++post) ((List.length pre:Nat):Int)=Option.bind (app? acc [⟨x.kind,x.level,x.value,x.data,(pre++post).map (rnP f)⟩]) fun v=>As k n keep mp v (IntKind.i64.wrap (i+1)):=by
 intro post
 induction post with
 |nil=>
  intro pre k hx hq hb
  rw [show ([] :List Port).length +1+k=k+1 from by simp; omega,Bf,if_neg (by rw [hx]; simp),List.append_nil,List.append_nil]
 |cons q post ih=>
  intro pre k hx hq hb
  rw [List.length_cons] at hb
  have e1:((List.length pre:Nat):Int)=((List.length (pre.map (rnP f)):Nat):Int):=by rw [List.length_map]
  rw [show (q::post).length +1+k=(post.length+1+k)+1 from by simp; omega,Bf,if_pos (by rw [hx]; simp; omega),e1,F4,AA,AA,hq q List.mem_cons_self,MK,AA,← e1,w64 (by unfold Big at hb; omega) (by unfold Big at hb; omega)]
  have:=ih (pre++[q]) k (by rw [hx]; simp) (fun r hr=>hq r (List.mem_cons_of_mem _ hr)) (by simp; omega)
  rw [List.map_append,List.map_singleton,List.append_assoc,List.singleton_append,List.append_assoc,List.singleton_append,List.length_append,List.length_singleton] at this
  rw [show ((List.length pre:Nat):Int)+1=((List.length pre+1:Nat):Int) from by omega]
  exact this
def posN (B:List Agent) (k:Int):Int:=((AT (B.take k.toNat):Nat):Int)
def Qr (B:List Agent):Prop:=∀ (a:Agent),a ∈ B→a.kind≠0→(a.ports.length≤4∧a.data.length≤4)∧∀q ∈ a.ports,∃b,at? B q.agent=some b∧b.kind≠0
theorem eG (B:List Agent) (hB:B.length≤16000000) (hc:Qr B):Gk ⟨B⟩=some ⟨C7 (posN B) B⟩:=by
 have hl:B.length≤Big:=by unfold Big; omega
 have hix:∀q:Port,(∃b,at? B q.agent=some b)→at? (ixL 0 B) q.agent=some (posN B q.agent):=fun q ⟨b,hb⟩=>by
  have:=C6 hb
  unfold at?
  rw [if_pos this.1,YN B 0 q.agent.toNat (by omega),Nat.zero_add]; rfl
 have l24:∀ (post pre acc:List Agent) (k:Nat),B=pre++post→acc.length≤pre.length→10*post.length<k→BS k ⟨B⟩ (ixL 0 B) acc ((List.length pre:Nat):Int)=some ⟨acc++C7 (posN B) post⟩:=by
  intro post
  induction post with
  |nil=>
   intro pre acc k h ha hk
   obtain⟨k,rfl⟩:∃q,k=q+1:=⟨k - 1,by omega⟩
   have h':(⟨B⟩:Net).agents =pre++[] :=h
   rw [BS,CU h',if_neg (by simp),C7,List.append_nil]
  | cons x post ih=>
   intro pre acc k h ha hk
   rw [List.length_cons] at hk
   have h':(⟨B⟩:Net).agents =pre++x::post:=h
   have hpl:pre.length<B.length:=by rw [h]; simp
   by_cases h0:x.kind=0
   ·obtain⟨k,rfl⟩:∃q,k=q+1:=⟨k - 1,by omega⟩
    rw [BS,if_pos (CG h'),BO h',AA,if_neg (by simp [h0]),Ax h' hl,ih (pre++[x]) acc k (Ae h) (by simp; omega) (by omega),C7,if_pos h0]
   ·obtain⟨⟨hp,hd⟩,hq⟩:=hc x (by rw [h]; simp) h0
    obtain⟨k,rfl⟩:∃q,k=(x.ports.length+1+q)+1:=⟨k - x.ports.length - 2,by omega⟩
    rw [BS,if_pos (CG h'),BO h',AA,if_pos (by simp [h0]),AA,Jm x (by unfold Big; omega) (by unfold Big; omega),AA]
    have:=Zd ⟨B⟩ (ixL 0 B) (posN B) ((List.length pre:Nat):Int) x acc x.ports [] k (fun q hq'=>hix q (by obtain⟨b,hb,-⟩:=hq q hq'; exact⟨b,hb⟩)) (by simp; unfold Big; omega)
    simp only [List.map_nil,List.nil_append,List.length_nil,Int.natCast_zero] at this
    rw [this,C2 (by simp; unfold Big; omega),AA,Ax h' hl,C7,if_neg h0]
    have e:(⟨x.kind,x.level,x.value,x.data,x.ports.map (rnP (posN B))⟩:Agent)=rnA (posN B) x:=rfl
    rw [e,ih (pre++[x]) (acc++[rnA (posN B) x]) k (Ae h) (by simp; omega) (by omega),List.append_assoc,List.singleton_append]
 have l2:∀ (post pre:List Agent) (acc:List Int) (k:Nat),B=pre++post→acc.length=pre.length→acc++ixL (AT pre) post=ixL 0 B→post.length<k→DN k ⟨B⟩ acc ((AT pre:Nat):Int) ((List.length pre:Nat):Int)=BS fuel ⟨B⟩ (ixL 0 B) [] 0:=by
  intro post
  induction post with
  |nil=>
   intro pre acc k h ha hx hk
   obtain⟨k,rfl⟩:∃q,k=q+1:=⟨k - 1,by omega⟩
   have h':(⟨B⟩:Net).agents =pre++[] :=h
   rw [ixL,List.append_nil] at hx
   rw [DN,CU h',if_neg (by simp),hx]
  | cons x post ih=>
   intro pre acc k h ha hx hk
   rw [List.length_cons] at hk
   obtain⟨k,rfl⟩:∃q,k=q+1:=⟨k - 1,by omega⟩
   have h':(⟨B⟩:Net).agents =pre++x::post:=h
   have hpl:pre.length<B.length:=by rw [h]; simp
   have hlv:=Kb pre
   have ih':=ih (pre++[x]) (acc++[((AT pre:Nat):Int)]) k (Ae h) (by simp [ha])
   rw [ixL] at hx
   rw [Iq] at ih'
   rw [DN,if_pos (CG h'),C2 (by simp; unfold Big; omega),AA,BO h',AA,Ax h' hl]
   by_cases h0:x.kind=0
   ·rw [if_neg (by simp [h0])]
    rw [show AT [x] =0 from by simp [AT,h0],Nat.add_zero] at ih'
    rw [if_pos h0] at hx
    exact ih' (by rw [List.append_assoc]; exact hx) (by omega)
   ·rw [if_pos (by simp [h0]),w64 (by omega) (by omega)]
    rw [show AT [x] =1 from by simp [AT,h0]] at ih'
    rw [if_neg h0] at hx
    rw [show ((AT pre:Nat):Int)+1=((AT pre+1:Nat):Int) from by omega]
    exact ih' (by rw [List.append_assoc]; exact hx) (by omega)
 unfold Gk
 have e:=l2 B [] [] fuel rfl rfl (by rfl) (by rw [Ah]; omega)
 simp only [AT,List.length_nil,Int.natCast_zero] at e
 have e2:=l24 B [] [] fuel rfl (by simp) (by rw [Ah]; omega)
 simp only [List.length_nil,Int.natCast_zero,List.nil_append] at e2
 rw [e,e2]
end Go.Proofs.YtckcfdggbbabfaaGreat.Ab
namespace Go.Proofs.YtckcfdggbbabfaaGreat.Ab
set_option linter.unusedVariables false
set_option linter.unusedSimpArgs false
open Go.RowKit
theorem XQ:∀ (l m:List Agent) (i:Nat),kp i (l++m)=kp i l++kp (i+l.length) m
 | [],m,i=>by simp [kp]
 |a::l,m,i=>by
  rw [List.cons_append,kp,kp,XQ l m (i+1),List.length_cons,show i+1+l.length=i+(l.length+1) from by omega]
  split
  ·rfl
  ·rfl
theorem Og:∀ (l:List Agent) (i:Nat),(kp i l).length =AT l
 | [],_=>rfl
 |a::l,i=>by
  rw [kp,AT]
  split
  ·rw [Og l]; omega
  ·rw [List.length_cons,Og l]; omega
theorem R1:∀ (l:List Agent) (i:Nat),(kp i l).Nodup
 | [],_=>by simp [kp]
 | a::l,i=>by
  rw [kp]
  split
  ·exact R1 l (i+1)
  ·refine List.nodup_cons.2 ⟨fun h=>?_,R1 l (i+1)⟩
   have:=cA l (i+1) _ h; omega
theorem eH (l:List Int) (k:Int):∀j,mpz j (l++[k])=mpz j l++[(k,((j+l.length:Nat):Int))] :=by
 induction l with
 |nil=>intro j; simp [mpz]
 |cons a l ih=>intro j; rw [List.cons_append,mpz,mpz,ih,List.length_cons,show j+1+l.length=j+(l.length+1) from by omega]; rfl
theorem V6:∀ (l:List Int) (j:Nat) (k v:Int),k ∉ l→L6 (mpz j l) k v=mpz j l++[(k,v)]
 | [],_,_,_,_=>rfl
 |a::l,j,k,v,h=>by
  rw [mpz,L6,if_neg (fun e=>h (by simp only at e; rw [e]; exact List.mem_cons_self)),V6 l (j+1) k v (fun e=>h (List.mem_cons_of_mem _ e))]; rfl
theorem YO:∀ (l:List Int) (j:Nat),(mpz j l).length =l.length
 | [],_=>rfl
 |a::l,j=>by rw [mpz,List.length_cons,YO l,List.length_cons]
section
variable {R:List Int} {X:Port→Prop} {A B:List Agent}
theorem cB (n:Net) (K:List Int) (hn:K.Nodup) (hl:K.length≤16000000):Ea n K=As fuel n K (mpz 0 K) [] 0:=by
 have hlB:K.length≤Big:=by unfold Big; omega
 have l2:∀ (post pre:List Int) (k:Nat),K=pre++post→post.length<k→Bp k n K (mpz 0 pre) ((List.length pre:Nat):Int)=As fuel n K (mpz 0 K) [] 0:=by
  intro post
  induction post with
  |nil=>
   intro pre k h hk
   obtain⟨k,rfl⟩:∃q,k=q+1:=⟨k - 1,by omega⟩
   have e:pre=K:=by rw [h,List.append_nil]
   rw [Bp,CU h,if_neg (by simp),e]
  | cons x post ih=>
   intro pre k h hk
   rw [List.length_cons] at hk
   obtain⟨k,rfl⟩:∃q,k=q+1:=⟨k - 1,by omega⟩
   have hx:x ∉ pre:=fun e=>by
    rw [h,List.nodup_append] at hn
    exact hn.2.2 x e x List.mem_cons_self rfl
   have hpl:pre.length<K.length:=by rw [h]; simp
   have e1:QF (mpz 0 pre) x ((List.length pre:Nat):Int)=some (mpz 0 (pre++[x])):=by
    unfold QF
    rw [if_pos (by rw [YO]; omega),V6 _ _ _ _ hx,eH,Nat.zero_add]
   rw [Bp,if_pos (CG h),BO h,AA,e1,AA,Ax h hlB]
   exact ih (pre++[x]) k (Ae h) (by omega)
 unfold Ea
 exact l2 K [] fuel rfl (by rw [Ah]; omega)
theorem kC (hok:Ok (fun k=>k ∈ R) X A B) (hkn:∀ (k:Int) a,at? B k=some a→(a.kind=0↔k ∈ R)) (hB:B.length≤16000000) (hc:Qr B):Ea ⟨A⟩ (kp 0 B)=some ⟨C7 (posN B) B⟩:=by
 have hKl:(kp 0 B).length ≤16000000:=by have:=XP B 0; omega
 rw [cB ⟨A⟩ (kp 0 B) (R1 B 0) hKl]
 have hmp:∀q:Port,(∃b,at? B q.agent=some b∧b.kind≠0)→(I3 (mpz 0 (kp 0 B)) q.agent).getD 0=posN B q.agent:=fun q ⟨b,hb,hk⟩=>by
  obtain⟨h1,h2⟩:=A9 hb
  have:=UN B 0 0 q.agent.toNat b h2 hk
  rw [Nat.zero_add,Nat.zero_add,Int.toNat_of_nonneg h1] at this
  rw [this]; rfl
 have l24:∀ (post pre:List Agent) (acc:List Agent) (k:Nat),B=pre++post→acc.length≤pre.length→10*post.length<k→As k ⟨A⟩ (kp 0 B) (mpz 0 (kp 0 B)) acc ((AT pre:Nat):Int)=some ⟨acc++C7 (posN B) post⟩:=by
  intro post
  induction post with
  |nil=>
   intro pre acc k h ha hk
   obtain⟨k,rfl⟩:∃q,k=q+1:=⟨k - 1,by omega⟩
   have e:pre=B:=by rw [h,List.append_nil]
   rw [As,if_neg (by rw [Og,e]; simp),C7,List.append_nil]
  | cons x post ih=>
   intro pre acc k h ha hk
   rw [List.length_cons] at hk
   have hpl:pre.length<B.length:=by rw [h]; simp
   have hlv:=Kb pre
   by_cases h0:x.kind=0
   ·have:=ih (pre++[x]) acc k (Ae h) (by simp; omega) (by omega)
    rw [Iq,show AT [x] =0 from by simp [AT,h0],Nat.add_zero] at this
    rw [this,C7,if_pos h0]
   ·obtain⟨⟨hp,hd⟩,hq⟩:=hc x (by rw [h]; simp) h0
    obtain⟨k,rfl⟩:∃q,k=(x.ports.length+1+q)+1:=⟨k - x.ports.length - 2,by omega⟩
    have hb:at? B ((List.length pre:Nat):Int)=some x:=BO h
    have hna:((List.length pre:Nat):Int) ∉ R:=fun e=>h0 ((hkn _ _ hb).2 e)
    have hav:at? A ((List.length pre:Nat):Int)=some x:=(hok.ag _ hna).trans hb
    have hK:kp 0 B=kp 0 pre++((List.length pre:Nat):Int)::kp (pre.length+1) post:=by
     rw [h,XQ,Nat.zero_add,kp,if_neg h0]
    have hat:at? (kp 0 B) ((AT pre:Nat):Int)=some ((List.length pre:Nat):Int):=by
     rw [hK,← Og pre 0]; exact F4
    have hlt:decide (((AT pre:Nat):Int)<(((kp 0 B).length :Nat):Int))=true:=by
     rw [hK,← Og pre 0]; simp; omega
    rw [As,if_pos hlt,hat,AA,hav,AA,Of x ⟨by unfold Big; omega,by unfold Big; omega⟩,AA]
    have:=Ze ⟨A⟩ (kp 0 B) (mpz 0 (kp 0 B)) (posN B) ((AT pre:Nat):Int) x acc x.ports [] k rfl (fun q hq'=>hmp q (hq q hq')) (by simp; unfold Big; omega)
    simp only [List.map_nil,List.nil_append,List.length_nil,Int.natCast_zero] at this
    rw [this,C2 (by simp; unfold Big; omega),AA,w64 (by omega) (by omega),C7,if_neg h0]
    have e:(⟨x.kind,x.level,x.value,x.data,x.ports.map (rnP (posN B))⟩:Agent)=rnA (posN B) x:=rfl
    have ih':=ih (pre++[x]) (acc++[rnA (posN B) x]) k (Ae h) (by simp; omega) (by omega)
    rw [Iq,show AT [x] =1 from by simp [AT,h0]] at ih'
    rw [e,show ((AT pre:Nat):Int)+1=((AT pre+1:Nat):Int) from by omega,ih',List.append_assoc,List.singleton_append]
 have:=l24 B [] [] fuel rfl (by simp) (by rw [Ah]; omega)
 simp only [AT,Int.natCast_zero,List.nil_append] at this
 exact this
theorem Zf (hok:Ok (fun k=>k ∈ R) X A B) (hkn:∀ (k:Int) a,at? B k=some a→(a.kind=0↔k ∈ R)) (hB:B.length≤16000000) (hc:Qr B) (bk:List Net):Bq ⟨⟨A⟩,bk,remM R⟩=some ⟨C7 (posN B) B⟩:=by
 have hlen:=hok.len
 have l2:∀ (post pre:List Agent) (acc:List Int) (k:Nat),B=pre++post→acc=kp 0 pre→post.length<k→BD k ⟨⟨A⟩,bk,remM R⟩ acc ((List.length pre:Nat):Int)=some ⟨C7 (posN B) B⟩:=by
  intro post
  induction post with
  |nil=>
   intro pre acc k h ha hk
   obtain⟨k,rfl⟩:∃q,k=q+1:=⟨k - 1,by omega⟩
   have e:pre=B:=by rw [h,List.append_nil]
   rw [BD,if_neg (by rw [e]; simp; omega),ha,e,kC hok hkn hB hc,AA]
  | cons x post ih=>
   intro pre acc k h ha hk
   rw [List.length_cons] at hk
   obtain⟨k,rfl⟩:∃q,k=q+1:=⟨k - 1,by omega⟩
   have hpl:pre.length<B.length:=by rw [h]; simp
   have hb:at? B ((List.length pre:Nat):Int)=some x:=BO h
   have hal:=XP pre 0
   have hiff:=hkn _ _ hb
   have hkp:kp 0 (pre++[x])=if x.kind=0 then kp 0 pre else kp 0 pre++[((List.length pre:Nat):Int)] :=by
    rw [XQ,Nat.zero_add,kp,kp]; split <;> simp
   rw [BD,if_pos (by simp; omega),V3]
   by_cases h0:x.kind=0
   ·rw [if_neg (by simp [hiff.1 h0]),w64 (by omega) (by omega)]
    have:=ih (pre++[x]) acc k (Ae h) (by rw [hkp,if_pos h0,ha]) (by omega)
    rw [List.length_append,List.length_singleton] at this
    rw [show ((List.length pre:Nat):Int)+1=((List.length pre+1:Nat):Int) from by omega]
    exact this
   ·rw [if_pos (by simp; exact fun e=>h0 (hiff.2 e)),C2 (by rw [ha]; simp; unfold Big; omega),AA,w64 (by omega) (by omega)]
    have:=ih (pre++[x]) (acc++[((List.length pre:Nat):Int)]) k (Ae h) (by rw [hkp,if_neg h0,ha]) (by omega)
    rw [List.length_append,List.length_singleton] at this
    rw [show ((List.length pre:Nat):Int)+1=((List.length pre+1:Nat):Int) from by omega]
    exact this
 unfold Bq
 exact l2 B [] [] fuel rfl rfl (by rw [Ah]; omega)
theorem Stt.kinds (h:Stt R A B):∀ (k:Int) a,at? B k=some a→(a.kind=0↔k ∈ R):=fun k a ha=>by
 constructor
 ·intro h0
  by_cases hr:k ∈ R
  ·exact hr
  ·exfalso
   have e:=(h.ok.ag k hr).trans ha
   exact(h.nb a (List.mem_of_getElem? (A9 e).2)).2.2 h0
 ·intro hr
  have:=h.ok.hl k hr
  rw [ha] at this
  cases this
  rfl
theorem Stt.closed (h:Stt R A B):Qr B:=fun a ha h0=>by
 obtain⟨i,hi,rfl⟩:=List.getElem_of_mem ha
 have hb:at? B (i:Int)=some B[i] :=MD (by rw [List.getElem?_eq_getElem hi])
 have hr:((i:Nat):Int) ∉ R:=fun e=>h0 ((h.kinds _ _ hb).2 e)
 have hA:=(h.ok.ag _ hr).trans hb
 have hn:=h.nb _ (List.mem_of_getElem? (A9 hA).2)
 refine⟨⟨hn.2.1,hn.1⟩,fun q hq=>?_⟩
 obtain⟨s,hs,e⟩:=List.getElem_of_mem hq
 have hg:Ab.get A ⟨(i:Int),(s:Int)⟩=some q:=Ay.2 ⟨_,hA,MD (by rw [List.getElem?_eq_getElem hs,e])⟩
 obtain⟨h1,-,h3⟩:=h.ok.m _ _ hg hr
 obtain⟨b,hb2,-⟩:=Ay.1 h3
 exact⟨b,(h.ok.ag _ h1).symm.trans hb2,(h.nb b (List.mem_of_getElem? (A9 hb2).2)).2.2⟩
theorem Stt.result (h:Stt R A B) (hB:A.length≤16000000) (bk:List Net):Bq ⟨⟨A⟩,bk,remM R⟩=some ⟨C7 (posN B) B⟩∧Gk ⟨B⟩=some ⟨C7 (posN B) B⟩:=by
 have hl:=h.ok.len
 exact⟨Zf h.ok h.kinds (by omega) h.closed bk,eG B (by omega) h.closed⟩
end
end Go.Proofs.YtckcfdggbbabfaaGreat.Ab
namespace Go.Proofs.YtckcfdggbbabfaaGreat.Ab
set_option linter.unusedVariables false
set_option linter.unusedSimpArgs false
open Go.RowKit
theorem eI {α:Type} {l:List α} {p:α→Bool}:l.any (fun x=> !p x)= !l.all p:=by
 induction l with
 |nil=>rfl
 |cons x l ih=>simp [ih]
def MM (l:List Net):Bool:=decide (l.length≤24)&&l.all Net.valid
theorem V7 (l:List Net) (f:Net→Option Bool) (p:Net→Bool) (hl:l.length≤Big) (hf:∀x ∈ l,f x=some (p x)):B6 l f=some (l.any p):=by
 obtain⟨i,h1,h2,-⟩:=K6 BH (fun n l i f=>by rw [BH]) l f p hl hf
 unfold B6 Du
 rw [h1,AA]
 congr 1
 rw [Bool.eq_iff_iff,decide_eq_true_eq]; exact h2
theorem Zg (l:List Net) (hl:l.length≤Big) (hs:∀n ∈ l,n.Small):Ed l=some (MM l):=by
 unfold Ed MM
 rw [V7 l _ (fun n=> !n.valid) hl (fun n hn=>by unfold E1; rw [YG n (hs n hn),AA]),eI,AA,Bool.not_not]
 have e:decide (((List.length l:Nat):Int)≤24)=decide (l.length≤24):=by congr 1; exact propext (by omega)
 rw [e]
 cases decide (l.length≤24) <;> simp
theorem Zh (l:List Net) (hl:l.length≤Big) (hs:∀n ∈ l,n.Small):KO l=some (MM l):=by
 unfold KO MM
 rw [jt (fun n i=>E2 n l i) K3 Net.valid l (fun n i=>by rw [E2]) hl fun n hn=>YC n (hs n hn)]
 by_cases h:l.length≤24
 ·have e:¬ (24:Int)<((List.length l:Nat):Int):=by omega
  simp [e,h]
 ·have e:(24:Int)<((List.length l:Nat):Int):=by omega
  simp [e,h]
theorem Zi {l} (h:MM l=true):∀T ∈ l,Vn T.agents:=fun T hT=>by
 unfold MM at h
 rw [Bool.and_eq_true,List.all_eq_true] at h
 exact Net.valid_vn (h.2 T hT)
end Go.Proofs.YtckcfdggbbabfaaGreat.Ab
