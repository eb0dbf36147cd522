/-
  Nets that are rewritten: ports, wires, links. No program is in sight.
-/
import Derived.Test.YteckcjgpnegkjaaGreatDoorModG
import Derived.Test.YteckcjgpnegkjaaGreatDoorPlNet
namespace Go.Proofs.YteckcjgpnegkjaaGreatDoor.Ab
set_option linter.unusedVariables false
set_option maxHeartbeats 1000000
set_option linter.unusedSimpArgs false
open Go.RowKit
theorem Ca {p q:Port} (h1:p.agent=q.agent) (h2:p.slot=q.slot):p=q:=by cases p; simp_all
instance:DecidableEq Port:=fun p q=>if h:p.agent=q.agent∧p.slot=q.slot then isTrue (Ca h.1 h.2) else isFalse fun e=>h ⟨by rw [e],by rw [e]⟩
theorem LU {α:Type} {l:List α} {k:Nat} {x:α} (h:l[k]? =some x):at? l (k:Int)=some x:=by
 grind [at?]
theorem Cq {α:Type} {l:List α} {i:Int} {x:α} (h:at? l i=some x):0≤i∧i<(l.length:Int):=by
 obtain⟨h1,h2⟩:=BN h
 grind
theorem Tf {α:Type} {l:List α} {i j:Int} {x y:α} (h:at? l i=some x):at? (l.set i.toNat y) j=if j=i then some y else at? l j:=by
 grind [at?]
abbrev get (l:List Agent) (p:Port):Option Port:=FW l p
theorem Aw {l} {p q}:get l p=some q↔∃a,at? l p.agent=some a∧at? a.ports p.slot=some q:=by
 grind [FW,Option.bind_eq_some_iff]
def upd (l:List Agent) (p q:Port):List Agent:=match at? l p.agent with
 |some a=>l.set p.agent.toNat ⟨a.kind,a.level,a.value,a.data,a.ports.set p.slot.toNat q⟩
 |none=>l
theorem KS {l} {p q} {a} (h:at? l p.agent=some a):upd l p q=l.set p.agent.toNat ⟨a.kind,a.level,a.value,a.data,a.ports.set p.slot.toNat q⟩:=by unfold upd; rw [h]
theorem YL {l} {p q}:(upd l p q).length =l.length:=by
 unfold upd; split <;> simp
theorem NI {l:List Agent} {p q:Port} {a:Agent} (h:at? l p.agent=some a) {k:Int}:at? (upd l p q) k=if k=p.agent then some ⟨a.kind,a.level,a.value,a.data,a.ports.set p.slot.toNat q⟩ else at? l k:=by
 rw [KS h,Tf h]
theorem N1 {l:List Agent} {p q r:Port} {v:Port} (h:get l p=some v):get (upd l p q) r=if r=p then some q else get l r:=by
 obtain⟨a,h1,h2⟩:=Aw.1 h
 unfold get FW
 rw [NI h1]
 grind [Tf,Ca]
def sh (a:Agent):Int × Int × Int × List Int × Nat:=(a.kind,a.level,a.value,a.data,a.ports.length)
theorem cQ {l} {p q}:(upd l p q).map sh=l.map sh:=by
 unfold upd
 split
 ·rename_i a h
  obtain⟨h1,h2⟩:=BN h
  rw [List.map_set]
  have:sh ⟨a.kind,a.level,a.value,a.data,a.ports.set p.slot.toNat q⟩=sh a:=by simp [sh]
  rw [this]
  refine List.ext_getElem? fun i=>?_
  rw [List.getElem?_set]
  grind
 ·rfl
def lk (l:List Agent) (p q:Port):List Agent:=upd (upd l p q) q p
theorem NJ {l} {p q}:(lk l p q).length =l.length:=by unfold lk; rw [YL,YL]
theorem VX {l} {p q}:(lk l p q).map sh=l.map sh:=by unfold lk; rw [cQ,cQ]
theorem Tg {l} {p q r u v} (hp:get l p=some u) (hq:get l q=some v):get (lk l p q) r=if r=q then some p else if r=p then some q else get l r:=by
 grind [lk,N1]
theorem G3 {l} {p q u v} (hp:get l p=some u) (hq:get l q=some v):s_l11Link ⟨l⟩ p q=some ⟨lk l p q⟩:=by
 obtain⟨a,h1,h2⟩:=Aw.1 hp
 have h3:∃v',get (upd l p q) q=some v':=by
  rw [N1 hp]; grind
 obtain⟨v',h3⟩:=h3
 obtain⟨b,h4,h5⟩:=Aw.1 h3
 unfold s_l11Link C0 VK
 simp only
 rw [h1,AA,h2,AA,AA,AA,← KS h1,h4,AA,h5,AA,AA,AA,← KS h4]
 rfl
theorem Js (n:Net) (p q:Port):CI n p q=s_l11Link n p q:=rfl
theorem LV {l:List Agent} {p q a b u v:Port} (hne:p≠q) (hp:get l p=some u) (hq:get l q=some v):upd (upd l p a) q b=upd (upd l q b) p a:=by
 obtain⟨x,h1,h2⟩:=Aw.1 hp
 obtain⟨y,h3,h4⟩:=Aw.1 hq
 obtain⟨n1,-⟩:=BN h1
 obtain⟨n3,-⟩:=BN h3
 obtain⟨n2,-⟩:=BN h2
 obtain⟨n4,-⟩:=BN h4
 by_cases e:q.agent=p.agent
 ·have hxy:y=x:=by rw [e,h1] at h3; grind
  subst hxy
  have hs:p.slot≠q.slot:=fun e2=>hne (Ca e.symm e2)
  have k1:at? (upd l p a) q.agent=some ⟨y.kind,y.level,y.value,y.data,y.ports.set p.slot.toNat a⟩:=by rw [NI h1,if_pos e]
  have k2:at? (upd l q b) p.agent=some ⟨y.kind,y.level,y.value,y.data,y.ports.set q.slot.toNat b⟩:=by rw [NI h3,if_pos e.symm]
  rw [KS k1,KS k2,KS h1,KS h3,e,List.set_set,List.set_set]
  simp only
  rw [List.set_comm _ _ (by omega)]
 grind [upd,NI,List.set_comm]
theorem Th {l} {p q u v} (hp:get l p=some u) (hq:get l q=some v):lk l p q=lk l q p:=by
 by_cases e:p=q
 ·grind
 ·exact LV e hp hq
theorem N2 {l} {p q} (h:get l p=some q):F5 ⟨l⟩ p=some q:=by
 grind [Aw,F5]
theorem RA (n:Net) (p:Port):Ct n p=F5 n p:=rfl
def mv (l:List Agent) (old now:Port):List Agent:=match get l old with
 |some v=>lk l now v
 |none=>l
theorem fL {l} {o n v u u'} (ho:get l o=some v) (hv:get l v=some u) (hn:get l n=some u'):Bj ⟨l⟩ o n=some ⟨mv l o n⟩:=by
 grind [Bj,mv,N2,G3]
theorem Ti {l} {b} {r} {o n v u u'} (ho:get l o=some v) (hv:get l v=some u) (hn:get l n=some u'):AU ⟨⟨l⟩,b,r⟩ o n=some ⟨⟨mv l o n⟩,b,r⟩:=by
 unfold AU mv
 simp only
 rw [RA,N2 ho,AA,Js,G3 hv hn,AA,ho,Th hv hn]
def jn (l:List Agent) (p q:Port):List Agent:=match get l p,get l q with
 |some a,some b=>if a=q then l else lk l a b
 |_,_=>l
theorem VY (a q:Port):(decide (a.agent=q.agent)&&decide (a.slot=q.slot))=decide (a=q):=by
 grind [Ca]
theorem fM {l} {p q a b u v} (hp:get l p=some a) (hq:get l q=some b) (ha:get l a=some u) (hb:get l b=some v):FO ⟨l⟩ p q=some ⟨jn l p q⟩:=by
 grind [FO,jn,N2,VY,G3]
theorem cR {l} {bk} {r} {p q a b u v} (hp:get l p=some a) (hq:get l q=some b) (ha:get l a=some u) (hb:get l b=some v):B7 ⟨⟨l⟩,bk,r⟩ p q=some ⟨⟨jn l p q⟩,bk,r⟩:=by
 grind [B7,jn,RA,N2,VY,Js,G3]
def M (l:List Agent) (X:Port→Prop):Prop:=∀p q,get l p=some q→¬X p→¬X q∧q≠p∧get l q=some p
theorem M.mono {l} {X Y} (h:M l X) (hxy:∀p,X p↔Y p):M l Y:=fun p q hp hx=>by
 obtain⟨h1,h2,h3⟩:=h p q hp fun h=>hx ((hxy p).1 h)
 grind
theorem M.drop {l} {X} (h:M l X) {p q} (hp:get l p=some q) (hx:¬X p):M l fun r=>X r∨r=p∨r=q:=fun r s hr hn=>by
 obtain⟨h1,h2,h3⟩:=h r s hr fun h=>hn (.inl h)
 obtain⟨k1,k2,k3⟩:=h p q hp hx
 grind
theorem JB {l} {p q r u v} (hp:get l p=some u) (hq:get l q=some v) (h1:r≠p) (h2:r≠q):get (lk l p q) r=get l r:=by rw [Tg hp hq,if_neg h2,if_neg h1]
theorem M.link {l} {X} (h:M l X) {p q u v} (hp:get l p=some u) (hq:get l q=some v) (hne:p≠q) (xp:X p) (xq:X q):M (lk l p q) fun r=>X r∧r≠p∧r≠q:=fun r s hr hn=>by
 rw [Tg hp hq] at hr
 by_cases e1:r=q
 ·grind [Tg]
 ·rw [if_neg e1] at hr
  by_cases e2:r=p
  ·grind [Tg]
  ·rw [if_neg e2] at hr
   have hnx:¬X r:=fun h=>hn ⟨h,e2,e1⟩
   obtain⟨h1,h2,h3⟩:=h r s hr hnx
   have n1:s≠p:=fun e=>h1 (e ▸ xp)
   grind [JB]
theorem M.move {l} {X} (h:M l X) {o n v u'} (ho:get l o=some v) (xo:¬X o) (hn:get l n=some u') (xn:X n):M (mv l o n) fun r=>(X r∨r=o)∧r≠n:=by
 obtain⟨k1,k2,k3⟩:=h o v ho xo
 have hnv:n≠v:=fun e=>k1 (e ▸ xn)
 have:=(h.drop ho xo).link hn k3 hnv (.inl xn) (.inr (.inr rfl))
 grind [mv]
theorem M.join {l} {X} (h:M l X) {p q a b} (hp:get l p=some a) (hq:get l q=some b) (xp:¬X p) (xq:¬X q) (hne:p≠q):M (jn l p q) fun r=>X r∨r=p∨r=q:=by
 obtain⟨k1,k2,k3⟩:=h p a hp xp
 obtain⟨m1,m2,m3⟩:=h q b hq xq
 unfold jn
 rw [hp,hq]
 by_cases e:a=q
 ·subst e
  simp only [if_pos rfl]
  exact h.drop hp xp
 ·simp only [if_neg e]
  have hab:a≠b:=fun e2=>by rw [e2,m3] at k3; grind
  have hqa:¬ (X q∨q=p∨q=a):=fun hx=>by
   grind
  have h2:=((h.drop hp xp).drop hq hqa).link k3 m3 hab (.inl (.inr (.inr rfl))) (.inr (.inr rfl))
  grind
theorem Az {p:Port} {a s:Int}:p=⟨a,s⟩↔p.agent=a∧p.slot=s:=⟨fun h=>by grind,fun h=>Ca h.1 h.2⟩
def cS:Agent:=⟨0,0,0,[],[]⟩
structure Ok (S:Int→Prop) (X:Port→Prop) (A B:List Agent):Prop where
 len:A.length=B.length
 ag:∀k,¬S k→at? A k=at? B k
 hl:∀k,S k→at? B k=some cS
 m:M A X
 sx:∀p,S p.agent→X p
section
variable {S:Int→Prop} {X:Port→Prop} {A B:List Agent}
theorem Ok.mono {Y} (h:Ok S X A B) (hxy:∀p,X p↔Y p):Ok S Y A B:=⟨h.len,h.ag,h.hl,h.m.mono hxy,fun p hp=>(hxy p).1 (h.sx p hp)⟩
theorem Ok.get (h:Ok S X A B) {p} (hp:¬S p.agent):get B p=get A p:=by
 unfold Ab.get FW; rw [h.ag _ hp]
theorem Ok.live (h:Ok S X A B) {p} (hp:¬X p):¬S p.agent:=fun hs=>hp (h.sx p hs)
theorem Ok.s_lt (h:Ok S X A B) {k} (hk:S k):0≤k∧k<(A.length:Int):=by
 have:=Cq (h.hl k hk); rw [h.len]; omega
theorem mt {l} {p q u v} (hp:Ab.get l p=some u) (hq:Ab.get l q=some v) {k} (h1:k≠p.agent) (h2:k≠q.agent):at? (lk l p q) k=at? l k:=by
 unfold lk
 have h2':∃v',Ab.get (upd l p q) q=some v':=by
  rw [N1 hp]; grind
 obtain⟨v',h3⟩:=h2'
 obtain⟨a,h4,-⟩:=Aw.1 hp
 obtain⟨b,h5,-⟩:=Aw.1 h3
 rw [NI h5,if_neg h2,NI h4,if_neg h1]
theorem cT {A B} {p q} {k} (hp:at? A p.agent=at? B p.agent) (hk:at? A k=at? B k):at? (upd A p q) k=at? (upd B p q) k:=by
 grind [upd,NI]
theorem fN {A B} {p q} {k} (hp:at? A p.agent=at? B p.agent) (hq:at? A q.agent=at? B q.agent) (hk:at? A k=at? B k):at? (lk A p q) k=at? (lk B p q) k:=by
 grind [lk,cT]
theorem Ok.lk' (h:Ok S X A B) {p q u v} (hp:Ab.get A p=some u) (hq:Ab.get A q=some v) (sp:¬S p.agent) (sq:¬S q.agent) {Y} (hm:M (lk A p q) Y) (hy:∀r,S r.agent→Y r):Ok S Y (lk A p q) (lk B p q):=by
 refine⟨by rw [NJ,NJ]; exact h.len,fun k hk=>fN (h.ag _ sp) (h.ag _ sq) (h.ag k hk),fun k hk=>?_,hm,hy⟩
 rw [mt ((h.get sp).trans hp) ((h.get sq).trans hq) (fun e=>sp (e ▸ hk)) (fun e=>sq (e ▸ hk))]
 exact h.hl k hk
theorem Ok.link (h:Ok S X A B) {p q u v} (hp:Ab.get A p=some u) (hq:Ab.get A q=some v) (hne:p≠q) (xp:X p) (xq:X q) (sp:¬S p.agent) (sq:¬S q.agent):
  CI ⟨A⟩ p q=some ⟨lk A p q⟩∧CI ⟨A⟩ q p=some ⟨lk A p q⟩∧s_l11Link ⟨B⟩ p q=some ⟨lk B p q⟩∧s_l11Link ⟨B⟩ q p=some ⟨lk B p q⟩∧Ok S (fun r=>X r∧r≠p∧r≠q) (lk A p q) (lk B p q):=by
 have hp':=(h.get sp).trans hp
 have hq':=(h.get sq).trans hq
 refine⟨by rw [Js,G3 hp hq],by rw [Js,G3 hq hp,Th hq hp],G3 hp' hq',by rw [G3 hq' hp',Th hq' hp'],h.lk' hp hq sp sq (h.m.link hp hq hne xp xq) fun r hr=>⟨h.sx r hr,fun e=>sp (e ▸ hr),fun e=>sq (e ▸ hr)⟩⟩
theorem Ok.move (h:Ok S X A B) {o n v u} (ho:Ab.get A o=some v) (xo:¬X o) (hn:Ab.get A n=some u) (xn:X n) (sn:¬S n.agent):
  (∀b r,AU ⟨⟨A⟩,b,r⟩ o n=some ⟨⟨mv A o n⟩,b,r⟩)∧Bj ⟨B⟩ o n=some ⟨mv B o n⟩∧Ok S (fun r=>(X r∨r=o)∧r≠n) (mv A o n) (mv B o n)∧(mv A o n).length =A.length∧(mv A o n).map sh=A.map sh:=by
 obtain⟨k1,k2,k3⟩:=h.m o v ho xo
 have so:=h.live xo
 have sv:=h.live k1
 have hm:=h.m.move ho xo hn xn
 have ho':=(h.get so).trans ho
 have hv':=(h.get sv).trans k3
 have hn':=(h.get sn).trans hn
 refine⟨fun b r=>Ti ho k3 hn,fL ho' hv' hn',?_,?_,?_⟩
 ·have e1:mv A o n=lk A n v:=by unfold mv; rw [ho]
  have e2:mv B o n=lk B n v:=by unfold mv; rw [ho']
  rw [e1] at hm ⊢
  rw [e2]
  exact h.lk' hn k3 sn sv hm fun r hr=>⟨.inl (h.sx r hr),fun e=>sn (e ▸ hr)⟩
 ·grind [mv,NJ]
 grind [mv,VX]
theorem Ok.join (h:Ok S X A B) {p q a b} (hp:Ab.get A p=some a) (hq:Ab.get A q=some b) (xp:¬X p) (xq:¬X q) (hne:p≠q):
  (∀bk r,B7 ⟨⟨A⟩,bk,r⟩ p q=some ⟨⟨jn A p q⟩,bk,r⟩)∧FO ⟨B⟩ p q=some ⟨jn B p q⟩∧Ok S (fun r=>X r∨r=p∨r=q) (jn A p q) (jn B p q)∧(jn A p q).length =A.length∧(jn A p q).map sh=A.map sh:=by
 obtain⟨k1,k2,k3⟩:=h.m p a hp xp
 obtain⟨m1,m2,m3⟩:=h.m q b hq xq
 have sp:=h.live xp
 have sq:=h.live xq
 have sa:=h.live k1
 have sb:=h.live m1
 have hm:=h.m.join hp hq xp xq hne
 have hp':=(h.get sp).trans hp
 have hq':=(h.get sq).trans hq
 refine⟨fun bk r=>cR hp hq k3 m3,fM hp' hq' ((h.get sa).trans k3) ((h.get sb).trans m3),?_,?_,?_⟩
 ·have e1:jn A p q=if a=q then A else lk A a b:=by unfold jn; rw [hp,hq]
  have e2:jn B p q=if a=q then B else lk B a b:=by unfold jn; rw [hp',hq']
  rw [e1] at hm ⊢
  rw [e2]
  by_cases e:a=q
  ·rw [if_pos e] at hm ⊢
   rw [if_pos e]
   exact⟨h.len,h.ag,h.hl,hm,fun r hr=>.inl (h.sx r hr)⟩
  ·rw [if_neg e] at hm ⊢
   rw [if_neg e]
   exact h.lk' k3 m3 sa sb hm fun r hr=>.inl (h.sx r hr)
 ·grind [jn,NJ]
 grind [jn,VX]
theorem N3 {α:Type} {l:List α} {x:α} {k:Int}:at? (l++[x]) k=if k=(l.length:Int) then some x else at? l k:=by
 grind [at?]
theorem Jt {l:List Agent} {x:Agent} {p:Port}:Ab.get (l++[x]) p=if p.agent=(l.length:Int) then at? x.ports p.slot else Ab.get l p:=by
 unfold Ab.get FW
 rw [N3]
 split <;> rfl
def newA (k lv v:Int) (d:List Int) (n:Nat):Agent:=⟨k,lv,v,d,List.replicate n ⟨0,0⟩⟩
theorem Ok.add (h:Ok S X A B) (a:Agent):Ok S (fun p=>X p∨p.agent=(A.length:Int)) (A++[a]) (B++[a]):=by
 refine⟨by rw [List.length_append,List.length_append,h.len],fun k hk=>by rw [N3,N3,h.len,h.ag k hk],fun k hk=>?_,fun p q hp hx=>?_,fun p hp=>.inl (h.sx p hp)⟩
 ·have:=h.s_lt hk
  rw [N3,if_neg (by rw [← h.len]; omega)]; exact h.hl k hk
 ·have h1:p.agent≠(A.length:Int):=fun e=>hx (.inr e)
  rw [Jt,if_neg h1] at hp
  obtain⟨k1,k2,k3⟩:=h.m p q hp fun e=>hx (.inl e)
  obtain⟨b,hb,-⟩:=Aw.1 k3
  have:=Cq hb
  grind [Jt]
theorem XE (d:List Int) (hd:d.length≤Big):HI d=some d:=by
 grind [HI,CO]
theorem Sx (d:List Int) (hd:d.length≤Big):DI d=some d:=by
 grind [DI,CO]
theorem Sy (d:List Port) (hd:d.length≤Big):Cc d=some d:=by
 grind [Cc,CO]
theorem YM (l:List Agent) (b:List Net) (r:List (Int × Bool)) (k lv v:Int) (d:List Int) (n:Nat) (hl:l.length+1≤Big) (hd:d.length≤Big) (hn:n≤Big):Ag ⟨⟨l⟩,b,r⟩ k lv v d (n:Int)=some ((l.length:Int),⟨⟨l++[newA k lv v d n]⟩,b,r⟩):=by
 unfold Ag newA
 grind [Sx,Q8,CO,w64]
theorem Zc (net:Net) (k lv v:Int) (d:List Int) (hl:net.agents.length+1≤Big):∀ (n m:Nat) (acc:List Port),acc.length+n≤Big→n<m→EG m net k lv v d acc (n:Int)=some ((net.agents.length:Int),⟨net.agents++[⟨k,lv,v,d,acc++List.replicate n ⟨0,0⟩⟩]⟩):=by
 intro n
 induction n with
 |zero=>
  intro m acc ha hm
  obtain⟨m,rfl⟩:∃k,m=k+1:=⟨m - 1,by omega⟩
  rw [EG,if_neg (by simp),CO (by omega),AA,List.length_append,List.length_singleton,w64 (by omega) (by grind)]
  simp
 |succ n ih=>
  intro m acc ha hm
  obtain⟨m,rfl⟩:∃k,m=k+1:=⟨m - 1,by omega⟩
  rw [EG,if_pos (by simp),CO (by grind),AA,w64 (by omega) (by grind),show (((n+1:Nat):Int) - 1)=(n:Int) from by omega,ih m _ (by grind) (by omega),List.append_assoc,List.replicate_succ]
  rfl
theorem fO (l:List Agent) (k lv v:Int) (d:List Int) (n:Nat) (hl:l.length+1≤Big) (hd:d.length≤Big) (hn:n≤Big):CZ ⟨l⟩ k lv v d (n:Int)=some ((l.length:Int),⟨l++[newA k lv v d n]⟩):=by
 grind [CZ,newA,XE,Zc,Af]
theorem Ow {l} {k s} {x} (h:at? (l.map sh) k=some x) (h0:0≤s) (hs:s<(x.2.2.2.2 :Int)):∃u,Ab.get l ⟨k,s⟩=some u:=by
 obtain⟨h1,h2⟩:=BN h
 rw [List.getElem?_map] at h2
 cases ha:l[k.toNat]? with
 |none=>rw [ha] at h2; cases h2
 |some a=>
  rw [ha] at h2
  simp only [Option.map_some,Option.some.injEq] at h2
  subst h2
  obtain⟨u,hu,-⟩:=EA (l:=a.ports) (i:=s) ⟨h0,hs⟩
  grind [Aw,at?]
theorem DX {l} {k} {a} (h:at? l k=some a):at? (l.map sh) k=some (sh a):=by
 grind [at?]
theorem LW {l} {k} {x} (h:at? (l.map sh) k=some x):∃a,at? l k=some a∧sh a=x:=by
 grind [at?]
end
def RB (k:Int):Bool:=decide (1≤k∧k≤12)&& !(decide (k=1)||decide (k=5)||decide (k=6))
theorem YN (k:Int):EO k=some (RB k):=by
 rcases kind_cases k with h|h|h|h|h|h|h|h|h|h|h|h|h
 all_goals first|(subst h; simp [EO,IC,RB,AA]; done)|skip
 have h2:¬ (1≤k∧k≤12):=by omega
 grind [EO,IC,RB]
theorem YO (k:Int):Dr k=some (RB k):=by
 rcases kind_cases k with h|h|h|h|h|h|h|h|h|h|h|h|h
 all_goals first|(subst h; simp [Dr,BF,RB]; done)|skip
 grind [Ov,Dr,BF,RB]
def cU (b k l:Int):Bool:=decide (0≤b∧b≤8)&&levB k l&&(decide (k=6)||decide (k=12)||(RB k&&decide (b<l)))
theorem fP (b k l:Int):GH b k l=some (cU b k l):=by
 have hl:Gn b=some (decide (0≤b∧b≤8)):=by
  unfold Gn
  by_cases h:0≤b <;> simp [h]
 unfold GH cU
 rw [hl,AA,JA,AA]
 grind [Ee,YN]
theorem fQ (b k l:Int):GM b k l=some (cU b k l):=by
 unfold GM cU
 rw [FH,AA,MH,AA]
 grind [Eg,Ef,YO]
def VZ (k:Int):Bool:=decide (k=3)||decide (k=7)||decide (k=8)||decide (k=10)||decide (k=11)
theorem cV (k:Int):GI k=some (VZ k):=by
 unfold GI VZ
 by_cases h3:k=3 <;> by_cases h7:k=7 <;> by_cases h8:k=8 <;> by_cases h10:k=10 <;> simp [h3,h7,h8,h10]
theorem cW (k:Int):GN k=some (VZ k):=by
 unfold GN CR VZ
 by_cases h3:k=3 <;> by_cases h7:k=7 <;> by_cases h8:k=8 <;> by_cases h10:k=10 <;> by_cases h11:k=11 <;> simp [h3,h7,h8,h10,h11]
def ru (k1 l1 k2 l2:Int):Int:=
 if k1=5 then 4 else if k1=4 then (if k2=4∧l1=l2 then 2 else if cU l1 k2 l2=true then 3 else 0)
 else if k1=2 then (if k2=3∧l1=l2 then 1 else 0) else if k1=6 then (if k2=7∨k2=8 then 5 else if k2=11 then 6 else 0)
 else if k1=9 then (if k2=10 then 6 else 0) else if k1=12 then (if VZ k2=true then 7 else 0) else 0
theorem cX (k1 l1 k2 l2:Int):H3 k1 l1 k2 l2=some (ru k1 l1 k2 l2):=by
 grind [H3,ru,GJ,fP,GK,GL,cV]
theorem Tj (k1 l1 k2 l2:Int):F6 k1 l1 k2 l2=some (ru k1 l1 k2 l2):=by
 grind [F6,ru,GO,fQ,GP,GQ,cW]
def pcl (a b:Agent):Int:=if ru a.kind a.level b.kind b.level≠0 then ru a.kind a.level b.kind b.level else if ru b.kind b.level a.kind a.level≠0 then ru b.kind b.level a.kind a.level else 8
def pfi (a b:Agent):Int:=if ru a.kind a.level b.kind b.level≠0 then 1 else if ru b.kind b.level a.kind a.level≠0 then 2 else 0
structure Two (a b:Agent):Prop where
 la:levB a.kind a.level=true
 lb:levB b.kind b.level=true
 ra:a.kind≠1
 rb:b.kind≠1
theorem XF {a b} (h:Two a b):LN a.kind a.level b.kind b.level=some (pcl a b,pfi a b):=by
 unfold LN E3 pcl pfi
 rw [JA,AA,JA,AA,cX,AA,cX,AA,h.la,h.lb]
 simp only [h.ra,h.rb,decide_false,Bool.false_eq_true,if_false,Bool.not_true]
 by_cases h1:ru a.kind a.level b.kind b.level=0 <;> by_cases h2:ru b.kind b.level a.kind a.level=0 <;> simp [h1,h2]
theorem Va {a b} (h:Two a b):H5 a.kind a.level b.kind b.level=some true:=by
 unfold H5
 rw [MH,AA,MH,AA,h.la,h.lb]
 simp [h.ra,h.rb]
theorem Zd {a b} (h:Two a b):HF a.kind a.level b.kind b.level=some (pcl a b):=by
 unfold HF E7 pcl
 rw [Va h,AA,Tj,AA,Tj,AA]
 by_cases h1:ru a.kind a.level b.kind b.level=0 <;> by_cases h2:ru b.kind b.level a.kind a.level=0 <;> simp [h1,h2]
theorem Ze {a b} (h:Two a b):Fd a.kind a.level b.kind b.level=some (pfi a b):=by
 unfold Fd pfi
 rw [Va h,AA,Tj,AA,Tj,AA]
 by_cases h1:ru a.kind a.level b.kind b.level=0 <;> by_cases h2:ru b.kind b.level a.kind a.level=0 <;> simp [h1,h2]
def C7 (x y:Agent):Bool:=decide (x.kind=9)&&decide (y.kind=10)&&decide ((y.data.length:Int)≤x.value)
def kcl (a b:Agent):Int:=if C7 a b=true∨C7 b a=true then 8 else pcl a b
theorem LX {a b} (h:Two a b):Fs a b=some (kcl a b):=by
 grind [Fs,Ep,Eo,kcl,C7,Zd]
theorem Two.symm {a b} (h:Two a b):Two b a:=⟨h.lb,h.la,h.rb,h.ra⟩
theorem PZ {l} {i j} {a b} (ha:at? l i=some a) (hb:at? l j=some b) (h:Two a b):∃sw,Dq ⟨l⟩ ⟨i,j⟩=some (kcl a b,sw)∧(kcl a b≠8→sw=decide (pfi a b=2)):=by
 have key:∀ (x y:Agent) (f:Int),(C7 x y=true∨C7 y x=true↔(pcl a b=6∧y.kind=10∧(y.data.length:Int)≤x.value))→(C7 x y=true∨C7 y x=true↔C7 a b=true∨C7 b a=true)→
   ∃sw,DH (pcl a b,f) x.kind x.level x.value x.data x.ports y.kind y.level y.value y.data y.ports=some (kcl a b,sw)∧(kcl a b≠8→sw=decide (f=2)):=by
  intro x y f h1 h2
  unfold DH DG kcl
  by_cases hn:C7 a b=true∨C7 b a=true
  ·simp_all
  ·have hn1:=fun h=>hn (h2.1 (h1.2 h))
   rw [if_neg hn]
   refine⟨decide (f=2),?_,fun _=>rfl⟩
   grind
 unfold Dq
 simp only
 rw [ha,AA,hb,AA,XF h,AA]
 have hab:C7 a b=true→ru a.kind a.level b.kind b.level=6∧b.kind=10:=fun hn=>by
  grind [C7,ru]
 have hba:C7 b a=true→ru b.kind b.level a.kind a.level=6∧ru a.kind a.level b.kind b.level=0∧a.kind=10:=fun hn=>by
  simp_all [C7,ru]
 by_cases hf:pfi a b=2
 ·have hr:ru a.kind a.level b.kind b.level=0∧ru b.kind b.level a.kind a.level≠0:=by
   unfold pfi at hf
   by_cases h1:ru a.kind a.level b.kind b.level=0 <;> by_cases h2:ru b.kind b.level a.kind a.level=0 <;> simp_all
  have hp:pcl a b=ru b.kind b.level a.kind a.level:=by simp [pcl,hr]
  simp only [hf,decide_true,if_true]
  have:=key b a 2 ?_ (by rw [or_comm])
  ·grind
  grind [C7,ru]
 ·simp only [hf,decide_false,Bool.false_eq_true,if_false]
  have:=key a b (pfi a b) ?_ Iff.rfl
  ·grind
  ·constructor
   ·grind [C7,pcl,pfi]
   grind [ru,pcl,pfi,C7]
def grow (c n:Int):Int:=if c=1∨c=2 then (if n=0 then -2 else 0) else if c=3 then (if 0≤n∧n≤3 then n else 0) else if c=4 then (if 0≤n∧n≤3 then n - 2 else 0)
 else if c=5 then (if n=0 then -1 else 0) else if c=6 then (if 0≤n∧n≤3 then n - 1 else 0) else if c=7 then (if 2≤n∧n≤600 then n - 2 else 0) else 0
theorem XG (c n:Int):∃e,LO c n=some (grow c n,e):=by
 have j2:∀lo hi plus:Int,-10≤plus→plus≤10→0≤lo→hi≤1000→∃e,C9 n lo hi plus=some (if lo≤n∧n≤hi then n+plus else 0,e):=by
  intro lo hi plus h1 h2 h3 h4
  unfold C9 HD
  by_cases h5:n<lo
  ·exact⟨2,by grind⟩
  ·by_cases h6:hi<n
   ·exact⟨2,by grind⟩
   ·refine⟨0,?_⟩
    simp only [h5,h6,decide_false,Bool.false_eq_true,if_false]
    rw [if_pos ⟨by omega,by omega⟩,w64 (by omega) (by omega)]
 unfold LO HE grow
 by_cases c1:c=1
 ·obtain⟨e,h⟩:=j2 0 0 (-2) (by omega) (by omega) (by omega) (by omega)
  grind
 by_cases c2:c=2
 ·obtain⟨e,h⟩:=j2 0 0 (-2) (by omega) (by omega) (by omega) (by omega)
  grind
 by_cases c3:c=3
 ·obtain⟨e,h⟩:=j2 0 3 0 (by omega) (by omega) (by omega) (by omega)
  grind
 by_cases c4:c=4
 ·simp_all [Int.sub_eq_add_neg]
 by_cases c5:c=5
 ·obtain⟨e,h⟩:=j2 0 0 (-1) (by omega) (by omega) (by omega) (by omega)
  grind
 by_cases c6:c=6
 ·simp_all [Int.sub_eq_add_neg]
 by_cases c7:c=7
 ·simp_all [Int.sub_eq_add_neg]
 simp_all
theorem XH (c n:Int) (h0: -1000000000000≤n∧n≤1000000000000):∃e,LP c n=some (grow c n,e):=by
 have j2:∀lo hi v:Int,∃e,DA n lo hi v=some (if lo≤n∧n≤hi then v else 0,e):=by
  intro lo hi v
  unfold DA
  rw [FH,AA]
  by_cases h5:lo≤n∧n≤hi
  ·simp_all
  ·exact⟨2,by grind⟩
 have w1:IntKind.i64.wrap (n - 1)=n - 1:=w64 (by omega) (by omega)
 have w2:IntKind.i64.wrap (n - 2)=n - 2:=w64 (by omega) (by omega)
 unfold LP HG grow
 by_cases c1:c=1
 ·obtain⟨e,h⟩:=j2 0 0 (-2)
  grind
 by_cases c2:c=2
 ·obtain⟨e,h⟩:=j2 0 0 (-2)
  grind
 by_cases c3:c=3
 ·simp_all
 by_cases c4:c=4
 ·simp_all
 by_cases c5:c=5
 ·obtain⟨e,h⟩:=j2 0 0 (-1)
  grind
 by_cases c6:c=6
 ·simp_all
 by_cases c7:c=7
 ·simp_all
 simp_all
abbrev Sh:=Int × Int × Int × List Int × Nat
theorem M.mono' {l} {X Y} (h:M l X) (hxy:∀p q,get l p=some q→(X p↔Y p)):M l Y:=fun p q hp hy=>by
 obtain⟨h1,h2,h3⟩:=h p q hp fun hx=>hy ((hxy p q hp).1 hx)
 grind
theorem Bi {l} {p q} {x} (h:get l p=some q) (hx:at? (l.map sh) p.agent=some x):0≤p.slot∧p.slot<(x.2.2.2.2 :Int):=by
 obtain⟨a,h1,h2⟩:=Aw.1 h
 rw [DX h1] at hx
 cases hx
 exact Cq h2
theorem DS {l} {p q} (h:get l p=some q):0≤p.agent∧p.agent<(l.length:Int):=by
 obtain⟨a,h1,-⟩:=Aw.1 h
 exact Cq h1
theorem KU {l:List Agent} {l':List Sh} (h:l.map sh=l'):l.length=l'.length:=by rw [← h,List.length_map]
section
variable {S:Int→Prop} {X:Port→Prop} {A B:List Agent}
theorem Ok.mono' {Y} (h:Ok S X A B) (hxy:∀p q,Ab.get A p=some q→(X p↔Y p)) (hs:∀p,S p.agent→Y p):Ok S Y A B:=⟨h.len,h.ag,h.hl,h.m.mono' hxy,hs⟩
def Fr (A A':List Agent) (X:Port→Prop):Prop:=∀p q,Ab.get A p=some q→Ab.get A q=some p→¬X p→¬X q→Ab.get A' p=some q
theorem gM {p q a b r s} (hm:M A X) (hp:Ab.get A p=some a) (hq:Ab.get A q=some b) (xp:¬X p) (xq:¬X q) (hr:Ab.get A r=some s) (h1:s≠p) (h2:s≠q):Ab.get (jn A p q) r=some s:=by
 obtain⟨-,-,k3⟩:=hm p a hp xp
 obtain⟨-,-,m3⟩:=hm q b hq xq
 unfold jn
 rw [hp,hq]
 simp only
 split
 ·exact hr
 ·rw [JB k3 m3 (fun e=>by rw [e,k3] at hr; grind) (fun e=>by rw [e,m3] at hr; grind)]
  exact hr
structure Pr (S:Int→Prop) (A:List Agent) (x y:Int) (a b:Agent):Prop where
 hx:at? A x=some a
 hy:at? A y=some b
 w:Ab.get A ⟨x,0⟩=some ⟨y,0⟩
 sx:¬S x
 sy:¬S y
structure Done (S:Int→Prop) (A:List Agent) (x y:Int) (new:List Sh) (A' B':List Agent):Prop where
 ok:Ok S (fun p=>S p.agent∨p.agent=x∨p.agent=y) A' B'
 shp:A'.map sh=A.map sh++new
 fr:Fr A A' fun p=>S p.agent∨p.agent=x∨p.agent=y
theorem Ok.start (h:Ok S (fun p=>S p.agent) A B) {x y} {a b} (hp:Pr S A x y a b):Ok S (fun p=>S p.agent∨p=⟨x,0⟩∨p=⟨y,0⟩) A B∧x≠y:=by
 refine⟨⟨h.len,h.ag,h.hl,h.m.drop hp.w hp.sx,fun p hs=>.inl hs⟩,fun e=>?_⟩
 obtain⟨-,h2,-⟩:=h.m _ _ hp.w hp.sx
 grind
theorem fR (h:Ok S (fun p=>S p.agent) A B) {x y} {a b} (hp:Pr S A x y a b) (ha:a.ports.length=3) (hb:b.ports.length=3):
  ∃A1 A2 B1 B2,(∀bk r,B7 ⟨⟨A⟩,bk,r⟩ ⟨x,1⟩ ⟨y,1⟩=some ⟨⟨A1⟩,bk,r⟩)∧(∀bk r,B7 ⟨⟨A1⟩,bk,r⟩ ⟨x,2⟩ ⟨y,2⟩=some ⟨⟨A2⟩,bk,r⟩)∧
   FO ⟨B⟩ ⟨x,1⟩ ⟨y,1⟩=some ⟨B1⟩∧FO ⟨B1⟩ ⟨x,2⟩ ⟨y,2⟩=some ⟨B2⟩∧Done S A x y [] A2 B2:=by
 obtain⟨h0,hne⟩:=h.start hp
 have hsx:=DX hp.hx
 have hsy:=DX hp.hy
 obtain⟨u1,g1⟩:=Ow hsx (s:=1) (by omega) (by grind [sh])
 obtain⟨v1,g2⟩:=Ow hsy (s:=1) (by omega) (by grind [sh])
 have nx:∀s:Int,s≠0→¬ (S x∨(⟨x,s⟩:Port)=⟨x,0⟩∨(⟨x,s⟩:Port)=⟨y,0⟩):=fun s hs h=>by
  rcases h with h|h|h
  ·exact hp.sx h
  ·rw [Az] at h; grind
  grind
 have ny:∀s:Int,s≠0→¬ (S y∨(⟨y,s⟩:Port)=⟨x,0⟩∨(⟨y,s⟩:Port)=⟨y,0⟩):=fun s hs h=>by
  rcases h with h|h|h
  ·exact hp.sy h
  ·rw [Az] at h; grind
  grind
 have pxy:∀s t:Int,(⟨x,s⟩:Port)≠⟨y,t⟩:=fun s t h=>by rw [Az] at h; grind
 obtain⟨e1,e2,k1,-,k2⟩:=h0.join g1 g2 (nx 1 (by omega)) (ny 1 (by omega)) (pxy 1 1)
 obtain⟨u2,g3⟩:=Ow (l:=jn A ⟨x,1⟩ ⟨y,1⟩) (k:=x) (s:=2) (by rw [k2]; exact hsx) (by omega) (by grind [sh])
 obtain⟨v2,g4⟩:=Ow (l:=jn A ⟨x,1⟩ ⟨y,1⟩) (k:=y) (s:=2) (by rw [k2]; exact hsy) (by omega) (by grind [sh])
 have nn:∀z:Int,((z=x∧¬S x)∨(z=y∧¬S y))→¬ ((S z∨(⟨z,2⟩:Port)=⟨x,0⟩∨(⟨z,2⟩:Port)=⟨y,0⟩)∨(⟨z,2⟩:Port)=⟨x,1⟩∨(⟨z,2⟩:Port)=⟨y,1⟩):=fun z hz h=>by
  grind
 obtain⟨e3,e4,k3,-,k4⟩:=k1.join g3 g4 (nn x (.inl ⟨rfl,hp.sx⟩)) (nn y (.inr ⟨rfl,hp.sy⟩)) (pxy 2 2)
 refine⟨_,_,_,_,e1,e3,e2,e4,k3.mono' (fun p q hq=>?_) fun p hs=>.inl hs,by rw [k4,k2,List.append_nil],fun p q hp1 hp2 n1 n2=>?_⟩
 rotate_left
 ·have nq:∀z s:Int,(z=x∨z=y)→q≠⟨z,s⟩:=fun z s hz e=>n2 (by
   rw [Az] at e
   omega)
  exact gM k1.m g3 g4 (nn x (.inl ⟨rfl,hp.sx⟩)) (nn y (.inr ⟨rfl,hp.sy⟩)) (gM h0.m g1 g2 (nx 1 (by omega)) (ny 1 (by omega)) hp1 (nq x 1 (.inl rfl)) (nq y 1 (.inr rfl))) (nq x 2 (.inl rfl)) (nq y 2 (.inr rfl))
 simp only [Az]
 have hs:p.agent=x∨p.agent=y→0≤p.slot∧p.slot<3:=fun e=>by
  rcases e with e|e
  ·have:=Bi hq (by rw [k4,k2,e]; exact hsx); grind [sh]
  ·have:=Bi hq (by rw [k4,k2,e]; exact hsy); grind [sh]
 grind
structure Way1 (S:Int→Prop) (A:List Agent) (new:List Sh) (X:Port→Prop) (A' B':List Agent):Prop where
 ok:Ok S X A' B'
 shp:A'.map sh=A.map sh++new
 fr:Fr A A' X
theorem Way1.len {new:List Sh} {A' B':List Agent} (h:Way1 S A new X A' B'):A'.length=A.length+new.length:=by
 rw [KU h.shp,List.length_append,List.length_map]
theorem B6 {α:Type} {l m:List α} {k:Int} {x:α} (h:at? l k=some x):at? (l++m) k=some x:=by
 grind [at?]
theorem Fj {α:Type} {l m:List α} {k:Nat} {x:α} (h:m[k]? =some x):at? (l++m) ((l.length+k:Nat):Int)=some x:=by
 grind [at?]
theorem Way1.old {new:List Sh} {A' B':List Agent} (h:Way1 S A new X A' B') {k:Int} {a:Agent} (ha:at? A k=some a) {s:Int} (h0:0≤s) (hs:s<(a.ports.length:Int)):∃u,Ab.get A' ⟨k,s⟩=some u:=
 Ow (x:=sh a) (by rw [h.shp]; exact B6 (DX ha)) h0 hs
theorem Way1.new {new:List Sh} {A' B':List Agent} (h:Way1 S A new X A' B') {k:Nat} {x:Sh} (ha:new[k]? =some x) {s:Int} (h0:0≤s) (hs:s<(x.2.2.2.2 :Int)):∃u,Ab.get A' ⟨((A.length+k:Nat):Int),s⟩=some u:=
 Ow (x:=x) (by rw [h.shp]; have:=Fj (l:=A.map sh) ha; rwa [List.length_map] at this) h0 hs
theorem Way1.ex {new} {A' B'} (h:Way1 S A new X A' B') {p q} (hp:Ab.get A p=some q):∃u,Ab.get A' p=some u:=by
 obtain⟨a,h1,h2⟩:=Aw.1 hp
 have:=Cq h2
 obtain⟨u,hu⟩:=h.old h1 (s:=p.slot) this.1 this.2
 simp_all
theorem Way1.move {new} {A' B'} (h:Way1 S A new X A' B') {o n u u'} (ho:Ab.get A' o=some u) (hn:Ab.get A' n=some u') (xo:¬X o) (xn:X n) (sn:¬S n.agent) {Y} (hY:∀p q,Ab.get A' p=some q→((X p∨p=o)∧p≠n↔Y p)) (hs:∀p,S p.agent→Y p) (nn:(A.length:Int)≤n.agent:=by first|omega|(simp only; omega)):
  ∃A2 B2,(∀bk r,AU ⟨⟨A'⟩,bk,r⟩ o n=some ⟨⟨A2⟩,bk,r⟩)∧Bj ⟨B'⟩ o n=some ⟨B2⟩∧Way1 S A new Y A2 B2:=by
 obtain⟨e1,e2,k1,k2,k3⟩:=h.ok.move ho xo hn xn sn
 have ex:∀p q,Ab.get (mv A' o n) p=some q→∃q',Ab.get A' p=some q':=fun p q hq=>by
  obtain⟨a,h1,h2⟩:=Aw.1 hq
  obtain⟨a',h3,h4⟩:=LW (k3 ▸ DX h1)
  have h5:a'.ports.length=a.ports.length:=by grind [sh]
  have h6:=Cq h2
  obtain⟨q',h7,-⟩:=EA (l:=a'.ports) (i:=p.slot) (by rw [h5]; exact h6)
  grind [Aw]
 refine⟨_,_,e1,e2,k1.mono' (fun p q hq=>?_) hs,k3.trans h.shp,fun p q h1 h2 n1 n2=>?_⟩
 rotate_left
 ·have l1:=DS h1
  have l2:=DS h2
  obtain⟨p',hp'⟩:=h.ex h1
  obtain⟨q',hq'⟩:=h.ex h2
  have pn:p≠n:=fun e=>by rw [e] at l1; omega
  have qn:q≠n:=fun e=>by rw [e] at l2; omega
  have c1:¬ (X p∨p=o):=fun e=>n1 ((hY p p' hp').1 ⟨e,pn⟩)
  have c2:¬ (X q∨q=o):=fun e=>n2 ((hY q q' hq').1 ⟨e,qn⟩)
  have g:=h.fr p q h1 h2 (fun e=>c1 (.inl e)) fun e=>c2 (.inl e)
  obtain⟨-,-,m3⟩:=h.ok.m o u ho xo
  grind [mv,JB]
 grind
theorem Way1.add {new} {A' B'} (h:Way1 S A new X A' B') (k lv v:Int) (d:List Int) (n:Nat) (hl:A'.length+1≤Big) (hd:d.length≤Big) (hn:n≤Big):
  (∀bk r,Ag ⟨⟨A'⟩,bk,r⟩ k lv v d (n:Int)=some (((A.length+new.length:Nat):Int),⟨⟨A'++[newA k lv v d n]⟩,bk,r⟩))∧CZ ⟨B'⟩ k lv v d (n:Int)=some (((A.length+new.length:Nat):Int),⟨B'++[newA k lv v d n]⟩)∧
   Way1 S A (new++[(k,lv,v,d,n)]) (fun p=>X p∨p.agent=((A.length+new.length:Nat):Int)) (A'++[newA k lv v d n]) (B'++[newA k lv v d n]):=by
 have e:=h.len
 have e':=h.ok.len
 refine⟨fun bk r=>by rw [YM A' bk r k lv v d n hl hd hn,e],by rw [fO B' k lv v d n (by omega) hd hn,← e',e],?_,?_,fun p q h1 h2 n1 n2=>?_⟩
 ·have:=h.ok.add (newA k lv v d n)
  rw [e] at this; omega
 ·rw [List.map_append,h.shp,List.append_assoc]
  simp [sh,newA]
 ·have g:=h.fr p q h1 h2 (fun e=>n1 (.inl e)) fun e=>n2 (.inl e)
  grind [Jt]
theorem Way1.link {new} {A' B'} (h:Way1 S A new X A' B') {p q u v} (hp:Ab.get A' p=some u) (hq:Ab.get A' q=some v) (hne:p≠q) (xp:X p) (xq:X q) (sp:¬S p.agent) (sq:¬S q.agent) (np:(A.length:Int)≤p.agent:=by first|omega|(simp only; omega)) (nq:(A.length:Int)≤q.agent:=by first|omega|(simp only; omega)):
  ∃A2 B2,CI ⟨A'⟩ p q=some ⟨A2⟩∧CI ⟨A'⟩ q p=some ⟨A2⟩∧s_l11Link ⟨B'⟩ p q=some ⟨B2⟩∧s_l11Link ⟨B'⟩ q p=some ⟨B2⟩∧Way1 S A new (fun r=>X r∧r≠p∧r≠q) A2 B2:=by
 obtain⟨e1,e2,e3,e4,k⟩:=h.ok.link hp hq hne xp xq sp sq
 refine⟨_,_,e1,e2,e3,e4,k,by rw [VX]; exact h.shp,fun r s h1 h2 n1 n2=>?_⟩
 have l1:=DS h1
 have l2:=DS h2
 have rp:r≠p:=fun e=>by rw [e] at l1; omega
 have rq:r≠q:=fun e=>by rw [e] at l1; omega
 have sp':s≠p:=fun e=>by rw [e] at l2; omega
 have sq':s≠q:=fun e=>by rw [e] at l2; omega
 rw [JB hp hq rp rq]
 exact h.fr r s h1 h2 (fun e=>n1 ⟨e,rp,rq⟩) fun e=>n2 ⟨e,sp',sq'⟩
theorem Way1.mono {new} {A' B'} (h:Way1 S A new X A' B') {Y} (hY:∀p q,Ab.get A' p=some q→(X p↔Y p)) (hs:∀p,S p.agent→Y p):Way1 S A new Y A' B':=⟨h.ok.mono' hY hs,h.shp,fun p q h1 h2 n1 n2=>by
 obtain⟨p',hp'⟩:=h.ex h1
 obtain⟨q',hq'⟩:=h.ex h2
 exact h.fr p q h1 h2 (fun e=>n1 ((hY p p' hp').1 e)) fun e=>n2 ((hY q q' hq').1 e)⟩
theorem Way1.done {new} {A' B'} (h:Way1 S A new X A' B') {x y} (hY:∀p q,Ab.get A' p=some q→(X p↔S p.agent∨p.agent=x∨p.agent=y)):Done S A x y new A' B':=
 have w:=h.mono hY fun p hs=>.inl hs
 ⟨w.ok,w.shp,w.fr⟩
theorem Fr.refl:Fr A A X:=fun p q h _ _ _=>h
end
section
variable {S:Int→Prop} {A B:List Agent}
theorem Cp (a s:Int):Ad a s=some ⟨a,s⟩:=rfl
def Ig:Sh:=(5,0,0,[],1)
theorem XI {x y} {a b} (hp:Pr S A x y a b) (hne:x≠y) (ha:a.ports.length=1) (hbb:b.ports.length≤100) (hA:A.length≤8000000) (a0:Rewriter) (v:Int × Int × Int × Int) (hv:v.2.2.1 =y) (r:List (Int × Bool)) (z:Int × Int) (hz:z.2 =y) (c:Int):
  ∀ (k i m:Nat) (A1 B1:List Agent),i+k=b.ports.length→1≤i→k<m→Way1 S A (List.replicate (i - 1) Ig) (fun p=>S p.agent∨p.agent=x∨(p.agent=y∧p.slot<(i:Int))) A1 B1→
   ∃A2 B2 m',Ak m a0 v r A1 (i:Int)=Ak (m'+1) a0 v r A2 (b.ports.length:Int)∧Ds m z c b B1 (i:Int)=Ds (m'+1) z c b B2 (b.ports.length:Int)∧
    Way1 S A (List.replicate (b.ports.length - 1) Ig) (fun p=>S p.agent∨p.agent=x∨(p.agent=y∧p.slot<(b.ports.length:Int))) A2 B2:=by
 intro k
 induction k with
 |zero=>
  intro i m A1 B1 h h1 hm hw
  obtain⟨m,rfl⟩:∃q,m=q+1:=⟨m - 1,by omega⟩
  have:i=b.ports.length:=by omega
  subst this
  grind
 | succ k ih=>
  intro i m A1 B1 h h1 hm hw
  obtain⟨m,rfl⟩:∃q,m=q+1:=⟨m - 1,by omega⟩
  have hlen:=hw.len
  rw [List.length_replicate] at hlen
  obtain⟨e1,e2,w1⟩:=hw.add 5 0 0 [] 1 (by grind) (by simp) (by grind)
  rw [List.length_replicate] at e1 e2 w1
  have hsy:at? (A1.map sh) y=some (sh b):=by rw [hw.shp]; exact B6 (DX hp.hy)
  obtain⟨b',hb',hbs⟩:=LW hsy
  have hbl:b'.ports.length=b.ports.length:=by grind [sh]
  have hyl:=Cq hp.hy
  have hxl:=Cq hp.hx
  obtain⟨u,g1⟩:=w1.old hp.hy (s:=(i:Int)) (by omega) (by omega)
  obtain⟨u',g2⟩:=w1.new (k:=i - 1) (x:=Ig) (s:=0) (by
   rw [List.getElem?_append_right (by simp),List.length_replicate,Nat.sub_self]; rfl) (by omega) (by simp [Ig])
  obtain⟨A2,B2,e3,e4,w2⟩:=w1.move g1 g2 (fun h=>by
    rcases h with (h|h|h)|h
    ·exact hp.sy h
    ·grind
    ·grind
    grind) (.inr rfl) (fun hs=>by
    have:=hw.ok.s_lt hs
    grind) (Y:=fun p=>S p.agent∨p.agent=x∨(p.agent=y∧p.slot<((i+1:Nat):Int))) (fun p q hq=>by
    have hn:p.agent=((A.length+(i - 1):Nat):Int)→p.slot=0:=fun e=>by
     have:=Bi hq (x:=Ig) (by
      rw [w1.shp,e]
      have:=Fj (l:=A.map sh) (m:=List.replicate (i - 1) Ig++[Ig]) (k:=i - 1) (x:=Ig) (by rw [List.getElem?_append_right (by simp),List.length_replicate,Nat.sub_self]; rfl)
      rwa [List.length_map] at this)
     grind [Ig]
    have hsl:p.agent=((A.length+(i - 1):Nat):Int)→¬S p.agent:=fun e hs=>by
     have:=hw.ok.s_lt hs
     omega
    grind [Az]) fun p hs=>.inl hs
  obtain⟨A3,B3,m',k1,k2,k3⟩:=ih (i+1) m A2 B2 (by omega) (by omega) (by omega) (by
   rw [show i+1 - 1=(i - 1)+1 from by omega,List.replicate_succ']; exact w2)
  grind [Ak,w64,Ds,Cp]
theorem cY (h:Ok S (fun p=>S p.agent) A B) {x y} {a b} (hp:Pr S A x y a b) (ha:a.ports.length=1) (hb1:1≤b.ports.length) (hbb:b.ports.length≤100) (hA:A.length≤8000000) (a0:Rewriter) (v:Int × Int × Int × Int) (hv:v.2.2.1 =y) (r:List (Int × Bool)) (z:Int × Int) (hz:z.2 =y) (c:Int):
  ∃A2 B2,Ak fuel a0 v r A 1=Ae a0 v r A2∧Ds fuel z c b B 1=Ce z c B2∧Done S A x y (List.replicate (b.ports.length - 1) Ig) A2 B2:=by
 obtain⟨h0,hne⟩:=h.start hp
 have w0:Way1 S A (List.replicate (1 - 1) Ig) (fun p=>S p.agent∨p.agent=x∨(p.agent=y∧p.slot<((1:Nat):Int))) A B:=by
  refine⟨h0.mono' (fun p q hq=>?_) fun p hs=>.inl hs,by simp,.refl⟩
  have hs1:p.agent=x→p.slot=0:=fun e=>by
   have:=Bi hq (x:=sh a) (by rw [e]; exact DX hp.hx)
   grind [sh]
  have hs2:p.agent=y→0≤p.slot:=fun e=>(Bi hq (x:=sh b) (by rw [e]; exact DX hp.hy)).1
  grind [Az]
 obtain⟨A2,B2,m',k1,k2,k3⟩:=XI hp hne ha hbb hA a0 v hv r z hz c (b.ports.length - 1) 1 fuel A B (by omega) (Nat.le_refl _) (by rw [Af]; omega) w0
 have hsy:at? (A2.map sh) y=some (sh b):=by rw [k3.shp]; exact B6 (DX hp.hy)
 obtain⟨b',hb',hbs⟩:=LW hsy
 have hbl:b'.ports.length=b.ports.length:=by grind [sh]
 refine⟨A2,B2,?_,?_,k3.done fun p q hq=>?_⟩
 ·rw [Int.natCast_one] at k1
  rw [k1,Ak,hv,hb',AA,hbl,if_neg (by simp)]
 ·rw [Int.natCast_one] at k2
  rw [k2,Ds,if_neg (by simp)]
 ·have hs2:p.agent=y→p.slot<(b.ports.length:Int):=fun e=>by
   have:=Bi hq (x:=sh b) (by rw [e]; omega)
   grind [sh]
  grind
theorem Ok.start1 (h:Ok S (fun p=>S p.agent) A B) {x y} {a b} (hp:Pr S A x y a b) (ha:a.ports.length=1):Way1 S A [] (fun p=>S p.agent∨p.agent=x∨p=⟨y,0⟩) A B∧x≠y:=by
 obtain⟨h0,hne⟩:=h.start hp
 refine⟨⟨h0.mono' (fun p q hq=>?_) fun p hs=>.inl hs,by simp,.refl⟩,hne⟩
 have hs1:p.agent=x→p.slot=0:=fun e=>by
  have:=Bi hq (x:=sh a) (by rw [e]; exact DX hp.hx)
  grind [sh]
 grind [Az]
theorem Vb (h:Ok S (fun p=>S p.agent) A B) {x y} {a b} (hp:Pr S A x y a b) (ha:a.ports.length=1) (hb:b.ports.length=2) (hA:A.length≤8000000) (k lv v:Int) (d:List Int) (hd:d.length≤Big):
  ∃A1 A2 B1 B2,(∀bk r,Ag ⟨⟨A⟩,bk,r⟩ k lv v d 1=some ((A.length:Int),⟨⟨A1⟩,bk,r⟩))∧(∀bk r,AU ⟨⟨A1⟩,bk,r⟩ ⟨y,1⟩ ⟨(A.length:Int),0⟩=some ⟨⟨A2⟩,bk,r⟩)∧
   CZ ⟨B⟩ k lv v d 1=some ((A.length:Int),⟨B1⟩)∧Bj ⟨B1⟩ ⟨y,1⟩ ⟨(A.length:Int),0⟩=some ⟨B2⟩∧Done S A x y [(k,lv,v,d,1)] A2 B2:=by
 obtain⟨w0,hne⟩:=h.start1 hp ha
 obtain⟨e1,e2,w1⟩:=w0.add k lv v d 1 (by grind) hd (by grind)
 simp only [List.length_nil,Nat.add_zero,List.nil_append,Int.natCast_one] at e1 e2 w1
 have hyl:=Cq hp.hy
 have hxl:=Cq hp.hx
 obtain⟨u,g1⟩:=w1.old hp.hy (s:=1) (by omega) (by omega)
 obtain⟨u',g2⟩:=w1.new (k:=0) (s:=0) rfl (by omega) (by simp)
 rw [Nat.add_zero] at g2
 obtain⟨A2,B2,e3,e4,w2⟩:=w1.move g1 g2 (fun h=>by
   simp only [Az] at h
   rcases h with (h|h|h)|h
   ·exact hp.sy h
   ·omega
   ·omega
   ·omega) (.inr rfl) (fun hs=>by have:=h.s_lt hs; grind) (Y:=fun p=>S p.agent∨p.agent=x∨p.agent=y) (fun p q hq=>by
   have hn:p.agent=(A.length:Int)→p.slot=0:=fun e=>by
    have:=Bi hq (x:=(k,lv,v,d,1)) (by
     rw [w1.shp,e]
     have:=Fj (l:=A.map sh) (m:=[(k,lv,v,d,1)]) (k:=0) rfl
     rwa [List.length_map,Nat.add_zero] at this)
    grind
   have hy2:p.agent=y→p.slot=0∨p.slot=1:=fun e=>by
    have:=Bi hq (x:=sh b) (by rw [w1.shp,e]; exact B6 (DX hp.hy))
    grind [sh]
   have hsl:p.agent=(A.length:Int)→¬S p.agent:=fun e hs=>by have:=h.s_lt hs; omega
   grind [Az]) fun p hs=>.inl hs
 exact⟨_,A2,_,B2,e1,e3,e2,e4,w2.ok,w2.shp,w2.fr⟩
theorem Zf (h:Ok S (fun p=>S p.agent) A B) {x y} {a b} (hp:Pr S A x y a b) (ha:a.ports.length=1) (hb:b.ports.length=3) (hA:A.length≤8000000) (k lv v:Int) (d:List Int) (hd:d.length≤Big):
  ∃A1 A2 A3 B1 B2 B3,(∀bk r,Ag ⟨⟨A⟩,bk,r⟩ k lv v d 2=some ((A.length:Int),⟨⟨A1⟩,bk,r⟩))∧(∀bk r,AU ⟨⟨A1⟩,bk,r⟩ ⟨y,1⟩ ⟨(A.length:Int),0⟩=some ⟨⟨A2⟩,bk,r⟩)∧(∀bk r,AU ⟨⟨A2⟩,bk,r⟩ ⟨y,2⟩ ⟨(A.length:Int),1⟩=some ⟨⟨A3⟩,bk,r⟩)∧
   CZ ⟨B⟩ k lv v d 2=some ((A.length:Int),⟨B1⟩)∧Bj ⟨B1⟩ ⟨y,1⟩ ⟨(A.length:Int),0⟩=some ⟨B2⟩∧Bj ⟨B2⟩ ⟨y,2⟩ ⟨(A.length:Int),1⟩=some ⟨B3⟩∧Done S A x y [(k,lv,v,d,2)] A3 B3:=by
 obtain⟨w0,hne⟩:=h.start1 hp ha
 obtain⟨e1,e2,w1⟩:=w0.add k lv v d 2 (by grind) hd (by grind)
 simp only [List.length_nil,Nat.add_zero,List.nil_append] at e1 e2 w1
 have hyl:=Cq hp.hy
 have hxl:=Cq hp.hx
 have hsl:∀p:Port,p.agent=(A.length:Int)→¬S p.agent:=fun p e hs=>by have:=h.s_lt hs; omega
 obtain⟨u,g1⟩:=w1.old hp.hy (s:=1) (by omega) (by omega)
 obtain⟨u',g2⟩:=w1.new (k:=0) (s:=0) rfl (by omega) (by simp)
 rw [Nat.add_zero] at g2
 obtain⟨A2,B2,e3,e4,w2⟩:=w1.move g1 g2 (fun h=>by
   simp only [Az] at h
   rcases h with (h|h|h)|h
   ·exact hp.sy h
   ·omega
   ·omega
   ·omega) (.inr rfl) (hsl ⟨_,0⟩ rfl) (Y:=fun p=>S p.agent∨p.agent=x∨(p.agent=y∧p.slot≤1)∨p=⟨(A.length:Int),1⟩) (fun p q hq=>by
   have hn:p.agent=(A.length:Int)→p.slot=0∨p.slot=1:=fun e=>by
    have:=Bi hq (x:=(k,lv,v,d,2)) (by
     rw [w1.shp,e]
     have:=Fj (l:=A.map sh) (m:=[(k,lv,v,d,2)]) (k:=0) rfl
     rwa [List.length_map,Nat.add_zero] at this)
    grind
   have hy2:p.agent=y→p.slot=0∨p.slot=1∨p.slot=2:=fun e=>by
    have:=Bi hq (x:=sh b) (by rw [w1.shp,e]; exact B6 (DX hp.hy))
    grind [sh]
   grind [Az]) fun p hs=>.inl hs
 obtain⟨u2,g3⟩:=w2.old hp.hy (s:=2) (by omega) (by omega)
 obtain⟨u3,g4⟩:=w2.new (k:=0) (s:=1) rfl (by omega) (by simp)
 rw [Nat.add_zero] at g4
 obtain⟨A3,B3,e5,e6,w3⟩:=w2.move g3 g4 (fun h=>by
   simp only [Az] at h
   rcases h with h|h|h|h
   ·exact hp.sy h
   ·omega
   ·omega
   ·omega) (.inr (.inr (.inr rfl))) (hsl ⟨_,1⟩ rfl) (Y:=fun p=>S p.agent∨p.agent=x∨p.agent=y) (fun p q hq=>by
   have hy2:p.agent=y→p.slot=0∨p.slot=1∨p.slot=2:=fun e=>by
    have:=Bi hq (x:=sh b) (by rw [w2.shp,e]; exact B6 (DX hp.hy))
    grind [sh]
   grind [Az]) fun p hs=>.inl hs
 exact⟨_,A2,A3,_,B2,B3,e1,e3,e5,e2,e4,e6,w3.ok,w3.shp,w3.fr⟩
end
theorem iw (x:Int):IntKind.i32.wrap (IntKind.u32.wrap (IntKind.u64.wrap x))=IntKind.i32.wrap x:=by
 have e:∀y,IntKind.i32.wrap y=if 2147483648≤y % 4294967296 then y % 4294967296 - 4294967296 else y % 4294967296:=fun y=>by
  simp [IntKind.wrap,IntKind.bits,IntKind.signed]
 have e1:∀y,IntKind.u32.wrap y=y % 4294967296:=fun y=>by rfl
 have e2:∀y,IntKind.u64.wrap y=y % 18446744073709551616:=fun y=>by rfl
 rw [e,e,e1,e2]
 have:x % 18446744073709551616 % 4294967296 % 4294967296=x % 4294967296:=by omega
 rw [this]
theorem cZ (x:Int):Fe x=Dg x:=by unfold Fe Dg; rw [iw]
theorem ca (b:Bool):Jh b=G0 b:=rfl
theorem iy (o a b:Int):Ji o a b=FN o a b:=by
 grind [Ji,FN,cZ,ca]
theorem Vc (b:Bool):G0 b=some (if b=true then 1 else 0):=by unfold G0; split <;> rfl
theorem cc (x:Int):∃y,Dg x=some y:=⟨_,rfl⟩
theorem iz (o a b:Int):∃y,FN o a b=some y:=by
 unfold FN
 obtain⟨u,hu⟩:=cc a
 grind [Dg,nz?,Vc]
theorem JC (a:Agent) (hd:a.data.length≤Big) (hp:a.ports.length≤Big):Bw a=some a:=by
 simp_all [Bw,XE,CO]
def NB (x:Sh):Prop:=x.2.2.2.1.length ≤4∧x.2.2.2.2 ≤4∧x.1 ≠0
def shB (x:Sh):Bool:=agB ⟨x.1,x.2.1,x.2.2.1,x.2.2.2.1,List.replicate x.2.2.2.2 ⟨0,0⟩⟩
theorem RC {a b} (h:sh a=sh b):agB a=agB b∧a.kind=b.kind:=by
 simp only [sh,Prod.mk.injEq] at h
 obtain⟨h1,h2,h3,h4,h5⟩:=h
 refine⟨?_,h1⟩
 unfold agB GX
 rw [h1,h2,h3,h4,h5]
theorem XJ (a:Agent):shB (sh a)=agB a:=(RC (by simp [sh])).1
def SV (new:List Sh):Prop:=∀n ∈ new,n.1 ≠1∧shB n=true
theorem MI {a} (h:agB a=true):levB a.kind a.level=true∧GX a=true∧0<a.ports.length∧ports a.kind (if a.kind=9 then (a.ports.length:Int) - 1 else 0)=(a.ports.length:Int):=by
 grind [agB]
theorem Tk {k l m} (h:levB k l=true) (hk:k≠1∧k≠5∧k≠6) (hm:1≤m∧m≤12∧m≠1∧m≠5∧m≠6):levB m l=true:=by
 grind [levB]
theorem Vd {x y} (h:Dg x=some y): -2147483648≤y∧y≤2147483647:=by
 grind [IntKind.wrap,IntKind.bits,IntKind.signed,Dg]
theorem i1 {o a b y} (h:FN o a b=some y): -2147483648≤y∧y≤2147483647:=by
 have ht:∀ {c:Bool} {z:Int},G0 c=some z→ -2147483648≤z∧z≤2147483647:=fun {c z} hz=>by
  unfold G0 at hz
  split at hz <;> cases hz <;> omega
 have hb:∀ {α β:Type} {x:Option α} {f:α→Option β} {r:β},Option.bind x f=some r→∃v,x=some v∧f v=some r:=fun {α β x f r} hx=>by
  cases x with
  |none=>cases hx
  |some v=>grind
 unfold FN at h
 obtain⟨u,-,h⟩:=hb h
 obtain⟨v,-,h⟩:=hb h
 repeat' split at h
 all_goals first
  |(obtain⟨z,hz,h⟩:=hb h; cases h; first|exact Vd hz|exact ht hz)
  |(obtain⟨z,-,h⟩:=hb h; obtain⟨w,hw,h⟩:=hb h; cases h; exact Vd hw)
  |(cases h; omega)
def NBs (new:List Sh):Prop:=(∀n ∈ new,NB n)∧new.length≤600
section
variable {S:Int→Prop} {X:Port→Prop} {A B:List Agent}
theorem Pr.bx (h:Ok S X A B) {x y} {a b} (hp:Pr S A x y a b):at? B x=some a:=(h.ag x hp.sx).symm.trans hp.hx
theorem Pr.bY (h:Ok S X A B) {x y} {a b} (hp:Pr S A x y a b):at? B y=some b:=(h.ag y hp.sy).symm.trans hp.hy
theorem XK (h:Ok S (fun p=>S p.agent) A B) {x y} {a b} (hp:Pr S A x y a b) (ga:agB a=true) (gb:agB b=true) (hka:a.kind=6) (ha:a.ports.length=1) (hk:(b.kind=7∧b.ports.length=3∧b.data.length=0)∨(b.kind=8∧b.ports.length=2∧b.data.length=1)) (hA:A.length≤8000000):
  ∃A2 B2 new,(∀bk r,Cd ⟨⟨A⟩,bk,r⟩ x y=some ⟨⟨A2⟩,bk,r⟩)∧FP ⟨B⟩ x y=some ⟨B2⟩∧Done S A x y new A2 B2∧NBs new∧SV new∧new.length=1:=by
 have hb:b.data.length≤Big∧b.ports.length≤Big:=by grind
 rcases hk with ⟨k1,k2,k3⟩|⟨k1,k2,k3⟩
 ·obtain⟨A1,A2,A3,B1,B2,B3,e1,e2,e3,f1,f2,f3,d⟩:=Zf h hp ha k2 hA 8 b.level b.value [a.value] (by grind)
  refine⟨A3,B3,_,fun bk r=>?_,?_,d,?_⟩
  ·unfold Cd
   rw [hp.hx,AA,hp.hy,AA,if_pos (by grind),e1,AA,e2,AA,e3,AA]
  ·unfold FP
   rw [hp.bY h,AA,JC b hb.1 hb.2,AA,hp.bx h,AA,if_neg (by grind),f1,AA]
   simp_all [Cp]
  ·refine⟨⟨fun n hn=>?_,by simp⟩,fun n hn=>?_,rfl⟩
   ·rw [List.mem_singleton] at hn; subst hn
    exact⟨by simp,by simp,by simp⟩
   ·rw [List.mem_singleton] at hn; subst hn
    have lb:=Tk (m:=8) (MI gb).1 (by omega) (by omega)
    simp_all [GX,shB,agB,ports]
 ·obtain⟨d0,hd0⟩:∃d0,at? b.data 0=some d0:=by
   obtain⟨u,hu,-⟩:=EA (l:=b.data) (i:=0) (by omega)
   grind
  obtain⟨v,hv⟩:=iz b.value d0 a.value
  obtain⟨A1,A2,B1,B2,e1,e2,f1,f2,d⟩:=Vb h hp ha k2 hA 6 0 v [] (by simp)
  refine⟨A2,B2,_,fun bk r=>?_,?_,d,?_⟩
  ·unfold Cd
   rw [hp.hx,AA,hp.hy,AA,if_neg (by grind),hd0,AA,hv,AA,e1,AA,e2,AA]
  ·unfold FP
   rw [hp.bY h,AA,JC b hb.1 hb.2,AA,hp.bx h,AA,if_pos (by grind),hd0,AA,iy,hv,AA,f1,AA]
   grind [Cp]
  ·refine⟨⟨fun n hn=>?_,by simp⟩,fun n hn=>?_,rfl⟩
   ·rw [List.mem_singleton] at hn; subst hn
    exact⟨by simp,by simp,by simp⟩
   grind [i1,shB,agB,GX,levB]
theorem Zg (h:Ok S (fun p=>S p.agent) A B) {x y} {a b} (hp:Pr S A x y a b) (gb:agB b=true) (ha:a.ports.length=1) (hka:a.kind=6) (hkb:b.kind=11) (hb:b.ports.length=2) (hd:b.data.length=2) (hA:A.length≤8000000):
  ∃A2 B2 new,(∀bk r,Br ⟨⟨A⟩,bk,r⟩ x y=some ⟨⟨A2⟩,bk,r⟩)∧EH ⟨B⟩ x y=some ⟨B2⟩∧Done S A x y new A2 B2∧NBs new∧SV new∧new.length=1:=by
 have hbb:b.data.length≤Big∧b.ports.length≤Big:=by grind
 obtain⟨d0,hd0,-⟩:=EA (l:=b.data) (i:=0) (by omega)
 obtain⟨d1,hd1,-⟩:=EA (l:=b.data) (i:=1) (by omega)
 obtain⟨A1,A2,B1,B2,e1,e2,f1,f2,d⟩:=Vb h hp ha hb hA 12 b.level (if a.value=0 then d1 else d0) [] (by simp)
 refine⟨A2,B2,_,fun bk r=>?_,?_,d,?_⟩
 ·unfold Br
  rw [hp.hx,AA,hp.hy,AA,if_pos (by grind),Vc,AA]
  grind
 ·unfold EH FA
  rw [hp.bY h,AA,JC b hbb.1 hbb.2,AA,if_pos (by grind),hd1,AA,hp.bx h,AA]
  grind [Cp]
 ·refine⟨⟨fun n hn=>?_,by simp⟩,fun n hn=>?_,rfl⟩
  ·rw [List.mem_singleton] at hn; subst hn
   exact⟨by simp,by simp,by simp⟩
  ·rw [List.mem_singleton] at hn; subst hn
   have lb:=Tk (m:=12) (MI gb).1 (by omega) (by omega)
   have cb:=(MI gb).2.1
   unfold GX at cb
   rw [if_neg (by omega),if_neg (by omega),if_neg (by omega),if_neg (by omega),if_neg (by omega),if_neg (by omega),if_pos hkb] at cb
   simp only [Bool.and_eq_true,decide_eq_true_eq,List.all_eq_true] at cb
   have m0:=cb.2 d0 (List.mem_of_getElem? (BN hd0).2)
   have m1:=cb.2 d1 (List.mem_of_getElem? (BN hd1).2)
   grind [shB,agB,ports,GX]
end
theorem YP {l} {p q u} {x} (h:Ab.get l p=some u):upd (l++[x]) p q=upd l p q++[x] :=by
 obtain⟨a,h1,-⟩:=Aw.1 h
 obtain⟨h2,h3⟩:=BN h1
 have h4:=Cq h1
 have h5:at? (l++[x]) p.agent=some a:=by rw [N3,if_neg (by omega)]; exact h1
 rw [KS h1,KS h5,List.set_append_left]
 omega
theorem i6 {l} {p q u v} {x} (hp:Ab.get l p=some u) (hq:Ab.get l q=some v):lk (l++[x]) p q=lk l p q++[x] :=by
 unfold lk
 have:∃w,Ab.get (upd l p q) q=some w:=by
  rw [N1 hp]; grind
 obtain⟨w,hw⟩:=this
 rw [YP hp,YP hw]
theorem FI {l} {p q r u v} (hp:Ab.get l p=some u) (hr:Ab.get l r=some v) (h:r≠p):Ab.get (upd l p q) r=some v:=by rw [N1 hp,if_neg h]; exact hr
theorem mu {l} {p q n v a b c d} (hp:Ab.get l p=some a) (hq:Ab.get l q=some b) (hn:Ab.get l n=some c) (hv:Ab.get l v=some d) (pq:p≠q) (nv:n≠v) (h1:p≠n) (h2:p≠v) (h3:q≠n) (h4:q≠v):lk (lk l p q) n v=lk (lk l n v) p q:=by
 unfold lk
 have p1:=fun x=>FI (q:=x) hp hq pq.symm
 have p2:=fun x=>FI (q:=x) hp hn h1.symm
 have p3:=fun x=>FI (q:=x) hp hv h2.symm
 have n1:=fun x=>FI (q:=x) hn hp h1
 have n2:=fun x=>FI (q:=x) hn hq h3
 have n3:=fun x=>FI (q:=x) hn hv nv.symm
 rw [LV h3 (p1 q) (p2 q),LV h1 hp hn]
 have e1:Ab.get (upd (upd l n v) p q) q=some b:=FI (n1 v) (n2 v) pq.symm
 have e2:Ab.get (upd (upd l n v) p q) v=some d:=FI (n1 v) (n3 v) h2.symm
 rw [LV h4 e1 e2,LV h2 (n1 v) (n3 v)]
def He (lv:Int):Sh:=(3,lv,0,[],3)
def gro (lv:Int):Nat→Port→List Agent→List Agent
 |0,_,l=>l
 |k+1,top,l=>gro lv k ⟨(l.length:Int),2⟩ (lk (l++[newA 3 lv 0 [] 3]) ⟨(l.length:Int),0⟩ top)
def Pa:Nat→Port→Nat→Port
 |0,top,_=>top
 |k+1,_,n=>Pa k ⟨(n:Int),2⟩ (n+1)
def Ih (n:Nat):Nat→List Int
 |0=>[]
 |k+1=>(n:Int)::Ih (n+1) k
theorem MJ (k:Nat):∀n,(Ih n k).length =k:=by
 induction k with
 |zero=>intro n; rfl
 |succ k ih=>intro n; rw [Ih,List.length_cons,ih]
theorem Ve (k:Nat):∀n j,j<k→(Ih n k)[j]? =some ((n+j:Nat):Int):=by
 induction k with
 |zero=>omega
 |succ k ih=>
  grind [Ih]
theorem LY {l:List Agent} {k lv v:Int} {d:List Int} {n:Nat} {s:Int} (h0:0≤s) (hs:s<(n:Int)):Ab.get (l++[newA k lv v d n]) ⟨(l.length:Int),s⟩=some ⟨0,0⟩:=by
 rw [Jt,if_pos rfl]
 unfold newA at?
 simp only
 rw [if_pos h0,List.getElem?_replicate,if_pos (by omega)]
theorem KV {l} {x} {p u} (h:Ab.get l p=some u):Ab.get (l++[x]) p=some u:=by
 have:=DS h
 rw [Jt,if_neg (by omega)]; exact h
theorem mw (a0:Rewriter) (x y:Int) (a b:Agent) (hf:a.ports.length≤5) (r:List (Int × Bool)):∀ (k i m:Nat) (top:Port) (l:List Agent) (apps:List Int) (t:Port),i+k+1=a.ports.length→k<m→l.length+k≤16000000→apps.length+k≤100→Ab.get l top=some t→
  BP m a0 x y a b r l top.agent top.slot apps (i:Int)=BE fuel a0 x y (Pa k top l.length).agent (Pa k top l.length).slot (apps++Ih l.length k) r (gro b.level k top l) 0:=by
 intro k
 induction k with
 |zero=>
  intro i m top l apps t h hm hl hap ht
  obtain⟨m,rfl⟩:∃q,m=q+1:=⟨m - 1,by omega⟩
  rw [BP,if_neg (by rw [w64 (by omega) (by omega)]; grind)]
  grind [Pa,gro,Ih]
 | succ k ih=>
  intro i m top l apps t h hm hl hap ht
  obtain⟨m,rfl⟩:∃q,m=q+1:=⟨m - 1,by omega⟩
  rw [BP,if_pos (by rw [w64 (by omega) (by omega)]; grind)]
  have e:Ag ⟨⟨l⟩,a0.book,r⟩ 3 b.level 0 [] 3=some ((l.length:Int),⟨⟨l++[newA 3 b.level 0 [] 3]⟩,a0.book,r⟩):=YM l a0.book r 3 b.level 0 [] 3 (by grind) (by simp) (by grind)
  have g1:Ab.get (l++[newA 3 b.level 0 [] 3]) ⟨(l.length:Int),0⟩=some ⟨0,0⟩:=LY (by omega) (by omega)
  have g2:Ab.get (l++[newA 3 b.level 0 [] 3]) top=some t:=KV ht
  have g3:Ab.get (l++[newA 3 b.level 0 [] 3]) ⟨(l.length:Int),2⟩=some ⟨0,0⟩:=LY (by omega) (by omega)
  have tl:=DS ht
  have g4:Ab.get (lk (l++[newA 3 b.level 0 [] 3]) ⟨(l.length:Int),0⟩ top) ⟨(l.length:Int),2⟩=some ⟨0,0⟩:=by
   rw [JB g1 g2 (by simp) (fun e=>by grind)]; exact g3
  rw [e,AA]
  simp only
  rw [Js,G3 g1 g2,AA,CO (by grind),AA]
  rw [w64 (by omega) (by omega),show ((i:Int)+1)=((i+1:Nat):Int) from by omega]
  have:=ih (i+1) m ⟨(l.length:Int),2⟩ (lk (l++[newA 3 b.level 0 [] 3]) ⟨(l.length:Int),0⟩ top) (apps++[(l.length:Int)]) ⟨0,0⟩ (by omega) (by omega) (by rw [NJ]; grind) (by grind) g4
  rw [NJ,List.length_append,List.length_singleton] at this
  grind [Pa,gro,Ih]
theorem i7 (lv:Int):∀ (r:Nat) (T:List Agent) (X:Port→Prop) (top t o v n u:Port),M T X→Ab.get T top=some t→X top→Ab.get T o=some v→¬X o→Ab.get T n=some u→X n→top≠n→
  Ab.get (gro lv r top T) o=some v∧Ab.get (gro lv r top T) v=some o∧Ab.get (gro lv r top T) n=some u∧mv (gro lv r top T) o n=gro lv r top (mv T o n):=by
 intro r
 induction r with
 |zero=>
  intro T X top t o v n u hm ht xt ho xo hn xn hne
  obtain⟨-,-,h3⟩:=hm o v ho xo
  exact⟨ho,h3,hn,rfl⟩
 | succ r ih=>
  intro T X top t o v n u hm ht xt ho xo hn xn hne
  obtain⟨h1,h2,h3⟩:=hm o v ho xo
  have lt:=DS ht
  have lo:=DS ho
  have lv':=DS h3
  have ln:=DS hn
  have g1:Ab.get (T++[newA 3 lv 0 [] 3]) ⟨(T.length:Int),0⟩=some ⟨0,0⟩:=LY (by omega) (by omega)
  have g2:Ab.get (T++[newA 3 lv 0 [] 3]) top=some t:=KV ht
  have g3:Ab.get (T++[newA 3 lv 0 [] 3]) ⟨(T.length:Int),2⟩=some ⟨0,0⟩:=LY (by omega) (by omega)
  have nN:∀ (p:Port) (s:Int),p.agent<(T.length:Int)→p≠⟨(T.length:Int),s⟩:=fun p s hp e=>by rw [Az] at e; omega
  have ot:o≠top:=fun e=>xo (e ▸ xt)
  have vt:v≠top:=fun e=>h1 (e ▸ xt)
  have nv:n≠v:=fun e=>h1 (e ▸ xn)
  have no:n≠o:=fun e=>xo (e ▸ xn)
  have hM:M (lk (T++[newA 3 lv 0 [] 3]) ⟨(T.length:Int),0⟩ top) fun p=>(X p∨p.agent=(T.length:Int))∧p≠⟨(T.length:Int),0⟩∧p≠top:=by
   refine M.link (X:=fun p=>X p∨p.agent=(T.length:Int)) (fun p q hp hx=>?_) g1 g2 (nN top 0 lt.2).symm (.inr rfl) (.inl xt)
   have e1:p.agent≠(T.length:Int):=fun e=>hx (.inr e)
   rw [Jt,if_neg e1] at hp
   obtain⟨k1,k2,k3⟩:=hm p q hp fun e=>hx (.inl e)
   have:=DS k3
   refine⟨fun hq=>?_,k2,KV k3⟩
   grind
  have gg:∀ (p w:Port),p≠top→Ab.get T p=some w→Ab.get (lk (T++[newA 3 lv 0 [] 3]) ⟨(T.length:Int),0⟩ top) p=some w:=fun p w hpt hp=>by
   rw [JB g1 g2 (nN p 0 (DS hp).2) hpt]; exact KV hp
  have g4:Ab.get (lk (T++[newA 3 lv 0 [] 3]) ⟨(T.length:Int),0⟩ top) ⟨(T.length:Int),2⟩=some ⟨0,0⟩:=by
   rw [JB g1 g2 (by simp) (nN top 2 lt.2).symm]; exact g3
  obtain⟨k1,k2,k3,k4⟩:=ih _ _ ⟨(T.length:Int),2⟩ _ o v n u hM g4 ⟨.inr rfl,by simp,(nN top 2 lt.2).symm⟩ (gg o v ot ho)
   (fun e=>by
    grind) (gg n u hne.symm hn) ⟨.inl xn,nN n 0 ln.2,hne.symm⟩ (nN n 2 ln.2).symm
  refine⟨k1,k2,k3,?_⟩
  have e1:mv T o n=lk T n v:=by unfold mv; rw [ho]
  have e2:mv (lk (T++[newA 3 lv 0 [] 3]) ⟨(T.length:Int),0⟩ top) o n=lk (lk (T++[newA 3 lv 0 [] 3]) ⟨(T.length:Int),0⟩ top) n v:=by unfold mv; rw [gg o v ot ho]
  have e3:(mv T o n).length =T.length:=by rw [e1,NJ]
  rw [gro,k4,gro,e3,e2,e1,mu g1 g2 (KV hn) (KV h3) (nN top 0 lt.2).symm nv (nN n 0 ln.2).symm (nN v 0 lv'.2).symm hne vt.symm,i6 hn h3]
section
variable {S:Int→Prop} {A B:List Agent}
def conX (S:Int→Prop) (x y:Int) (j:Nat) (ta ts:Int) (p:Port):Prop:=S p.agent∨(p.agent=x∧p.slot≤(j:Int))∨(p.agent=y∧p.slot=0)∨(p.agent=ta∧p.slot=ts)
theorem cd (hS:∀k,S k→0≤k∧k<(A.length:Int)) {x y} {a b} (hp:Pr S A x y a b) (hne:x≠y) (hb:b.ports.length=2) (hA:A.length≤8000000) (K:Nat) (hK:a.ports.length=K+1) (hK5:K≤4) (c:Sh) (tf:Port):
  ∀ (r j m m':Nat) (L B1:List Agent) (ta ts:Int) (t:Port),j+r=K→r<m→r<m'→Way1 S A (c::List.replicate j (He b.level)) (conX S x y j ta ts) L B1→Ab.get L ⟨ta,ts⟩=some t→(A.length:Int)≤ta→tf=Pa r ⟨ta,ts⟩ L.length→
   ∃A2 B2,(∀ (a0:Rewriter) rr,BE m a0 x y tf.agent tf.slot (Ih (A.length+1) K) rr (gro b.level r ⟨ta,ts⟩ L) (j:Int)=some ⟨⟨A2⟩,a0.book,rr⟩)∧Cm m' x y b (K:Int) B1 ta ts ((j:Int)+1)=some ⟨B2⟩∧Done S A x y (c::List.replicate K (He b.level)) A2 B2:=by
 have hyl:=Cq hp.hy
 have hxl:=Cq hp.hx
 intro r
 induction r with
 | zero=>
  intro j m m' L B1 ta ts t h hm hm' hw ht hta htf
  obtain⟨m,rfl⟩:∃q,m=q+1:=⟨m - 1,by omega⟩
  obtain⟨m',rfl⟩:∃q,m'=q+1:=⟨m' - 1,by omega⟩
  have hj:j=K:=by omega
  subst hj
  have tl:=DS ht
  simp only at tl
  obtain⟨u,g1⟩:=hw.old hp.hy (s:=1) (by omega) (by omega)
  have nS:¬S ta:=fun hs=>by grind
  obtain⟨A2,B2,e1,e2,w⟩:=hw.move (o:=⟨y,1⟩) (n:=⟨ta,ts⟩) g1 ht (fun h=>by
    unfold conX at h
    simp only at h
    rcases h with h|h|h|h
    ·exact hp.sy h
    ·omega
    ·omega
    ·omega) (.inr (.inr (.inr ⟨rfl,rfl⟩))) nS (Y:=fun p=>S p.agent∨p.agent=x∨p.agent=y) (fun p q hq=>by
    have hx2:p.agent=x→p.slot≤(j:Int):=fun e=>by
     have:=Bi hq (x:=sh a) (by rw [hw.shp,e]; exact B6 (DX hp.hx))
     grind [sh]
    have hy2:p.agent=y→p.slot=0∨p.slot=1:=fun e=>by
     have:=Bi hq (x:=sh b) (by rw [hw.shp,e]; exact B6 (DX hp.hy))
     grind [sh]
    grind [conX,Az]) fun p hs=>.inl hs
  refine⟨A2,B2,fun a0 rr=>?_,?_,w.ok,w.shp,w.fr⟩
  ·rw [BE,if_neg (by rw [MJ]; simp),htf]
   simp only [Pa,gro]
   rw [e1,AA]
  grind [Cm,Cp]
 | succ r ih=>
  intro j m m' L B1 ta ts t h hm hm' hw ht hta htf
  obtain⟨m,rfl⟩:∃q,m=q+1:=⟨m - 1,by omega⟩
  obtain⟨m',rfl⟩:∃q,m'=q+1:=⟨m' - 1,by omega⟩
  have hlen:=hw.len
  rw [List.length_cons,List.length_replicate] at hlen
  have tl:=DS ht
  simp only at tl
  have nS:∀k:Int,(A.length:Int)≤k→¬S k:=fun k hk hs=>by grind
  obtain⟨e1,e2,w1⟩:=hw.add 3 b.level 0 [] 3 (by grind) (by simp) (by grind)
  rw [List.length_cons,List.length_replicate,← hlen] at e1 e2 w1
  have hnew:((c::List.replicate j (He b.level))++[(3,b.level,0,[],3)])[j+1]? =some (He b.level):=by
   rw [List.getElem?_append_right (by simp)]; simp [He]
  have hN:((A.length+(j+1):Nat):Int)=(L.length:Int):=by omega
  obtain⟨u0,g0⟩:=w1.new hnew (s:=0) (by omega) (by simp [He])
  rw [hN] at g0
  have g2:Ab.get (L++[newA 3 b.level 0 [] 3]) ⟨ta,ts⟩=some t:=KV ht
  obtain⟨T,BT,k1,k2,k3,k4,w2⟩:=w1.link g0 g2 (fun e=>by rw [Az] at e; grind) (.inr rfl) (.inl (.inr (.inr (.inr ⟨rfl,rfl⟩)))) (nS _ (by grind)) (nS _ hta)
  have hT:T=lk (L++[newA 3 b.level 0 [] 3]) ⟨(L.length:Int),0⟩ ⟨ta,ts⟩:=by
   rw [Js,G3 g0 g2] at k1
   grind
  obtain⟨u1,g3⟩:=w2.new hnew (s:=1) (by omega) (by simp [He])
  obtain⟨u2,g4⟩:=w2.new hnew (s:=2) (by omega) (by simp [He])
  rw [hN] at g3 g4
  obtain⟨v,g5⟩:=w2.old hp.hx (s:=(j:Int)+1) (by omega) (by omega)
  have xo:¬ ((fun r=>(conX S x y j ta ts r∨r.agent=(L.length:Int))∧r≠⟨(L.length:Int),0⟩∧r≠⟨ta,ts⟩) (⟨x,(j:Int)+1⟩:Port)):=fun h=>by
   unfold conX at h
   simp only at h
   rcases h.1 with (h|h|h|h)|h
   ·exact hp.sx h
   ·omega
   ·omega
   ·omega
   ·omega
  have xn:(fun r=>(conX S x y j ta ts r∨r.agent=(L.length:Int))∧r≠⟨(L.length:Int),0⟩∧r≠⟨ta,ts⟩) (⟨(L.length:Int),1⟩:Port):=⟨.inr rfl,by simp,fun e=>by rw [Az] at e; grind⟩
  have xt:(fun r=>(conX S x y j ta ts r∨r.agent=(L.length:Int))∧r≠⟨(L.length:Int),0⟩∧r≠⟨ta,ts⟩) (⟨(L.length:Int),2⟩:Port):=⟨.inr rfl,by simp,fun e=>by rw [Az] at e; grind⟩
  obtain⟨q1,q2,q3,q4⟩:=i7 b.level r T _ ⟨(L.length:Int),2⟩ u2 ⟨x,(j:Int)+1⟩ v ⟨(L.length:Int),1⟩ u1 w2.ok.m g4 xt g5 xo g3 xn (by simp)
  obtain⟨A2,B2,f1,f2,w3⟩:=w2.move g5 g3 xo xn (nS _ (by grind)) (Y:=conX S x y (j+1) (L.length:Int) 2) (fun p q hq=>by
    have hn:p.agent=(L.length:Int)→p.slot=0∨p.slot=1∨p.slot=2:=fun e=>by
     have:=Bi hq (x:=He b.level) (by
      rw [w2.shp,e,← hN]
      have:=Fj (l:=A.map sh) hnew
      rwa [List.length_map] at this)
     grind [He]
    unfold conX
    simp only [ne_eq,Az]
    grind) fun p hs=>.inl hs
  have hA2:A2=mv T ⟨x,(j:Int)+1⟩ ⟨(L.length:Int),1⟩:=by
   obtain⟨-,-,h3⟩:=w2.ok.m _ _ g5 xo
   have:=f1 [] []
   rw [Ti g5 h3 g3] at this
   grind
  have hl3:A2.length=L.length+1:=by
   have:=w3.len
   simp only [List.length_append,List.length_cons,List.length_replicate,List.length_nil] at this; omega
  obtain⟨u3,g6⟩:=w3.new hnew (s:=2) (by omega) (by simp [He])
  rw [hN] at g6
  obtain⟨A3,B3,r1,r2,r3⟩:=ih (j+1) m m' A2 B2 (L.length:Int) 2 u3 (by omega) (by omega) (by omega) (by
   rw [List.replicate_succ',← List.cons_append]; exact w3) g6 (by omega) (by rw [htf,Pa,hl3])
  refine⟨A3,B3,fun a0 rr=>?_,?_,r3⟩
  ·have hix:at? (Ih (A.length+1) K) (j:Int)=some (L.length:Int):=by
    rw [LU (Ve K (A.length+1) j (by omega))]; congr 2; omega
   rw [BE,if_pos (by rw [MJ]; simp; omega),hix,AA,w64 (by omega) (by omega),gro,← hT,Ti q1 q2 q3,AA,q4,← hA2,show ((j:Int)+1)=((j+1:Nat):Int) from by omega]
   exact r1 a0 rr
  ·rw [Cm,if_pos (by simp; omega)]
   have e2':CZ ⟨B1⟩ 3 b.level 0 [] 3=some ((L.length:Int),⟨B1++[newA 3 b.level 0 [] 3]⟩):=e2
   rw [e2',AA,Cp,AA,k4,AA,Cp,AA,Cp,AA,f2,AA,Cp,AA,w64 (by omega) (by omega),show ((j:Int)+1+1)=((j+1:Nat):Int)+1 from by omega]
   exact r2
theorem ce (h:Ok S (fun p=>S p.agent) A B) {x y} {a b} (hp:Pr S A x y a b) (gb:agB b=true) (hka:a.kind=9) (hkb:b.kind=10) (K:Nat) (hK:a.ports.length=K+1) (hK3:K≤3) (hb:b.ports.length=2) (hd:b.data.length≤4) (hv:0≤a.value) (hv2:a.value<(b.data.length:Int)) (hA:A.length≤8000000):
  ∃A2 B2 new,(∀bk r,Br ⟨⟨A⟩,bk,r⟩ x y=some ⟨⟨A2⟩,bk,r⟩)∧EH ⟨B⟩ x y=some ⟨B2⟩∧Done S A x y new A2 B2∧NBs new∧SV new∧new.length=K+1:=by
 obtain⟨h0,hne⟩:=h.start hp
 obtain⟨d,hd1,-⟩:=EA (l:=b.data) (i:=a.value) ⟨hv,hv2⟩
 have hxl:=Cq hp.hx
 have hyl:=Cq hp.hy
 have w0:Way1 S A [] (fun p=>S p.agent∨p=⟨x,0⟩∨p=⟨y,0⟩) A B:=⟨h0,by simp,.refl⟩
 obtain⟨e1,e2,w1⟩:=w0.add 12 b.level d [] 1 (by grind) (by simp) (by grind)
 simp only [List.length_nil,Nat.add_zero,List.nil_append,Int.natCast_one] at e1 e2 w1
 have nS:∀k:Int,(A.length:Int)≤k→¬S k:=fun k hk hs=>by have:=h.s_lt hs; omega
 have w2:Way1 S A ((12,b.level,d,[],1)::List.replicate 0 (He b.level)) (conX S x y 0 (A.length:Int) 0) (A++[newA 12 b.level d [] 1]) (B++[newA 12 b.level d [] 1]):=by
  refine w1.mono (fun p q hq=>?_) fun p hs=>.inl hs
  have h1:p.agent=(A.length:Int)→p.slot=0:=fun e=>by
   have:=Bi hq (x:=(12,b.level,d,[],1)) (by
    rw [w1.shp,e]
    have:=Fj (l:=A.map sh) (m:=[(12,b.level,d,[],1)]) (k:=0) rfl
    rwa [List.length_map,Nat.add_zero] at this)
   grind
  have h2:p.agent=x→0≤p.slot:=fun e=>(Bi hq (x:=sh a) (by rw [w1.shp,e]; exact B6 (DX hp.hx))).1
  grind [conX,Az]
 have hF:DB a=some (K:Int):=by
  grind [DB,w64]
 have hg:Ab.get (A++[newA 12 b.level d [] 1]) ⟨(A.length:Int),0⟩=some ⟨0,0⟩:=LY (by omega) (by omega)
 obtain⟨A2,B2,s1,s2,s3⟩:=cd (fun k hk=>h.s_lt hk) hp hne hb hA K hK (by omega) _ _ K 0 fuel fuel _ _ _ _ _ (by omega) (by rw [Af]; omega) (by rw [Af]; omega) w2 hg (Int.le_refl _) rfl
 rw [List.length_append,List.length_singleton] at s1
 refine⟨A2,B2,_,fun bk r=>?_,?_,s3,⟨fun n hn=>?_,by grind⟩,fun n hn=>?_,by simp⟩
 ·unfold Br Dh
  rw [hp.hx,AA,hp.hy,AA,if_neg (by grind),hd1,AA,e1,AA]
  have:=mw ⟨⟨A⟩,bk,r⟩ x y a b (by omega) r K 0 fuel ⟨(A.length:Int),0⟩ _ [] _ (by omega) (by rw [Af]; omega) (by grind) (by grind) hg
  rw [List.length_append,List.length_singleton,List.nil_append] at this
  grind
 ·unfold EH
  rw [hp.bY h,AA,JC b (by grind) (by grind),AA,if_neg (by grind),hp.bx h,AA,hF,AA,AA,hd1,AA,e2,AA,Cp,AA]
  exact s2
 ·rcases List.mem_cons.1 hn with e|e
  ·subst e; exact⟨by simp,by simp,by simp⟩
  ·rw [(List.mem_replicate.1 e).2]; exact⟨by simp [He],by simp [He],by simp [He]⟩
 ·have cb:=(MI gb).2.1
  unfold GX at cb
  rw [if_neg (by omega),if_neg (by omega),if_neg (by omega),if_neg (by omega),if_neg (by omega),if_pos hkb] at cb
  simp only [Bool.and_eq_true,decide_eq_true_eq,List.all_eq_true] at cb
  have m1:=cb.2 d (List.mem_of_getElem? (BN hd1).2)
  rcases List.mem_cons.1 hn with e|e
  ·subst e
   grind [Tk,shB,agB,ports,GX]
  ·rw [(List.mem_replicate.1 e).2]
   have lb:=Tk (m:=3) (MI gb).1 (by omega) (by omega)
   simp_all [He,shB,agB,ports,GX]
end
section
variable {S:Int→Prop} {A B:List Agent}
def dupS (lv:Int):Sh:=(4,lv,0,[],3)
def dupX (S:Int→Prop) (x y:Int) (n i:Nat) (p:Port):Prop:=
 S p.agent∨(p.agent=x∧p.slot=0)∨(p.agent=y∧p.slot=0)∨(p.agent=(n:Int)∧(p.slot=0∨(i:Int)≤p.slot))∨(p.agent=(n:Int)+1∧(p.slot=0∨(i:Int)≤p.slot))∨((n:Int)+2≤p.agent∧p.slot=0)
def XL (S:Int→Prop) (x y:Int) (n t:Nat) (p:Port):Prop:=
 S p.agent∨p.agent=x∨(p.agent=y∧p.slot≤(t:Int))∨((n:Int)+2+(t:Int)≤p.agent∧p.slot=0)
theorem Zh (hS:∀k,S k→0≤k∧k<(A.length:Int)) {x y} {a b} (hp:Pr S A x y a b) (hA:A.length≤8000000) (hb:b.ports.length≤4) (u2 u3:Int × Net) (hu2:u2.1 =(A.length:Int)) (hu3:u3.1 =(A.length:Int)+1):
  ∀ (k i m m':Nat) (L B1:List Agent),i+k=b.ports.length→1≤i→k<m→k<m'→Way1 S A (sh b::sh b::List.replicate (i - 1) (dupS a.level)) (dupX S x y A.length i) L B1→
   ∃L' B' m1 m2,(∀ (a0:Rewriter) (v2 v3:Int × Rewriter) rr (apps:List Int),v2.1 =(A.length:Int)→v3.1 =(A.length:Int)+1→apps.length+k≤100→An m a0 x y b v2 v3 rr L apps (i:Int)=An (m1+1) a0 x y b v2 v3 rr L' (apps++Ih (A.length+1+i) k) (b.ports.length:Int))∧
    Bc m' x y a b u2 u3 B1 (i:Int)=Bc (m2+1) x y a b u2 u3 B' (b.ports.length:Int)∧Way1 S A (sh b::sh b::List.replicate (b.ports.length - 1) (dupS a.level)) (dupX S x y A.length b.ports.length) L' B':=by
 have hyl:=Cq hp.hy
 have hxl:=Cq hp.hx
 intro k
 induction k with
 |zero=>
  intro i m m' L B1 h h1 hm hm' hw
  obtain⟨m,rfl⟩:∃q,m=q+1:=⟨m - 1,by omega⟩
  obtain⟨m',rfl⟩:∃q,m'=q+1:=⟨m' - 1,by omega⟩
  have:i=b.ports.length:=by omega
  subst this
  exact⟨L,B1,m,m',fun a0 v2 v3 rr apps _ _ _=>by rw [Ih,List.append_nil],rfl,hw⟩
 | succ k ih=>
  intro i m m' L B1 h h1 hm hm' hw
  obtain⟨m,rfl⟩:∃q,m=q+1:=⟨m - 1,by omega⟩
  obtain⟨m',rfl⟩:∃q,m'=q+1:=⟨m' - 1,by omega⟩
  have hlen:=hw.len
  simp only [List.length_cons,List.length_replicate] at hlen
  have nS:∀k:Int,(A.length:Int)≤k→¬S k:=fun k hk hs=>by grind
  have hsx:at? (L.map sh) x=some (sh a):=by rw [hw.shp]; exact B6 (DX hp.hx)
  obtain⟨a',ha',has⟩:=LW hsx
  have hal:a'.level=a.level:=by grind [sh]
  obtain⟨e1,e2,w1⟩:=hw.add 4 a.level 0 [] 3 (by grind) (by simp) (by grind)
  rw [List.length_cons,List.length_cons,List.length_replicate,show A.length+(i - 1+1+1)=L.length from by omega] at e1 e2 w1
  have n0:((sh b::sh b::List.replicate (i - 1) (dupS a.level))++[(4,a.level,0,[],3)])[0]? =some (sh b):=rfl
  have n1:((sh b::sh b::List.replicate (i - 1) (dupS a.level))++[(4,a.level,0,[],3)])[1]? =some (sh b):=rfl
  have n2:((sh b::sh b::List.replicate (i - 1) (dupS a.level))++[(4,a.level,0,[],3)])[2+(i - 1)]? =some (dupS a.level):=by
   rw [List.getElem?_append_right (by grind)]
   simp only [List.length_cons,List.length_replicate]
   rw [show 2+(i - 1) - (i - 1+1+1)=0 from by omega]; rfl
  have hN:((A.length+(2+(i - 1)):Nat):Int)=(L.length:Int):=by omega
  obtain⟨q1,g1⟩:=w1.new n2 (s:=1) (by omega) (by simp [dupS])
  obtain⟨q2,g2⟩:=w1.new n0 (s:=(i:Int)) (by omega) (by grind [sh])
  rw [hN] at g1
  rw [Nat.add_zero] at g2
  obtain⟨T1,B2,k1,-,k2,-,w2⟩:=w1.link g1 g2 (fun e=>by rw [Az] at e; grind) (.inr rfl) (.inl (.inr (.inr (.inr (.inl ⟨rfl,.inr (Int.le_refl _)⟩))))) (nS _ (by grind)) (nS _ (by grind))
  obtain⟨q3,g3⟩:=w2.new n2 (s:=2) (by omega) (by simp [dupS])
  obtain⟨q4,g4⟩:=w2.new n1 (s:=(i:Int)) (by omega) (by grind [sh])
  rw [hN] at g3
  rw [show ((A.length+1:Nat):Int)=(A.length:Int)+1 from by omega] at g4
  obtain⟨T2,B3,k3,-,k4,-,w3⟩:=w2.link g3 g4 (fun e=>by rw [Az] at e; grind) ⟨.inr rfl,by simp,fun e=>by rw [Az] at e; grind⟩ ⟨.inl (.inr (.inr (.inr (.inr (.inl ⟨rfl,.inr (Int.le_refl _)⟩))))),fun e=>by rw [Az] at e; grind,fun e=>by rw [Az] at e; grind⟩ (nS _ (by grind)) (nS _ (by grind))
  have w4:Way1 S A (sh b::sh b::List.replicate (i+1 - 1) (dupS a.level)) (dupX S x y A.length (i+1)) T2 B3:=by
   have e:sh b::sh b::List.replicate (i+1 - 1) (dupS a.level)=(sh b::sh b::List.replicate (i - 1) (dupS a.level))++[(4,a.level,0,[],3)] :=by
    rw [show i+1 - 1=i - 1+1 from by omega,List.replicate_succ']; rfl
   rw [e]
   refine w3.mono (fun p q hq=>?_) fun p hs=>.inl hs
   have hn:p.agent=(L.length:Int)→p.slot=0∨p.slot=1∨p.slot=2:=fun e=>by
    have:=Bi hq (x:=dupS a.level) (by
     rw [w3.shp,e,← hN]
     have:=Fj (l:=A.map sh) n2
     rwa [List.length_map] at this)
    grind [dupS]
   have hlt:p.agent<(L.length:Int)+1:=by
    have:=DS hq
    have e5:=w3.len
    grind [List.length_replicate]
   unfold dupX
   simp only [ne_eq,Az]
   grind
  obtain⟨L',B',m1,m2,r1,r2,r3⟩:=ih (i+1) m m' T2 B3 (by omega) (by omega) (by omega) (by omega) w4
  refine⟨L',B',m1,m2,fun a0 v2 v3 rr apps hv2 hv3 hap=>?_,?_,r3⟩
  ·have e1':Ag ⟨⟨L⟩,a0.book,rr⟩ 4 a.level 0 [] 3=some ((L.length:Int),⟨⟨L++[newA 4 a.level 0 [] 3]⟩,a0.book,rr⟩):=e1 a0.book rr
   rw [An,if_pos (by grind),ha',AA,hal,e1',AA,hv2,hv3]
   simp only
   rw [k1,AA,k3,AA,CO (by unfold Big; simp; omega),AA,w64 (by omega) (by omega),show ((i:Int)+1)=((i+1:Nat):Int) from by omega,r1 a0 v2 v3 rr (apps++[(L.length:Int)]) hv2 hv3 (by simp; omega),Ih,List.append_assoc,List.singleton_append,show A.length+1+(i+1)=A.length+1+i+1 from by omega,show (L.length:Int)=((A.length+1+i:Nat):Int) from by omega]
  ·have e2':CZ ⟨B1⟩ 4 a.level 0 [] 3=some ((L.length:Int),⟨B1++[newA 4 a.level 0 [] 3]⟩):=e2
   rw [Bc,if_pos (by grind),e2',AA,hu2,hu3]
   simp only [Cp,AA]
   rw [k2,AA,k4,AA,w64 (by omega) (by omega),show ((i:Int)+1)=((i+1:Nat):Int) from by omega]
   exact r2
theorem Zi (hS:∀k,S k→0≤k∧k<(A.length:Int)) {x y} {a b} (hp:Pr S A x y a b) (hne:x≠y) (hA:A.length≤8000000) (P:Nat) (hP:b.ports.length=P+1) (hb:P≤3) (u3:Int × Net) (hu3:u3.1 =(A.length:Int)+1):
  ∀ (k t m m':Nat) (L B1:List Agent),t+k=P→k<m→k<m'→Way1 S A (sh b::sh b::List.replicate P (dupS a.level)) (XL S x y A.length t) L B1→
   ∃A2 B2,(∀ (a0:Rewriter) rr,A7 m a0 y (Ih (A.length+2) P) rr L (t:Int)=some ⟨⟨A2⟩,a0.book,rr⟩)∧Bs m' y b u3 B1 ((t:Int)+1)=some ⟨B2⟩∧Done S A x y (sh b::sh b::List.replicate P (dupS a.level)) A2 B2:=by
 have hyl:=Cq hp.hy
 have hxl:=Cq hp.hx
 intro k
 induction k with
 | zero=>
  intro t m m' L B1 h hm hm' hw
  obtain⟨m,rfl⟩:∃q,m=q+1:=⟨m - 1,by omega⟩
  obtain⟨m',rfl⟩:∃q,m'=q+1:=⟨m' - 1,by omega⟩
  refine⟨L,B1,fun a0 rr=>?_,?_,hw.done fun p q hq=>?_⟩
  ·rw [A7,if_neg (by rw [MJ]; grind)]
  ·rw [Bs,if_neg (by grind)]
  ·have hy2:p.agent=y→p.slot≤(t:Int):=fun e=>by
    have:=Bi hq (x:=sh b) (by rw [hw.shp,e]; exact B6 (DX hp.hy))
    grind [sh]
   have hlt:=DS hq
   have hlen:=hw.len
   grind [XL]
 | succ k ih=>
  intro t m m' L B1 h hm hm' hw
  obtain⟨m,rfl⟩:∃q,m=q+1:=⟨m - 1,by omega⟩
  obtain⟨m',rfl⟩:∃q,m'=q+1:=⟨m' - 1,by omega⟩
  have nS:∀k:Int,(A.length:Int)≤k→¬S k:=fun k hk hs=>by grind
  have n2:(sh b::sh b::List.replicate P (dupS a.level))[2+t]? =some (dupS a.level):=by
   rw [show 2+t=t+1+1 from by omega,List.getElem?_cons_succ,List.getElem?_cons_succ,List.getElem?_replicate,if_pos (by omega)]
  obtain⟨v,g1⟩:=hw.old hp.hy (s:=(t:Int)+1) (by omega) (by omega)
  obtain⟨u,g2⟩:=hw.new n2 (s:=0) (by omega) (by simp [dupS])
  rw [show ((A.length+(2+t):Nat):Int)=(A.length:Int)+2+(t:Int) from by omega] at g2
  obtain⟨A2,B2,f1,f2,w⟩:=hw.move g1 g2 (fun h=>by
    unfold XL at h
    simp only at h
    rcases h with h|h|h|h
    ·exact hp.sy h
    ·omega
    ·omega
    ·omega) (.inr (.inr (.inr ⟨Int.le_refl _,rfl⟩))) (nS _ (by grind)) (Y:=XL S x y A.length (t+1)) (fun p q hq=>by
    unfold XL
    simp only [ne_eq,Az]
    grind) fun p hs=>.inl hs
  obtain⟨A3,B3,r1,r2,r3⟩:=ih (t+1) m m' A2 B2 (by omega) (by omega) (by omega) w
  refine⟨A3,B3,fun a0 rr=>?_,?_,r3⟩
  ·have hix:at? (Ih (A.length+2) P) (t:Int)=some ((A.length:Int)+2+(t:Int)):=by
    rw [LU (Ve P (A.length+2) t (by omega))]; congr 1
   rw [A7,if_pos (by rw [MJ]; grind),hix,AA,w64 (by omega) (by omega),f1,AA,show ((t:Int)+1)=((t+1:Nat):Int) from by omega]
   grind
  ·rw [Bs,if_pos (by grind),Cp,AA,hu3,w64 (by omega) (by omega),Cp,AA,show (A.length:Int)+1+((t:Int)+1)=(A.length:Int)+2+(t:Int) from by omega,f2,AA,w64 (by omega) (by omega),show (t:Int)+1+1=((t+1:Nat):Int)+1 from by omega]
   exact r2
theorem i8 (h:Ok S (fun p=>S p.agent) A B) {x y} {a b} (hp:Pr S A x y a b) (ga:agB a=true) (gb:agB b=true) (hka:a.kind=4) (hkb:b.kind≠1) (ha:a.ports.length=3) (hb1:1≤b.ports.length) (hb:b.ports.length≤4) (hd:b.data.length≤4) (hbk:b.kind≠0) (hA:A.length≤8000000):
  ∃A2 B2 new,(∀bk r,Ck ⟨⟨A⟩,bk,r⟩ x y=some ⟨⟨A2⟩,bk,r⟩)∧E9 ⟨B⟩ x y=some ⟨B2⟩∧Done S A x y new A2 B2∧NBs new∧SV new∧new.length=b.ports.length+1:=by
 obtain⟨h0,hne⟩:=h.start hp
 have hxl:=Cq hp.hx
 have hyl:=Cq hp.hy
 have w0:Way1 S A [] (fun p=>S p.agent∨p=⟨x,0⟩∨p=⟨y,0⟩) A B:=⟨h0,by simp,.refl⟩
 obtain⟨e1,e2,w1⟩:=w0.add b.kind b.level b.value b.data b.ports.length (by grind) (by grind) (by grind)
 simp only [List.length_nil,Nat.add_zero,List.nil_append] at e1 e2 w1
 obtain⟨e3,e4,w2⟩:=w1.add b.kind b.level b.value b.data b.ports.length (by rw [List.length_append,List.length_singleton]; grind) (by grind) (by grind)
 simp only [List.length_singleton] at e3 e4 w2
 have nS:∀k:Int,(A.length:Int)≤k→¬S k:=fun k hk hs=>by have:=h.s_lt hs; omega
 have w3:Way1 S A (sh b::sh b::List.replicate (1 - 1) (dupS a.level)) (dupX S x y A.length 1) (A++[newA b.kind b.level b.value b.data b.ports.length] ++[newA b.kind b.level b.value b.data b.ports.length]) (B++[newA b.kind b.level b.value b.data b.ports.length] ++[newA b.kind b.level b.value b.data b.ports.length]):=by
  refine w2.mono (fun p q hq=>?_) fun p hs=>.inl hs
  have hlt:=DS hq
  simp only [List.length_append,List.length_singleton] at hlt
  have hs0:0≤p.slot:=by
   obtain⟨a,h1,h2⟩:=Aw.1 hq
   exact(Cq h2).1
  grind [dupX,Az]
 obtain⟨P,hP⟩:∃P,b.ports.length=P+1:=⟨b.ports.length - 1,by omega⟩
 obtain⟨L1,B1,m1,m2,r1,r2,w4⟩:=Zh (fun k hk=>h.s_lt hk) hp hA hb ((A.length:Int),⟨B++[newA b.kind b.level b.value b.data b.ports.length]⟩) (((A.length+1:Nat):Int),⟨B++[newA b.kind b.level b.value b.data b.ports.length] ++[newA b.kind b.level b.value b.data b.ports.length]⟩) rfl (by rfl) P 1 fuel fuel _ _ (by omega) (by omega) (by rw [Af]; omega) (by rw [Af]; omega) w3
 obtain⟨v1,g1⟩:=w4.old hp.hx (s:=1) (by omega) (by omega)
 obtain⟨q1,g2⟩:=w4.new (k:=0) (s:=0) rfl (by omega) (by grind [sh])
 rw [Nat.add_zero] at g2
 obtain⟨L2,B2,f1,f2,w5⟩:=w4.move g1 g2 (fun h=>by
   unfold dupX at h
   simp only at h
   rcases h with h|h|h|h|h|h
   ·exact hp.sx h
   all_goals omega) (.inr (.inr (.inr (.inl ⟨rfl,.inl rfl⟩)))) (nS _ (by grind)) (Y:=fun p=>S p.agent∨(p.agent=x∧p.slot≤1)∨(p.agent=y∧p.slot=0)∨(p.agent=(A.length:Int)+1∧p.slot=0)∨((A.length:Int)+2≤p.agent∧p.slot=0)) (fun p q hq=>by
   have hs0:0≤p.slot:=by
    obtain⟨a,h1,h2⟩:=Aw.1 hq
    exact(Cq h2).1
   have hc1:p.agent=(A.length:Int)→p.slot<(b.ports.length:Int):=fun e=>by
    have:=Bi hq (x:=sh b) (by
     rw [w4.shp,e]
     have:=Fj (l:=A.map sh) (m:=sh b::sh b::List.replicate (b.ports.length - 1) (dupS a.level)) (k:=0) rfl
     rwa [List.length_map,Nat.add_zero] at this)
    grind [sh]
   have hc2:p.agent=(A.length:Int)+1→p.slot<(b.ports.length:Int):=fun e=>by
    have:=Bi hq (x:=sh b) (by
     rw [w4.shp,e]
     have:=Fj (l:=A.map sh) (m:=sh b::sh b::List.replicate (b.ports.length - 1) (dupS a.level)) (k:=1) rfl
     rwa [List.length_map] at this)
    grind [sh]
   grind [dupX,Az]) fun p hs=>.inl hs
 obtain⟨v2,g3⟩:=w5.old hp.hx (s:=2) (by omega) (by omega)
 obtain⟨q2,g4⟩:=w5.new (k:=1) (s:=0) rfl (by omega) (by grind [sh])
 obtain⟨L3,B3,f3,f4,w6⟩:=w5.move g3 g4 (fun h=>by
   simp only at h
   rcases h with h|h|h|h|h
   ·exact hp.sx h
   all_goals omega) (.inr (.inr (.inr (.inl ⟨by rfl,rfl⟩)))) (nS _ (by grind)) (Y:=XL S x y A.length 0) (fun p q hq=>by
   have hs0:0≤p.slot:=by
    obtain⟨a,h1,h2⟩:=Aw.1 hq
    exact(Cq h2).1
   have hx2:p.agent=x→p.slot<3:=fun e=>by
    have:=Bi hq (x:=sh a) (by rw [w5.shp,e]; exact B6 (DX hp.hx))
    grind [sh]
   grind [XL,Az]) fun p hs=>.inl hs
 rw [show b.ports.length - 1=P from by omega] at w6
 obtain⟨A4,B4,t1,t2,t3⟩:=Zi (fun k hk=>h.s_lt hk) hp hne hA P hP (by omega) (((A.length+1:Nat):Int),⟨B++[newA b.kind b.level b.value b.data b.ports.length] ++[newA b.kind b.level b.value b.data b.ports.length]⟩) (by rfl) P 0 fuel fuel _ _ (by omega) (by rw [Af]; omega) (by rw [Af]; omega) w6
 refine⟨A4,B4,_,fun bk r=>?_,?_,t3,⟨fun n hn=>?_,by grind⟩,fun n hn=>?_,by grind⟩
 ·unfold Ck
  rw [hp.hy,AA,e1,AA,e3,AA]
  grind [An]
 ·unfold E9
  rw [hp.bx h,AA,hp.bY h,AA,JC b (by grind) (by grind),AA,e2,AA,e4,AA]
  rw [Int.natCast_one] at r2
  rw [r2,Bc,if_neg (by simp)]
  simp_all [Cp]
 ·rcases List.mem_cons.1 hn with e|e
  ·subst e; exact⟨by grind [sh],by grind [sh],hbk⟩
  ·rcases List.mem_cons.1 e with e|e
   ·subst e; exact⟨by grind [sh],by grind [sh],hbk⟩
   ·rw [(List.mem_replicate.1 e).2]; exact⟨by simp [dupS],by simp [dupS],by simp [dupS]⟩
 ·have hbb:(sh b).1 ≠1∧shB (sh b)=true:=⟨hkb,by rw [XJ]; exact gb⟩
  rcases List.mem_cons.1 hn with e|e
  ·grind
  ·rcases List.mem_cons.1 e with e|e
   ·grind
   grind [dupS,shB,agB,ports,GX]
end
theorem XM {α:Type} (L:Nat→List α→Int→Option (List α)) (f:α→Option α) (l:List α) (hl:l.length≤Big) (hf:∀x ∈ l,f x=some x)
  (hL:∀n acc i,L (n+1) acc i=(if (decide (i<(l.length:Int)))=true then ((at? l i).bind fun v=>((f v).bind fun w=>((app? acc [w]).bind fun z=>(L n z (IntKind.i64.wrap (i+1)))))) else (some acc))):L fuel [] 0=some l:=by
 have loop:∀ (post pre:List α) (n:Nat),l=pre++post→post.length<n→L n pre (pre.length:Int)=some l:=by
  intro post
  induction post with
  |nil=>
   intro pre n h hn
   obtain⟨n,rfl⟩:∃m,n=m+1:=⟨n - 1,by omega⟩
   rw [hL,CY h,if_neg (by simp),h,List.append_nil]
  |cons x post ih=>
   intro pre n h hn
   rw [List.length_cons] at hn
   obtain⟨n,rfl⟩:∃m,n=m+1:=⟨n - 1,by omega⟩
   have hx:x ∈ l:=by rw [h]; simp
   have hlen:pre.length+ [x].length ≤Big:=by rw [h] at hl; grind
   rw [hL,if_pos (CB h),BI h,AA,hf x hx,AA,CO hlen,AA,A8 h hl]
   grind
 exact loop l [] fuel rfl (by rw [Af]; grind)
theorem cf (d:List Int) (hd:d.length≤Big):E4 d=some d:=by
 grind [E4,CO]
theorem Ru (a:Agent) (h:a.Small):Em a=some a:=by
 unfold Em
 rw [Sx _ h.2,AA,Sy _ h.1]; rfl
theorem N4 (a:Agent) (h:a.Small):E5 a=some a:=by
 unfold E5
 rw [cf _ h.2,AA,Sy _ h.1]; rfl
theorem Vf (n:Net) (hl:n.agents.length≤Big) (h:∀a ∈ n.agents,a.Small):HC n=some n:=by
 unfold HC
 rw [Q8 hl,AA]
 have hc:=XM (fun n' acc i=>(DN n' n acc i).map (·.agents)) Em n.agents hl (fun a ha=>Ru a (h a ha)) fun n' acc i=>by
  rw [DN]
  split
  ·cases at? n.agents i with
   |none=>rfl
   |some v=>simp only [Option.bind]; grind
  ·rfl
 simp only [Option.map_eq_some_iff] at hc
 obtain⟨a,h1,h2⟩:=hc
 rw [h1]; congr 1
 cases a; simp_all
theorem XN (n:Net) (hl:n.agents.length≤Big) (h:∀a ∈ n.agents,a.Small):Jg n=some n:=by
 unfold Jg
 rw [Q8 hl,AA]
 have hc:=XM (fun n' acc i=>(EP n' n acc i).map (·.agents)) E5 n.agents hl (fun a ha=>N4 a (h a ha)) fun n' acc i=>by
  rw [EP]
  split
  ·cases at? n.agents i with
   |none=>rfl
   |some v=>simp only [Option.bind]; grind
  ·rfl
 simp only [Option.map_eq_some_iff] at hc
 obtain⟨a,h1,h2⟩:=hc
 rw [h1]; congr 1
 cases a; simp_all
theorem cg (n:Net) (hl:n.agents.length≤Big) (h:∀a ∈ n.agents,a.Small):LQ n=some n:=by
 unfold LQ
 have hc:=XM (fun n' acc i=>(FB n' n acc i).map (·.agents)) Bw n.agents hl (fun a ha=>JC a (h a ha).2 (h a ha).1) fun n' acc i=>by
  rw [FB]
  split
  ·cases at? n.agents i with
   |none=>rfl
   |some v=>simp only [Option.bind]; grind
  ·rfl
 simp only [Option.map_eq_some_iff] at hc
 obtain⟨a,h1,h2⟩:=hc
 rw [h1]; congr 1
 cases a; simp_all
theorem Vg (b:List Net) (n:Net) (hl:n.agents.length≤Big) (h:∀a ∈ n.agents,a.Small):En b n=some ⟨n,b,[]⟩:=by
 grind [En,Vf]
theorem Vh:∀ (l:List Agent) (i:Nat),Ta i l=true→∀ (k:Nat) (a:Agent),l[k]? =some a→agB a=true∧(a.kind=1↔i+k=0)
 | [],_,_,k,a,h=>by grind
 |x::l,i,hb,0,a,h=>by
  rw [Ta] at hb
  simp only [Bool.and_eq_true,beq_iff_eq] at hb
  simp only [List.getElem?_cons_zero,Option.some.injEq] at h
  subst h
  refine⟨hb.1.1,?_⟩
  have:=hb.1.2
  by_cases h1:x.kind=1 <;> by_cases h2:i=0 <;> simp_all
 |x::l,i,hb,k+1,a,h=>by
  rw [Ta] at hb
  simp only [Bool.and_eq_true] at hb
  rw [List.getElem?_cons_succ] at h
  obtain⟨h1,h2⟩:=Vh l (i+1) hb.2 k a h
  grind
theorem RD {l} {i}:∀ (ps:List Port) (k:Nat),HV l i k ps=true→∀ (j:Nat) (p:Port),ps[j]? =some p→Su l i (k+j) p=true
 | [],_,_,j,p,h=>by grind
 |x::ps,k,hb,0,p,h=>by
  rw [HV] at hb
  grind
 |x::ps,k,hb,j+1,p,h=>by
  rw [HV] at hb
  simp only [Bool.and_eq_true] at hb
  rw [List.getElem?_cons_succ] at h
  have:=RD ps (k+1) hb.2 j p h
  rwa [show k+1+j=k+(j+1) from by omega] at this
theorem Mh {l}:∀ (m:List Agent) (i:Nat),FT l i m=true→∀ (k:Nat) (a:Agent),m[k]? =some a→HV l (i+k) 0 a.ports=true
 | [],_,_,k,a,h=>by grind
 |x::m,i,hb,0,a,h=>by
  rw [FT] at hb
  grind
 |x::m,i,hb,k+1,a,h=>by
  rw [FT] at hb
  simp only [Bool.and_eq_true] at hb
  rw [List.getElem?_cons_succ] at h
  have:=Mh m (i+1) hb.2 k a h
  rwa [show i+1+k=i+(k+1) from by omega] at this
structure VnN (N:Nat) (l:List Agent):Prop where
 len:1≤l.length∧l.length≤N
 ag:∀k a,at? l k=some a→agB a=true∧(a.kind=1↔k=0)
 m:M l fun _=>False
abbrev Vn:=VnN 600
theorem Net.valid_vn {n:Net} (h:n.valid=true):Vn n.agents:=by
 unfold Net.valid agentsB at h
 simp only [Bool.and_eq_true,decide_eq_true_eq] at h
 obtain⟨⟨h1,h2⟩,h3⟩:=h
 refine⟨h1,fun k a hk=>?_,fun p q hp _=>?_⟩
 ·obtain⟨k1,k2⟩:=BN hk
  grind [Vh]
 ·obtain⟨a,ha,hq⟩:=Aw.1 hp
  obtain⟨k1,k2⟩:=BN ha
  obtain⟨k3,k4⟩:=BN hq
  have:=RD _ 0 (Mh _ 0 h3 _ _ k2) _ _ k4
  rw [Nat.zero_add,Nat.zero_add] at this
  grind [Su,Ca]
theorem Hp {a} (h:agB a=true):levB a.kind a.level=true:=by
 grind [agB]
theorem Sz {a} (h:agB a=true):ports a.kind (if a.kind=9 then (a.ports.length:Int) - 1 else 0)=(a.ports.length:Int)∧0<a.ports.length:=by
 grind [agB]
theorem CP {a} (h:agB a=true):1≤a.ports.length∧a.ports.length≤4:=by
 obtain⟨h1,h2⟩:=Sz h
 grind [ports]
theorem LZ {a} (h:agB a=true):a.data.length≤4:=by
 grind [agB,GX]
theorem Zj {a} (h:agB a=true):a.Small:=⟨by grind [CP],by grind [LZ]⟩
theorem La {a} (h:agB a=true):1≤a.kind∧a.kind≤12:=by
 grind [Hp,levB]
theorem ID {a} (h:agB a=true):0≤a.level∧a.level≤8:=by
 have:=Hp h; unfold levB at this; simp only [Bool.and_eq_true,decide_eq_true_eq] at this
 have:=this.2
 split at this <;> simp only [decide_eq_true_eq] at this <;> omega
theorem Lb {a} (h:agB a=true):(a.kind=1∨a.kind=5∨a.kind=6∨a.kind=12→a.ports.length=1)∧(a.kind=8∨a.kind=10∨a.kind=11→a.ports.length=2)∧(a.kind=2∨a.kind=3∨a.kind=4∨a.kind=7→a.ports.length=3):=by
 grind [Sz,ports]
theorem VnN.mem {N} {l} (h:VnN N l) {a} (ha:a ∈ l):agB a=true:=by
 obtain⟨i,hi,rfl⟩:=List.getElem_of_mem ha
 exact(h.ag i _ (LU (by rw [List.getElem?_eq_getElem hi]))).1
theorem VnN.small {N} {l} (h:VnN N l):∀a ∈ l,a.Small:=fun a ha=>Zj (h.mem ha)
def hiL:Int→List Agent→Int
 |m,[] =>m
 |m,a::l=>hiL (if a.level<m then m else a.level) l
theorem mx (n:Net) (hl:n.agents.length≤Big):Hj n=some (hiL 0 n.agents):=by
 have loop:∀ (post pre:List Agent) (m:Int) (k:Nat),n.agents=pre++post→post.length<k→CS k n m (pre.length:Int)=some (hiL m post):=by
  intro post
  induction post with
  |nil=>
   intro pre m k h hk
   obtain⟨k,rfl⟩:∃q,k=q+1:=⟨k - 1,by omega⟩
   rw [CS,CY h,if_neg (by simp),hiL]
  | cons x post ih=>
   intro pre m k h hk
   rw [List.length_cons] at hk
   obtain⟨k,rfl⟩:∃q,k=q+1:=⟨k - 1,by omega⟩
   rw [CS,if_pos (CB h),BI h,AA]
   have:Eh m x.level=some (if x.level<m then m else x.level):=by
    unfold Eh
    by_cases e:x.level<m <;> simp [e]
   rw [this,AA,A8 h hl,hiL]
   grind
 exact loop n.agents [] 0 fuel rfl (by rw [Af]; grind)
theorem Tl:∀ (l:List Agent) (m c:Int),(hiL m l≤c↔m≤c∧∀a ∈ l,a.level≤c)
 | [],m,c=>by simp [hiL]
 |a::l,m,c=>by
  rw [hiL,Tl l]
  grind
theorem Lc {α:Type} {pre post:List α} {x y:α}:C0 (pre++x::post) (pre.length:Int) y=some (pre++y::post):=by
 simp [C0,VK]
theorem KW {α:Type} {pre post:List α} {x:α}:at? (pre++x::post) (pre.length:Int)=some x:=BI rfl
def lvA (lv:Int) (a:Agent):Agent:=if RB a.kind=true then ⟨a.kind,a.level+lv,a.value,a.data,a.ports⟩ else a
def okL (lv:Int) (l:List Agent):Bool:=l.all fun a=> !RB a.kind||decide (a.level+lv≤8)
theorem RE (T:Net) (lv:Int) (hT:Vn T.agents) (hlv:0≤lv∧lv≤8):H4 T lv=some (if okL lv T.agents=true then (⟨T.agents.map (lvA lv)⟩,true) else (⟨[]⟩,false)):=by
 have hl:T.agents.length≤Big:=by have:=hT.len; grind
 unfold H4
 rw [XN T hl hT.small,AA]
 have loop:∀ (post pre:List Agent) (k:Nat),T.agents=pre++post→post.length<k→C2 k lv T (pre.map (lvA lv)++post) (pre.length:Int)=some (if okL lv post=true then (⟨(pre++post).map (lvA lv)⟩,true) else (⟨[]⟩,false)):=by
  intro post
  induction post with
  |nil=>
   intro pre k h hk
   obtain⟨k,rfl⟩:∃q,k=q+1:=⟨k - 1,by omega⟩
   rw [C2,CY h,if_neg (by simp)]
   simp [okL]
  |cons x post ih=>
   intro pre k h hk
   rw [List.length_cons] at hk
   obtain⟨k,rfl⟩:∃q,k=q+1:=⟨k - 1,by omega⟩
   have hx:=ID (hT.mem (a:=x) (by rw [h]; simp))
   have e1:(pre.length:Int)=((List.length (pre.map (lvA lv)):Nat):Int):=by rw [List.length_map]
   have ih':=ih (pre++[x]) k (Ai h) (by omega)
   rw [List.map_append,List.map_singleton,List.append_assoc,List.singleton_append,List.append_assoc,List.singleton_append] at ih'
   rw [C2,if_pos (CB h),e1,KW,AA,YN,AA]
   grind [Lc,KW,w64,lvA,okL]
 have:=loop T.agents [] fuel rfl (by rw [Af]; grind)
 simp_all
theorem jA {l} {lv} (hl:∀a ∈ l,agB a=true) (hlv:0≤lv∧lv≤8):okL lv l=decide (hiL 0 l+lv≤8):=by
 have:(okL lv l=true)↔hiL 0 l+lv≤8:=by
  rw [show (hiL 0 l+lv≤8)↔(hiL 0 l≤8 - lv) from by omega,Tl]
  grind [okL,Hp,RB,levB]
 grind
def sp (off:Int) (p:Port):Port:=⟨p.agent+off,p.slot⟩
def expA (off lv:Int) (a:Agent):Agent:=⟨a.kind,(lvA lv a).level,a.value,a.data,a.ports.map (sp off)⟩
def Pin (a:Agent):Prop:=∀q ∈ a.ports,0≤q.agent∧q.agent<600
theorem Vn.pin {l} (h:Vn l):∀a ∈ l,Pin a:=fun a ha q hq=>by
 obtain⟨i,hi,rfl⟩:=List.getElem_of_mem ha
 obtain⟨j,hj,rfl⟩:=List.getElem_of_mem hq
 obtain⟨-,-,h3⟩:=h.m ⟨(i:Int),(j:Int)⟩ _ (Aw.2 ⟨l[i],LU (by rw [List.getElem?_eq_getElem hi]),LU (by rw [List.getElem?_eq_getElem hj])⟩) not_false
 have:=DS h3
 have:=h.len
 omega
theorem Vi (T Bn:Net) (y i lvl:Int) (a x:Agent) (acc:List Agent) (hB:Bn.agents.length≤8000000) (hB1:1≤Bn.agents.length):∀ (post pre:List Port) (n:Nat),(∀q ∈ post,0≤q.agent∧q.agent<600)→pre.length+post.length≤Big→
  CT (post.length+1+n) T Bn y acc i lvl a x (pre.map (sp ((Bn.agents.length:Int) - 1))++post) (pre.length:Int)=(app? acc [⟨x.kind,lvl,x.value,x.data,(pre++post).map (sp ((Bn.agents.length:Int) - 1))⟩]).bind fun v=>BK n T Bn y a v (IntKind.i64.wrap (i+1)):=by
 intro post
 induction post with
 |nil=>
  intro pre n hq hb
  rw [show ([] :List Port).length +1+n=n+1 from by grind,CT,if_neg (by simp),List.append_nil,List.append_nil]
 |cons q post ih=>
  intro pre n hq hb
  rw [List.length_cons] at hb
  have e1:(pre.length:Int)=((List.length (pre.map (sp ((Bn.agents.length:Int) - 1))):Nat):Int):=by rw [List.length_map]
  have hq0:=hq q List.mem_cons_self
  rw [show (q::post).length +1+n=(post.length+1+n)+1 from by grind,CT,if_pos (by grind),e1,KW,AA,AA,Lc,AA,← e1,w64 (n:=(Bn.agents.length:Int) - 1) (by omega) (by omega),w64 (by omega) (by omega),w64 (by omega) (by grind)]
  have:=ih (pre++[q]) n (fun r hr=>hq r (List.mem_cons_of_mem _ hr)) (by grind)
  rw [List.map_append,List.map_singleton,List.append_assoc,List.singleton_append,List.append_assoc,List.singleton_append,List.length_append,List.length_singleton] at this
  rw [show (pre.length:Int)+1=((List.length pre+1:Nat):Int) from by omega]
  exact this
theorem Vj (a0:Rewriter) (y i:Int) (v3:Port) (v4:List Agent) (hs:List HAgent) (x:Agent) (acc:List Agent) (hB:a0.net.agents.length≤8000000) (hB1:1≤a0.net.agents.length):∀ (post pre:List Port) (n:Nat),x.ports=pre++post→(∀q ∈ post,0≤q.agent∧q.agent<600)→pre.length+post.length≤Big→
  BJ (post.length+1+n) a0 y acc hs i v3 v4 x (pre.map (sp ((a0.net.agents.length:Int) - 1))++post) (pre.length:Int)=(app? acc [⟨x.kind,x.level,x.value,x.data,(pre++post).map (sp ((a0.net.agents.length:Int) - 1))⟩]).bind fun v=>Ao n a0 y v3 v4 v (List.set hs (Int.toNat i) (HAgent.gone x)) (IntKind.i64.wrap (i+1)):=by
 intro post
 induction post with
 |nil=>
  intro pre n hx hq hb
  rw [show ([] :List Port).length +1+n=n+1 from by grind,BJ,if_neg (by rw [hx]; simp),List.append_nil,List.append_nil]
 |cons q post ih=>
  intro pre n hx hq hb
  rw [List.length_cons] at hb
  have e1:(pre.length:Int)=((List.length (pre.map (sp ((a0.net.agents.length:Int) - 1))):Nat):Int):=by rw [List.length_map]
  have hq0:=hq q List.mem_cons_self
  rw [show (q::post).length +1+n=(post.length+1+n)+1 from by grind,BJ,if_pos (by rw [hx]; grind),e1,KW,AA,AA,Lc,AA,← e1,w64 (n:=(a0.net.agents.length:Int) - 1) (by omega) (by omega),w64 (by omega) (by omega),w64 (by omega) (by grind)]
  have:=ih (pre++[q]) n (by rw [hx]; simp) (fun r hr=>hq r (List.mem_cons_of_mem _ hr)) (by grind)
  rw [List.map_append,List.map_singleton,List.append_assoc,List.singleton_append,List.append_assoc,List.singleton_append,List.length_append,List.length_singleton] at this
  rw [show (pre.length:Int)+1=((List.length pre+1:Nat):Int) from by omega]
  exact this
theorem Zk (T Bn:Net) (y:Int) (a r:Agent) (v:Port) (hB:Bn.agents.length≤8000000) (hB1:1≤Bn.agents.length) (hT:∀x ∈ T.agents,agB x=true∧Pin x) (hl:T.agents.length≤600) (hr:at? T.agents 0=some r) (hv:at? r.ports 0=some v) (hva:0≤v.agent∧v.agent<600) (ha:0≤a.level∧a.level≤8):∀ (post pre acc:List Agent) (n:Nat),T.agents=pre++post→acc.length+post.length≤Big→10*post.length<n→
  BK n T Bn y a acc (pre.length:Int)=s_l11Link ⟨acc++post.map (expA ((Bn.agents.length:Int) - 1) a.level)⟩ (sp ((Bn.agents.length:Int) - 1) v) ⟨y,0⟩:=by
 intro post
 induction post with
 |nil=>
  intro pre acc n h hb hn
  obtain⟨n,rfl⟩:∃q,n=q+1:=⟨n - 1,by omega⟩
  rw [BK,CY h,if_neg (by simp),hr,AA,hv,AA,Cp,AA,Cp,AA,w64 (n:=(Bn.agents.length:Int) - 1) (by omega) (by omega),w64 (by omega) (by omega),List.map_nil,List.append_nil]
  unfold sp
  rw [show (Bn.agents.length:Int) - 1+v.agent=v.agent+((Bn.agents.length:Int) - 1) from by omega]
  cases s_l11Link ⟨acc⟩ ⟨v.agent+((Bn.agents.length:Int) - 1),v.slot⟩ ⟨y,0⟩ <;> rfl
 | cons x post ih=>
  intro pre acc n h hb hn
  rw [List.length_cons] at hb hn
  obtain⟨h1,h2⟩:=hT x (by rw [h]; simp)
  have hp4:=CP h1
  have hd:=LZ h1
  have hxl:=ID h1
  have hlB:T.agents.length≤Big:=by grind
  obtain⟨n,rfl⟩:∃q,n=(x.ports.length+1+q)+1+1:=⟨n - x.ports.length - 3,by omega⟩
  have key:∀lvl,Cu ((x.ports.length+1+n)+1) T Bn y acc (pre.length:Int) a x lvl=(app? acc [⟨x.kind,lvl,x.value,x.data,x.ports.map (sp ((Bn.agents.length:Int) - 1))⟩]).bind fun v=>BK n T Bn y a v (IntKind.i64.wrap ((pre.length:Int)+1)):=fun lvl=>by
   rw [Cu]
   have:=Vi T Bn y (pre.length:Int) lvl a x acc hB hB1 x.ports [] n h2 (by grind)
   grind
  have fin:((app? acc [expA ((Bn.agents.length:Int) - 1) a.level x]).bind fun v=>BK n T Bn y a v (IntKind.i64.wrap ((pre.length:Int)+1)))=s_l11Link ⟨acc++(x::post).map (expA ((Bn.agents.length:Int) - 1) a.level)⟩ (sp ((Bn.agents.length:Int) - 1) v) ⟨y,0⟩:=by
   rw [CO (by grind),AA,A8 h hlB,ih (pre++[x]) (acc++[expA ((Bn.agents.length:Int) - 1) a.level x]) n (Ai h) (by grind) (by omega),List.map_cons,List.append_assoc,List.singleton_append]
  rw [BK,if_pos (CB h),BI h,AA,JC x (by grind) (by grind),AA,YO,AA]
  grind [w64,expA,lvA]
theorem S0 (lv:Int) (x:Agent):(lvA lv x).ports =x.ports∧(lvA lv x).kind =x.kind∧(lvA lv x).value =x.value∧(lvA lv x).data =x.data:=by
 unfold lvA; split <;> exact⟨rfl,rfl,rfl,rfl⟩
theorem Zl (a0:Rewriter) (y:Int) (v:Port) (lv:Int) (tl:List Agent) (hB:a0.net.agents.length≤8000000) (hB1:1≤a0.net.agents.length) (hT:∀x ∈ tl,agB x=true∧Pin x) (hl:tl.length≤600) (hva:0≤v.agent∧v.agent<600):∀ (post pre acc:List Agent) (n:Nat),tl=pre++post→acc.length+post.length≤Big→10*post.length<n→
  Ao n a0 y v (tl.map (lvA lv)) acc ((pre.map (lvA lv)).map HAgent.gone++(post.map (lvA lv)).map HAgent.full) (pre.length:Int)=(CI ⟨acc++post.map (expA ((a0.net.agents.length:Int) - 1) lv)⟩ ⟨y,0⟩ (sp ((a0.net.agents.length:Int) - 1) v)).bind fun z=>some ⟨z,a0.book,a0.removed⟩:=by
 intro post
 induction post with
 |nil=>
  intro pre acc n h hb hn
  obtain⟨n,rfl⟩:∃q,n=q+1:=⟨n - 1,by omega⟩
  rw [Ao,if_neg (by rw [h]; simp),w64 (n:=(a0.net.agents.length:Int) - 1) (by omega) (by omega),w64 (by omega) (by omega),List.map_nil,List.append_nil]
  rfl
 | cons x post ih=>
  intro pre acc n h hb hn
  rw [List.length_cons] at hb hn
  obtain⟨h1,h2⟩:=hT x (by rw [h]; simp)
  have hp4:=CP h1
  obtain⟨q1,q2,q3,q4⟩:=S0 lv x
  obtain⟨n,rfl⟩:∃q,n=(x.ports.length+1+q)+1:=⟨n - x.ports.length - 2,by omega⟩
  have e1:(pre.length:Int)=((List.length ((pre.map (lvA lv)).map HAgent.gone):Nat):Int):=by simp
  have hlen:pre.length<tl.length:=by rw [h]; simp
  rw [Ao,if_pos (by rw [h]; grind),List.map_cons,List.map_cons,e1,KW,AA]
  have hf:HAgent.full? (HAgent.full (lvA lv x))=some (lvA lv x):=rfl
  rw [hf,AA,← e1]
  have:=Vj a0 y (pre.length:Int) v (tl.map (lvA lv)) (((pre.map (lvA lv)).map HAgent.gone)++HAgent.full (lvA lv x)::(post.map (lvA lv)).map HAgent.full) (lvA lv x) acc hB hB1 x.ports [] n (by rw [q1]; rfl) h2 (by grind)
  simp only [List.map_nil,List.nil_append,List.length_nil,Int.natCast_zero] at this
  rw [q1,this,CO (by grind),AA,w64 (by omega) (by omega)]
  have e2:(((pre.map (lvA lv)).map HAgent.gone)++HAgent.full (lvA lv x)::(post.map (lvA lv)).map HAgent.full).set (Int.toNat (pre.length:Int)) (HAgent.gone (lvA lv x))=((pre++[x]).map (lvA lv)).map HAgent.gone++(post.map (lvA lv)).map HAgent.full:=by
   rw [Int.toNat_natCast,List.set_append_right _ _ (by simp)]
   simp
  have e3:(⟨(lvA lv x).kind,(lvA lv x).level,(lvA lv x).value,(lvA lv x).data,x.ports.map (sp ((a0.net.agents.length:Int) - 1))⟩:Agent)=expA ((a0.net.agents.length:Int) - 1) lv x:=by
   unfold expA; rw [q2,q3,q4]
  rw [e2,e3,show (pre.length:Int)+1=((List.length (pre++[x]):Nat):Int) from by simp,ih (pre++[x]) (acc++[expA ((a0.net.agents.length:Int) - 1) lv x]) n (Ai h) (by grind) (by omega),List.map_cons,List.append_assoc,List.singleton_append]
theorem MK {α:Type} {l m:List α} {k:Int}:at? (l++m) k=if k<(l.length:Int) then at? l k else at? m (k - l.length):=by
 grind [at?]
theorem XO {α β:Type} {f:α→β} {l:List α} {k:Int}:at? (l.map f) k=(at? l k).map f:=by
 grind [at?]
theorem Gt {l m:List Agent} {p:Port}:Ab.get (l++m) p=if p.agent<(l.length:Int) then Ab.get l p else Ab.get m ⟨p.agent - l.length,p.slot⟩:=by
 unfold Ab.get FW
 rw [MK]
 split <;> rfl
theorem Tm {T:List Agent} {off lv:Int} {k s:Int}:Ab.get ((T.drop 1).map (expA off lv)) ⟨k,s⟩=if 0≤k then (Ab.get T ⟨k+1,s⟩).map (sp off) else none:=by
 grind [FW,at?,expA]
theorem fS (off lv:Int) (a:Agent):sh (expA off lv a)=(a.kind,(lvA lv a).level,a.value,a.data,a.ports.length):=by
 grind [sh,expA]
section
variable {S:Int→Prop} {X:Port→Prop} {A B:List Agent}
theorem my {X:Port→Prop} (hm:M A X) {T:List Agent} (hT:Vn T) {v r:Port} (hv:Ab.get T ⟨0,0⟩=some v) (lv:Int) (hA:1≤A.length) (hX:∀p,X p→p.agent<(A.length:Int)):
  M (A++(T.drop 1).map (expA ((A.length:Int) - 1) lv)) fun p=>X p∨p=sp ((A.length:Int) - 1) v:=by
 have hr1:∀s q,Ab.get T ⟨0,s⟩=some q→s=0:=fun s q h=>by
  obtain⟨a,h1,h2⟩:=Aw.1 h
  obtain⟨g1,g2⟩:=hT.ag _ _ h1
  have:=(Lb g1).1 (.inl (g2.2 rfl))
  have:=Cq h2
  grind
 have hv0:v.agent≠0:=fun e=>by
  obtain⟨-,h2,h3⟩:=hT.m _ _ hv not_false
  have e2:v=⟨0,v.slot⟩:=Ca e rfl
  grind
 have hv1:1≤v.agent:=by
  obtain⟨-,-,h3⟩:=hT.m _ _ hv not_false
  have:=DS h3; omega
 intro p q hp hx
 rw [Gt] at hp
 by_cases hlt:p.agent<(A.length:Int)
 ·rw [if_pos hlt] at hp
  obtain⟨h1,h2,h3⟩:=hm p q hp fun h=>hx (.inl h)
  have hq:=DS h3
  grind [Gt,sp]
 ·rw [if_neg hlt,Tm,if_pos (by omega)] at hp
  simp only [Option.map_eq_some_iff] at hp
  obtain⟨q',hq',rfl⟩:=hp
  obtain⟨-,h2,h3⟩:=hT.m _ _ hq' not_false
  have hql:=DS h3
  have hq0:q'.agent≠0:=fun e=>by
   have e2:q'=⟨0,q'.slot⟩:=Ca e rfl
   have hs:=hr1 q'.slot _ (by rw [← e2]; exact h3)
   have e3:q'=⟨0,0⟩:=Ca e hs
   rw [e3,hv] at h3
   cases h3
   exact hx (.inr (Ca (by grind [sp]) rfl))
  refine⟨?_,fun e=>?_,?_⟩
  ·rintro (h|h)
   ·grind [sp]
   ·have e1:=congrArg Port.agent h
    have e2:=congrArg Port.slot h
    simp only [sp] at e1 e2
    have e3:q'=v:=Ca (by omega) e2
    obtain⟨-,-,h4⟩:=hT.m _ _ hv not_false
    rw [e3,h4] at h3
    grind
  ·have e1:=congrArg Port.agent e
   have e2:=congrArg Port.slot e
   simp only [sp] at e1 e2
   exact h2 (Ca (by grind) e2)
  ·have hge:¬ (sp ((A.length:Int) - 1) q').agent <(A.length:Int):=by grind [sp]
   rw [Gt,if_neg hge,Tm,if_pos (by omega)]
   simp only [sp]
   rw [show (q'.agent+((A.length:Int) - 1) - (A.length:Int)+1)=q'.agent from by omega]
   have:(⟨q'.agent,q'.slot⟩:Port)=q':=rfl
   rw [this,h3]
   simp only [Option.map_some,sp]
   grind
theorem Ok.append (h:Ok S X A B) {E:List Agent} {Y:Port→Prop} (hm:M (A++E) Y) (hs:∀p,S p.agent→Y p):Ok S Y (A++E) (B++E):=by
 refine⟨by rw [List.length_append,List.length_append,h.len],fun k hk=>?_,fun k hk=>?_,hm,hs⟩
 ·rw [MK,MK,h.len,h.ag k hk]
 ·have:=h.s_lt hk
  rw [MK,if_pos (by rw [← h.len]; omega)]; exact h.hl k hk
theorem Zm (h:Ok S (fun p=>S p.agent) A B) {x y:Int} {a b:Agent} (hp:Pr S A x y a b) (ha:a.ports.length=1) {T:Net} (hT:Vn T.agents) (hlv:0≤a.level∧a.level≤8) (hok:okL a.level T.agents=true) (hA:A.length≤8000000):
  ∃A2 B2 new,(∀bk r,at? bk a.value=some T→Di ⟨⟨A⟩,bk,r⟩ x y=some ⟨⟨A2⟩,bk,r⟩)∧HJ T ⟨B⟩ x y=some ⟨B2⟩∧Ok S (fun p=>S p.agent∨p.agent=x) A2 B2∧A2.map sh=A.map sh++new∧((∀n ∈ new,NB n)∧SV new)∧(new.length+1=T.agents.length∧1≤new.length)∧Fr A A2 (fun p=>S p.agent∨p.agent=x):=by
 obtain⟨h0,hne⟩:=h.start hp
 have hxl:=Cq hp.hx
 have hyl:=Cq hp.hy
 have hA1:1≤A.length:=by omega
 have hTl:=hT.len
 obtain⟨rt,hrt,-⟩:=EA (l:=T.agents) (i:=0) (by omega)
 have hr1:=(Lb (hT.ag _ _ hrt).1).1 (.inl ((hT.ag _ _ hrt).2.2 rfl))
 obtain⟨v,hv,-⟩:=EA (l:=rt.ports) (i:=0) (by omega)
 have hg:Ab.get T.agents ⟨0,0⟩=some v:=Aw.2 ⟨rt,hrt,hv⟩
 obtain⟨-,-,hv3⟩:=hT.m _ _ hg not_false
 have hvl:=DS hv3
 have hM:=my (r:=v) h0.m hT hg a.level hA1 (fun p hp'=>by
  rcases hp' with hs|hs|hs
  ·exact(h.s_lt hs).2
  ·rw [Az] at hs; omega
  grind)
 have hO:=h0.append hM fun p hs=>.inl (.inl hs)
 have hv1:1≤v.agent:=by
  have hq:=hT.m _ _ hg not_false
  by_cases e:v.agent=0
  ·exfalso
   have e2:v=⟨0,v.slot⟩:=Ca e rfl
   obtain⟨a',h1,h2⟩:=Aw.1 hv3
   rw [e] at h1
   rw [hrt] at h1; cases h1
   have:=Cq h2
   grind
  ·omega
 have g1:Ab.get (A++(T.agents.drop 1).map (expA ((A.length:Int) - 1) a.level)) ⟨y,0⟩=some ⟨x,0⟩:=by
  rw [Gt,if_pos hyl.2]
  exact(h.m _ _ hp.w hp.sx).2.2
 have g2:Ab.get (A++(T.agents.drop 1).map (expA ((A.length:Int) - 1) a.level)) (sp ((A.length:Int) - 1) v)=some (sp ((A.length:Int) - 1) ⟨0,0⟩):=by
  rw [Gt,if_neg (by grind [sp]),Tm,if_pos (by grind [sp])]
  simp only [sp]
  rw [show (v.agent+((A.length:Int) - 1) - (A.length:Int)+1)=v.agent from by omega]
  have:(⟨v.agent,v.slot⟩:Port)=v:=rfl
  rw [this,hv3]; rfl
 have ngt:¬S (sp ((A.length:Int) - 1) v).agent :=fun hs=>by have:=h.s_lt hs; grind [sp]
 obtain⟨e1,e2,e3,e4,hO2⟩:=hO.link g1 g2 (fun e=>by grind [sp]) (.inl (.inr (.inr rfl))) (.inr rfl) hp.sy ngt
 refine⟨_,_,(T.agents.drop 1).map fun t=>(t.kind,(lvA a.level t).level,t.value,t.data,t.ports.length),fun bk r hbk=>?_,?_,hO2.mono' (fun p q hq=>?_) fun p hs=>.inl hs,?_,⟨fun n hn=>?_,fun n hn=>?_⟩,⟨by grind,by grind⟩,fun p q h1 h2 n1 n2=>?_⟩
 ·unfold Di
  rw [hp.hx,AA,hbk,AA,AA,RE T a.level hT hlv,if_pos hok,AA]
  have hpe:Ct ⟨T.agents.map (lvA a.level)⟩ ⟨0,0⟩=some v:=by
   rw [RA]
   grind [N2,Aw,XO,S0]
  have hcut:cutL (T.agents.map (lvA a.level)) 1 ((List.length (T.agents.map (lvA a.level)):Nat):Int)=some ((T.agents.drop 1).map (lvA a.level)):=by
   grind [cutL,List.map_drop,List.take_of_length_le]
  simp only
  rw [hpe,AA,hcut,AA]
  have:=Zl ⟨⟨A⟩,bk,r⟩ y v a.level (T.agents.drop 1) hA hA1 (fun t ht=>⟨hT.mem (List.mem_of_mem_drop ht),hT.pin t (List.mem_of_mem_drop ht)⟩) (by grind) (by omega) (T.agents.drop 1) [] A fuel rfl (by grind) (by rw [Af]; grind)
  simp only [List.map_nil,List.nil_append,List.length_nil,Int.natCast_zero] at this
  rw [this,e1,AA]
 ·unfold HJ
  rw [hp.bx h,AA]
  obtain⟨t0,tl,htl⟩:∃t0 tl,T.agents=t0::tl:=by
   cases hh:T.agents with
   |nil=>rw [hh] at hTl; grind
   |cons t0 tl=>grind
  have hd:T.agents.drop 1=tl:=by rw [htl]; rfl
  have:=Zk T ⟨B⟩ y a rt v (by simp only; rw [← h.len]; exact hA) (by simp only; rw [← h.len]; omega) (fun t ht=>⟨hT.mem ht,hT.pin t ht⟩) hTl.2 hrt hv (by omega) hlv tl [t0] B fuel htl (by rw [← h.len]; rw [htl] at hTl; grind) (by rw [Af]; rw [htl] at hTl; grind)
  simp only [List.length_singleton,Int.natCast_one] at this
  rw [this,← hd,← h.len]
  exact e4
 ·have hx2:p.agent=x→p.slot=0:=fun e=>by
   have:=Bi hq (x:=sh a) (by rw [VX,List.map_append,e]; exact B6 (DX hp.hx))
   grind [sh]
  have hr:p=sp ((A.length:Int) - 1) v→(A.length:Int)≤p.agent:=fun e=>by rw [e]; grind [sp]
  constructor
  ·grind
  ·rintro (h1|h1)
   ·refine⟨.inl (.inl h1),fun e=>hp.sy (by rw [e] at h1; exact h1),fun e=>?_⟩
    grind
   ·refine⟨.inl (.inr (.inl (Ca h1 (hx2 h1)))),fun e=>hne ?_,fun e=>?_⟩
    ·rw [← h1,e]
    grind
 ·rw [VX,List.map_append,List.map_map]
  grind [List.map_congr_left,fS]
 ·obtain⟨t,ht,rfl⟩:=List.mem_map.1 hn
  have g:=hT.mem (List.mem_of_mem_drop ht)
  exact⟨LZ g,(CP g).2,by have:=La g; omega⟩
 ·obtain⟨t,ht,rfl⟩:=List.mem_map.1 hn
  have hm:=List.mem_of_mem_drop ht
  have g:=hT.mem hm
  have hk1:t.kind≠1:=by
   obtain⟨i,hi,e⟩:=List.getElem_of_mem ht
   rw [List.getElem_drop] at e
   rw [List.length_drop] at hi
   have:=(hT.ag ((1+i:Nat):Int) t (LU (by rw [List.getElem?_eq_getElem (by omega),e]))).2
   omega
  refine⟨hk1,?_⟩
  have hs:(t.kind,(lvA a.level t).level,t.value,t.data,t.ports.length)=sh (lvA a.level t):=by
   unfold lvA sh; split <;> rfl
  rw [hs,XJ]
  obtain⟨g1,g2,g3,g4⟩:=MI g
  have ho:=List.all_eq_true.1 hok t hm
  grind [lvA,levB,RB,agB,GX]
 ·have l1:=DS h1
  have py:p≠⟨y,0⟩:=fun e=>n2 (.inr (by
   have g3:=(h.m _ _ hp.w hp.sx).2.2
   rw [e,g3] at h1
   rw [← Option.some.inj h1]))
  grind [sp,JB,Gt]
end
def AW:List Agent→Nat
 | [] =>0
 |a::l=>(if a.kind=0 then 0 else 1)+AW l
theorem IE (l m:List Agent):AW (l++m)=AW l+AW m:=by
 induction l with
 |nil=>simp [AW]
 |cons a l ih=>rw [List.cons_append,AW,AW,ih]; omega
theorem Ju (l:List Agent):AW l≤l.length:=by
 induction l with
 |nil=>simp [AW]
 |cons a l ih=>rw [AW,List.length_cons]; split <;> omega
theorem RF {l m} (h:l.map (·.kind)=m.map (·.kind)):AW l=AW m:=by
 induction l generalizing m with
 |nil=>
  simp_all
 | cons a l ih=>
  cases m with
  |nil=>cases h
  |cons b m=>
   simp only [List.map_cons,List.cons.injEq] at h
   rw [AW,AW,h.1,ih h.2]
theorem ML {l} (h:∀a ∈ l,a.kind≠0):AW l=l.length:=by
 induction l with
 |nil=>rfl
 |cons a l ih=>rw [AW,if_neg (h a List.mem_cons_self),ih fun b hb=>h b (List.mem_cons_of_mem _ hb),List.length_cons]; omega
theorem YQ (n:Net) (hl:n.agents.length≤Big):H6 n=some ((AW n.agents:Nat):Int):=by
 have loop:∀ (post pre:List Agent) (k:Nat),n.agents=pre++post→post.length<k→C3 k n ((AW pre:Nat):Int) (pre.length:Int)=some ((AW n.agents:Nat):Int):=by
  intro post
  induction post with
  |nil=>
   intro pre k h hk
   obtain⟨k,rfl⟩:∃q,k=q+1:=⟨k - 1,by omega⟩
   rw [C3,CY h,if_neg (by simp),h,List.append_nil]
  |cons x post ih=>
   intro pre k h hk
   rw [List.length_cons] at hk
   obtain⟨k,rfl⟩:∃q,k=q+1:=⟨k - 1,by omega⟩
   have ih':=ih (pre++[x]) k (Ai h) (by omega)
   have hle:=Ju pre
   have hpl:pre.length≤Big:=by rw [h] at hl; grind
   rw [IE] at ih'
   rw [C3,if_pos (CB h),BI h,AA]
   grind [AW,w64]
 exact loop n.agents [] fuel rfl (by rw [Af]; grind)
def remM (R:List Int):List (Int × Bool):=R.map fun k=>(k,true)
theorem Vk:∀ (R:List Int) (k:Int),(I4 (remM R) k).getD false=decide (k ∈ R)
 | [],k=>by rfl
 |r::R,k=>by
  have:=Vk R k
  grind [remM,I4]
theorem Vl:∀ (R:List Int) (k:Int),k ∉ R→LK (remM R) k true=remM (R++[k])
 | [],k,_=>rfl
 |r::R,k,h=>by
  have:=Vl R k fun e=>h (List.mem_cons_of_mem _ e)
  grind [remM,LK]
theorem Ox (R:List Int) (k:Int) (h:k ∉ R) (hl:R.length<Big):PW (remM R) k true=some (remM (R++[k])):=by
 unfold PW
 rw [if_pos (by grind [remM]),Vl R k h]
theorem fT (n:Net) (bk:List Net) (R:List Int) (x:Int) (h:x ∉ R) (hl:R.length<Big):BO ⟨n,bk,remM R⟩ [x] =some ⟨n,bk,remM (R++[x])⟩:=by
 unfold BO
 obtain⟨f,hf⟩:∃f,fuel=f+1+1:=⟨fuel - 2,by rw [Af]⟩
 rw [hf,Ay,if_pos (by simp)]
 have:at? [x] 0=some x:=rfl
 simp only
 rw [this,AA,Ox R x h hl,AA,w64 (by omega) (by omega),Ay,if_neg (by simp)]
theorem fU (n:Net) (bk:List Net) (R:List Int) (x y:Int) (hx:x ∉ R) (hy:y ∉ R) (hne:x≠y) (hl:R.length+1<Big):BO ⟨n,bk,remM R⟩ [x,y] =some ⟨n,bk,remM (R++[x] ++[y])⟩:=by
 unfold BO
 obtain⟨f,hf⟩:∃f,fuel=f+1+1+1:=⟨fuel - 3,by rw [Af]⟩
 rw [hf,Ay,if_pos (by simp)]
 have h0:at? [x,y] 0=some x:=rfl
 have h1:at? [x,y] (0+1)=some y:=rfl
 simp only
 rw [h0,AA,Ox R x hx (by omega),AA,w64 (by omega) (by omega),Ay,if_pos (by simp),h1,AA,Ox (R++[x]) y (by grind) (by grind),AA,w64 (by omega) (by omega),Ay,if_neg (by simp)]
structure Stt (R:List Int) (A B:List Agent):Prop where
 ok:Ok (fun k=>k ∈ R) (fun p=>p.agent ∈ R) A B
 cnt:AW B+R.length=B.length
 nb:∀a ∈ A,NB (sh a)
theorem Vm {R:List Int} {X Y:Port→Prop} {A B A' B':List Agent} {new:List Sh} (h:Ok (fun k=>k ∈ R) X A B) (h':Ok (fun k=>k ∈ R) Y A' B') (hs:A'.map sh=A.map sh++new):B'.map (·.kind)=B.map (·.kind)++new.map (·.1):=by
 have e:A'.map (·.kind)=A.map (·.kind)++new.map (·.1):=by
  have:=congrArg (List.map (·.1)) hs
  rw [List.map_append,List.map_map,List.map_map] at this
  exact this
 have hlA:=congrArg List.length e
 simp only [List.length_append,List.length_map] at hlA
 have l1:=h.len
 have l2:=h'.len
 apply List.ext_getElem?
 intro i
 by_cases hi:i<A'.length
 ·by_cases hr:(i:Int) ∈ R
  ·have k1:=h.hl _ hr
   have k2:=h'.hl _ hr
   have k3:=Cq k1
   rw [List.getElem?_append_left (by rw [List.length_map]; omega),List.getElem?_map,List.getElem?_map]
   obtain⟨-,k4⟩:=BN k1
   obtain⟨-,k5⟩:=BN k2
   rw [Int.toNat_natCast] at k4 k5
   rw [k4,k5]
  ·have k1:=h.ag _ hr
   have k2:=h'.ag _ hr
   unfold at? at k1 k2
   rw [if_pos (by omega),Int.toNat_natCast] at k1 k2
   rw [if_pos (by omega)] at k1 k2
   have e2:=congrArg (fun l=>l[i]?) e
   grind
 grind
theorem Zn {l} {i} {a} (h:l[i]? =some a) (hk:a.kind≠0):AW (l.set i cS)+1=AW l:=by
 induction l generalizing i with
 |nil=>grind
 | cons b l ih=>
  cases i with
  |zero=>
   simp only [List.getElem?_cons_zero,Option.some.injEq] at h
   subst h
   rw [List.set_cons_zero,AW,AW,if_neg hk,if_pos (by rfl)]; omega
  |succ i=>
   rw [List.getElem?_cons_succ] at h
   rw [List.set_cons_succ,AW,AW,← ih h]; omega
theorem Ok.rem {R} {X} {A B} (h:Ok (fun k=>k ∈ R) X A B) {x} {a} (ha:at? A x=some a) (hx:x ∉ R) (hX:∀p:Port,p.agent=x→X p):
  Dk ⟨B⟩ x=some ⟨B.set x.toNat cS⟩∧Ok (fun k=>k ∈ R++[x]) X A (B.set x.toNat cS)∧(a.kind≠0→AW (B.set x.toNat cS)+1=AW B):=by
 have hb:at? B x=some a:=(h.ag x hx).symm.trans ha
 refine⟨?_,⟨by rw [List.length_set]; exact h.len,fun k hk=>?_,fun k hk=>?_,h.m,fun p hp=>?_⟩,fun hk=>?_⟩
 ·unfold Dk C0 VK
  rw [hb,AA,AA]; rfl
 ·have hk':k ∉ R∧k≠x:=by grind
  rw [Tf hb,if_neg hk'.2]; exact h.ag k hk'.1
 ·rw [Tf hb]
  rcases List.mem_append.1 hk with e|e
  ·rw [if_neg (fun e2:k=x=>hx (e2 ▸ e))]; exact h.hl k e
  grind
 ·rcases List.mem_append.1 hp with e|e
  ·exact h.sx p e
  grind
 simp_all [Zn,BN]
theorem Stt.both {R:List Int} {A B:List Agent} (hst:Stt R A B) {x y:Int} {a b:Agent} (hp:Pr (fun k=>k ∈ R) A x y a b) (hne:x≠y) {new:List Sh} {A2 B2:List Agent} (d:Done (fun k=>k ∈ R) A x y new A2 B2) (hn:∀n ∈ new,NB n) (bk:List Net) (hR:R.length+1<Big):
  ∃B3 B4,Dk ⟨B2⟩ x=some ⟨B3⟩∧Dk ⟨B3⟩ y=some ⟨B4⟩∧BO ⟨⟨A2⟩,bk,remM R⟩ [x,y] =some ⟨⟨A2⟩,bk,remM (R++[x] ++[y])⟩∧Stt (R++[x] ++[y]) A2 B4:=by
 have nb2:∀a ∈ A2,NB (sh a):=fun a ha=>by
  have:=List.mem_map_of_mem (f:=sh) ha
  rw [d.shp] at this
  rcases List.mem_append.1 this with e|e
  ·obtain⟨c,hc,e⟩:=List.mem_map.1 e
   rw [← e]; exact hst.nb c hc
  grind
 have hx2:=B6 (m:=new) (DX hp.hx)
 have hy2:=B6 (m:=new) (DX hp.hy)
 rw [← d.shp] at hx2 hy2
 obtain⟨a',ha',-⟩:=LW hx2
 obtain⟨b',hb',-⟩:=LW hy2
 have ka:a'.kind≠0:=(nb2 a' (List.mem_of_getElem? (BN ha').2)).2.2
 have kb:b'.kind≠0:=(nb2 b' (List.mem_of_getElem? (BN hb').2)).2.2
 obtain⟨e1,o1,c1⟩:=d.ok.rem ha' hp.sx fun p hp=>.inr (.inl hp)
 obtain⟨e2,o2,c2⟩:=o1.rem hb' (by simp only [List.mem_append,List.mem_singleton,not_or]; exact⟨hp.sy,fun e=>hne e.symm⟩) fun p hp=>.inr (.inr hp)
 refine⟨_,_,e1,e2,fU _ _ R x y hp.sx hp.sy hne hR,⟨o2.len,o2.ag,o2.hl,o2.m.mono fun p=>?_,fun p hp=>hp⟩,?_,nb2⟩
 ·grind
 ·have hk:=Vm hst.ok d.ok d.shp
  have l1:=congrArg List.length hk
  simp only [List.length_map,List.length_append] at l1
  have c3:AW B2=AW B+new.length:=by
   have:AW B2=AW (B++new.map fun s=>(⟨s.1,0,0,[],[]⟩:Agent)):=RF (by rw [hk,List.map_append,List.map_map]; rfl)
   rw [this,IE,ML (l:=new.map _),List.length_map]
   intro a ha
   obtain⟨s,hs,rfl⟩:=List.mem_map.1 ha
   exact(hn s hs).2.2
  have:=c1 ka
  have:=c2 kb
  have:=hst.cnt
  grind
theorem Stt.one {R:List Int} {A B:List Agent} (hst:Stt R A B) {x:Int} {a:Agent} (hx:at? A x=some a) (sx:x ∉ R) {new:List Sh} {A2 B2:List Agent} (ok:Ok (fun k=>k ∈ R) (fun p=>p.agent ∈ R∨p.agent=x) A2 B2) (hs:A2.map sh=A.map sh++new) (hn:∀n ∈ new,NB n) (bk:List Net) (hR:R.length<Big):
  ∃B3,Dk ⟨B2⟩ x=some ⟨B3⟩∧BO ⟨⟨A2⟩,bk,remM R⟩ [x] =some ⟨⟨A2⟩,bk,remM (R++[x])⟩∧Stt (R++[x]) A2 B3:=by
 have nb2:∀a ∈ A2,NB (sh a):=fun a ha=>by
  have:=List.mem_map_of_mem (f:=sh) ha
  rw [hs] at this
  rcases List.mem_append.1 this with e|e
  ·obtain⟨c,hc,e⟩:=List.mem_map.1 e
   rw [← e]; exact hst.nb c hc
  grind
 have hx2:=B6 (m:=new) (DX hx)
 rw [← hs] at hx2
 obtain⟨a',ha',-⟩:=LW hx2
 have ka:a'.kind≠0:=(nb2 a' (List.mem_of_getElem? (BN ha').2)).2.2
 obtain⟨e1,o1,c1⟩:=ok.rem ha' sx fun p hp=>.inr hp
 refine⟨_,e1,fT _ _ R x sx hR,⟨o1.len,o1.ag,o1.hl,o1.m.mono fun p=>by simp,fun p hp=>hp⟩,?_,nb2⟩
 have hk:=Vm hst.ok ok hs
 have l1:=congrArg List.length hk
 simp only [List.length_map,List.length_append] at l1
 have c3:AW B2=AW B+new.length:=by
  have:AW B2=AW (B++new.map fun s=>(⟨s.1,0,0,[],[]⟩:Agent)):=RF (by rw [hk,List.map_append,List.map_map]; rfl)
  rw [this,IE,ML (l:=new.map _),List.length_map]
  intro a ha
  obtain⟨s,hs,rfl⟩:=List.mem_map.1 ha
  exact(hn s hs).2.2
 have:=c1 ka
 have:=hst.cnt
 grind
theorem mz {a b} (h:pfi a b=0):kcl a b=8:=by
 grind [pfi,kcl,pcl]
theorem m5 {a b} (h:pfi a b=1):ru a.kind a.level b.kind b.level≠0∧pcl a b=ru a.kind a.level b.kind b.level:=by
 grind [pfi,pcl]
theorem m6 {a b} (h:pfi a b=2):ru b.kind b.level a.kind a.level≠0∧pcl b a=ru b.kind b.level a.kind a.level∧pcl a b=pcl b a:=by
 grind [pfi,pcl]
theorem Zo (a b:Agent):pfi a b=0∨pfi a b=1∨pfi a b=2:=by
 grind [pfi]
theorem ci {a b} (h:pcl a b=pcl b a):kcl a b=kcl b a:=by
 unfold kcl
 rw [h]
 by_cases h1:C7 a b=true <;> by_cases h2:C7 b a=true <;> simp [h1,h2]
def F9 (bk:List Net) (c:Int) (a:Agent):Int:=
 if c=8 then 11 else if c=7 then match at? bk a.value with
  |none=>3
  |some T=>if okL a.level T.agents=true then 0 else 9
 else 0
def Ld (bk:List Net) (c:Int) (a b:Agent):Int:=
 if c=3∨c=4 then (b.ports.length:Int) - 1 else if c=6 then (if a.kind=9 then (a.ports.length:Int) - 1 else 0)
 else if c=7 then match at? bk a.value with
  |none=>0
  |some T=>(T.agents.length:Int)
 else 0
section
variable {A B:List Agent} {bk:List Net}
theorem Oy {x y} {a} (ha:at? A x=some a) (ga:agB a=true) (hbk:∀T ∈ bk,Vn T.agents) (r:List (Int × Bool)) (c:Int) (hv:c=7→0≤a.value) (sw:Bool):
  CQ ⟨⟨A⟩,bk,r⟩ (c,sw) x y=some (if F9 bk c a=0 then (c,x,y,0) else (0,0,0,F9 bk c a)):=by
 unfold CQ C1 F9
 by_cases h8:c=8
 ·grind
 ·by_cases h7:c=7
  ·subst h7
   simp only [show ¬ ((7:Int)=8) from by omega,decide_false,Bool.false_eq_true,if_false,decide_true,if_true]
   have hv:=hv rfl
   rw [ha,AA]
   by_cases hlt:(bk.length:Int)≤a.value
   ·rw [if_pos (by grind),KR (by omega)]
    simp
   ·rw [if_neg (by grind)]
    obtain⟨T,hT,hm⟩:=EA (l:=bk) (i:=a.value) (by omega)
    rw [hT,AA,RE T a.level (hbk T hm) (ID ga),AA]
    grind
  grind
theorem cj {x y} {a b} (ha:at? A x=some a) (hb:at? A y=some b) (ga:agB a=true) (gb:agB b=true) (r:List (Int × Bool)) (c:Int) (he:F9 bk c a=0):
  Df ⟨⟨A⟩,bk,r⟩ c x y=some (grow c (Ld bk c a b)):=by
 have hp:=CP ga
 have hq:=CP gb
 have hj:∀n,BD ⟨⟨A⟩,bk,r⟩ c n=some (grow c n):=fun n=>by
  unfold BD
  obtain⟨e,h⟩:=XG c n
  rw [h,AA]
 grind [Df,Cj,Ld,w64,F9]
theorem ck {px py x y} {a b} (hF:E6 ⟨B⟩ px py=some (x,y)) (ha:at? B x=some a) (hb:at? B y=some b) (h2:Two a b) (ga:agB a=true) (gb:agB b=true) (hv:kcl a b=7→0≤a.value) (hbk:∀T ∈ bk,Vn T.agents):
  HH bk ⟨B⟩ px py=some (if F9 bk (kcl a b) a=0 then (grow (kcl a b) (Ld bk (kcl a b) a b),0) else (0,F9 bk (kcl a b) a)):=by
 have hp:=CP ga
 have hq:=CP gb
 have hj:∀n,-1000000000000≤n∧n≤1000000000000→Cl (kcl a b) n=some (grow (kcl a b) n,0):=fun n hn=>by
  unfold Cl
  obtain⟨e,h⟩:=XH (kcl a b) n hn
  rw [h,AA]
 unfold HH E8
 rw [hF,AA,ha,AA,hb,AA,LX h2,AA]
 generalize kcl a b=c at*
 unfold F9 Ld
 by_cases h8:c=8
 ·grind
 ·rw [if_neg (by grind),if_neg h8]
  by_cases h3:c=3
  ·grind [w64]
  ·by_cases h4:c=4
   ·grind [w64]
   ·by_cases h6:c=6
    ·grind [DB,w64]
    ·by_cases h7:c=7
     ·subst h7
      simp only [show ¬ ((7:Int)=3) from by omega,show ¬ ((7:Int)=4) from by omega,show ¬ ((7:Int)=6) from by omega,decide_false,decide_true,Bool.false_eq_true,if_true,if_false,or_false]
      have hv:=hv rfl
      by_cases hlt:(bk.length:Int)≤a.value
      ·rw [if_pos (by grind),KR (by omega)]
       simp
      ·rw [if_neg (by grind)]
       obtain⟨T,hT,hm⟩:=EA (l:=bk) (i:=a.value) (by omega)
       have hV:=hbk T hm
       have hl:=ID ga
       have hVl:=hV.len
       have hhi:hiL 0 T.agents≤8:=(Tl _ _ _).2 ⟨by omega,fun t ht=>(ID (hV.mem ht)).2⟩
       have hhi0:0≤hiL 0 T.agents:=by
        by_cases e:hiL 0 T.agents≤ -1
        ·simp_all [Tl]
        ·omega
       rw [hT,AA,AA,mx T (by grind),AA,w64 (by omega) (by omega)]
       simp only
       rw [jA (fun t ht=>hV.mem ht) hl]
       grind
     grind
end
theorem Oz (a b:Agent):let c:=ru a.kind a.level b.kind b.level
  (0≤c∧c≤7)∧(c=1→a.kind=2∧b.kind=3)∧(c=2→a.kind=4∧b.kind=4)∧(c=3→a.kind=4)∧(c=4→a.kind=5)∧(c=5→a.kind=6∧(b.kind=7∨b.kind=8))∧(c=6→(a.kind=6∧b.kind=11)∨(a.kind=9∧b.kind=10))∧(c=7→a.kind=12):=by
 intro c
 have hc:c=ru a.kind a.level b.kind b.level:=rfl
 clear_value c
 unfold ru at hc
 repeat' split at hc
 all_goals omega
structure RuInv (c:Int) (a b:Agent):Prop where
 k1:c=1→a.kind=2∧b.kind=3
 k2:c=2→a.kind=4∧b.kind=4
 k3:c=3→a.kind=4
 k4:c=4→a.kind=5
 k5:c=5→a.kind=6∧(b.kind=7∨b.kind=8)
 k6:c=6→(a.kind=6∧b.kind=11)∨(a.kind=9∧b.kind=10)
 k7:c=7→a.kind=12
structure PkInv (a:Agent):Prop where
 p1:a.kind=1∨a.kind=5∨a.kind=6∨a.kind=12→a.ports.length=1
 p2:a.kind=8∨a.kind=10∨a.kind=11→a.ports.length=2
 p3:a.kind=2∨a.kind=3∨a.kind=4∨a.kind=7→a.ports.length=3
theorem m7 {a} (h:agB a=true):GX a=true:=by
 grind [agB]
theorem Jv {a} (h:agB a=true):(a.kind=7→a.data.length=0)∧(a.kind=8→a.data.length=1)∧(a.kind=9→0≤a.value)∧(a.kind=11→a.data.length=2)∧(a.kind=12→0≤a.value):=by
 have h:=m7 h
 grind [GX,Fu]
section
variable {R:List Int} {A B:List Agent}
structure Outc (R:List Int) (A:List Agent) (x y:Int) (R':List Int) (A' B':List Agent) (new:List Sh):Prop where
 st:Stt R' A' B'
 shp:A'.map sh=A.map sh++new
 nl:new.length≤600
 sv:SV new
 fr:∀p q,Ab.get A p=some q→Ab.get A q=some p→p.agent ∉ R'→q.agent ∉ R'→Ab.get A' p=some q
 mem:∀k,k ∈ R'↔k ∈ R∨k=x∨(k=y∧y ∈ R')
theorem Lf (hst:Stt R A B) {x y} {a b} (hp:Pr (fun k=>k ∈ R) A x y a b) (hne:x≠y) {new} {A2 B2} (d:Done (fun k=>k ∈ R) A x y new A2 B2) (hn:NBs new) (sv:SV new) (hR:R.length+1<Big) (bk:List Net) (a0:Rewriter) (h0:a0.book=bk) (c:Int) (hc:c≠7) (v:Int × Int × Int × Int) (hv:v.2.1 =x∧v.2.2.1 =y) (z:Int × Int) (hz:z=(x,y)):
  ∃B4,Ae a0 v (remM R) A2=some (0,⟨⟨A2⟩,bk,remM (R++[x] ++[y])⟩)∧Ce z c B2=some (0,⟨B4⟩)∧Outc R A x y (R++[x] ++[y]) A2 B4 new:=by
 obtain⟨B3,B4,e1,e2,e3,e4⟩:=hst.both hp hne d hn.1 bk hR
 subst h0 hz
 refine⟨B4,?_,?_,e4,d.shp,hn.2,sv,fun p q h1 h2 n1 n2=>d.fr p q h1 h2 (fun e=>n1 (by rcases e with e|e|e <;> simp [e])) (fun e=>n2 (by rcases e with e|e|e <;> simp [e])),fun k=>?_⟩
 ·unfold Ae
  rw [hv.1,hv.2,e3,AA]
 ·unfold Ce
  rw [e1,AA,if_pos (by grind),e2,AA]
 grind
theorem fV (hst:Stt R A B) {x y} {a b} (hp:Pr (fun k=>k ∈ R) A x y a b) (ga:agB a=true) (gb:agB b=true) (kb:b.kind≠1) (c:Int) (hc:ru a.kind a.level b.kind b.level=c) (hc0:c≠0) (hno:c=6→a.kind=9→a.value<(b.data.length:Int)) (hA:A.length≤8000000) (bk:List Net) (hbk:∀T ∈ bk,Vn T.agents) (he:F9 bk c a=0):
  ∃R' A' B' new,BU ⟨⟨A⟩,bk,remM R⟩ (c,x,y,0) (decide (c=1∨c=2))=some (0,⟨⟨A'⟩,bk,remM R'⟩)∧Ft bk ⟨B⟩ (x,y) c (decide (c=1∨c=2))=some (0,⟨B'⟩)∧Outc R A x y R' A' B' new∧((AW B':Nat):Int)=((AW B:Nat):Int)+grow c (Ld bk c a b)∧R'=(if c=7 then R++[x] else R++[x] ++[y]):=by
 have hOk:=hst.ok
 have hne:=(hOk.start hp).2
 have hRl:R.length+1<Big:=by
  have:=hst.cnt
  have:=hOk.len
  grind
 obtain⟨hcr,K⟩:(0≤c∧c≤7)∧RuInv c a b:=by
  obtain⟨h,k1,k2,k3,k4,k5,k6,k7⟩:=Oz a b
  rw [hc] at h k1 k2 k3 k4 k5 k6 k7
  exact⟨h,k1,k2,k3,k4,k5,k6,k7⟩
 have pa:PkInv a:=⟨(Lb ga).1,(Lb ga).2.1,(Lb ga).2.2⟩
 have pb:PkInv b:=⟨(Lb gb).1,(Lb gb).2.1,(Lb gb).2.2⟩
 have hp4:=CP ga
 have hq4:=CP gb
 have hbd:=LZ gb
 have lv:∀ {R':List Int} {A' B':List Agent} {new:List Sh},Outc R A x y R' A' B' new→((AW B':Nat):Int)=((AW B:Nat):Int)+(new.length:Int) - ((R'.length:Int) - (R.length:Int)):=fun {R' A' B' new} o=>by
  have c1:=o.st.cnt
  have c2:=hst.cnt
  have c3:=o.st.ok.len
  have c4:=hOk.len
  have c5:=KU o.shp
  rw [List.length_append,List.length_map] at c5
  omega
 have lv2:∀ {A' B':List Agent} {new:List Sh},Outc R A x y (R++[x] ++[y]) A' B' new→∀g:Int,g=(new.length:Int) - 2→((AW B':Nat):Int)=((AW B:Nat):Int)+g:=fun {A' B' new} o g hg=>by
  grind
 by_cases h12:c=1∨c=2
 ·have ha3:a.ports.length=3:=by
   rcases h12 with e|e
   ·exact pa.p3 (.inl (K.k1 e).1)
   ·exact pa.p3 (.inr (.inr (.inl (K.k2 e).1)))
  have hb3:b.ports.length=3:=by
   rcases h12 with e|e
   ·exact pb.p3 (.inr (.inl (K.k1 e).2))
   ·exact pb.p3 (.inr (.inr (.inl (K.k2 e).2)))
  obtain⟨A1,A2,B1,B2,e1,e2,f1,f2,d⟩:=fR hOk hp ha3 hb3
  obtain⟨B4,g1,g2,g3⟩:=Lf hst hp hne d (And.intro (fun n hn=>by cases hn) (by simp)) (fun n hn=>by cases hn) hRl bk ⟨⟨A⟩,bk,remM R⟩ rfl c (by omega) (c,x,y,0) ⟨rfl,rfl⟩ (x,y) rfl
  refine⟨_,A2,B4,_,?_,?_,g3,lv2 g3 _ (by rcases h12 with e|e <;> simp [grow,Ld,e]),by rw [if_neg (by omega)]⟩
  ·grind [BU]
  simp_all [Ft,Cp]
 ·have hd:decide (c=1∨c=2)=false:=by grind
  rw [hd]
  unfold BU Ft
  rw [if_neg (show ¬ ((false:Bool)=true) from by simp),if_neg (show ¬ ((false:Bool)=true) from by simp)]
  simp only
  by_cases h3:c=3
  ·obtain⟨A2,B2,new,e1,f1,d,hn,sv,nl⟩:=i8 hOk hp ga gb (K.k3 h3) kb (pa.p3 (.inr (.inr (.inl (K.k3 h3))))) hq4.1 hq4.2 hbd (by have:=La gb; omega) hA
   obtain⟨B4,g1,g2,g3⟩:=Lf hst hp hne d hn sv hRl bk ⟨⟨A⟩,bk,remM R⟩ rfl c (by omega) (c,x,y,0) ⟨rfl,rfl⟩ (x,y) rfl
   grind [grow,Ld]
  ·have n3:¬ (decide (c=3)=true):=by grind
   rw [if_neg n3,if_neg n3]
   by_cases h4:c=4
   ·obtain⟨A2,B2,e1,f1,d⟩:=cY hOk hp (pa.p1 (.inr (.inl (K.k4 h4)))) hq4.1 (by omega) hA ⟨⟨A⟩,bk,remM R⟩ (c,x,y,0) rfl (remM R) (x,y) rfl c
    obtain⟨B4,g1,g2,g3⟩:=Lf hst hp hne d ⟨fun n hn=>by rw [(List.mem_replicate.1 hn).2]; exact⟨by simp [Ig],by simp [Ig],by simp [Ig]⟩,by rw [List.length_replicate]; omega⟩ (fun n hn=>by rw [(List.mem_replicate.1 hn).2]; exact⟨by simp [Ig],by rfl⟩) hRl bk ⟨⟨A⟩,bk,remM R⟩ rfl c (by omega) (c,x,y,0) ⟨rfl,rfl⟩ (x,y) rfl
    refine⟨_,A2,B4,_,?_,?_,g3,lv2 g3 _ (by grind [grow,Ld]),by rw [if_neg (by omega)]⟩
    ·rw [if_pos (by grind),e1]; exact g1
    ·rw [if_pos (by grind),hp.bY hOk,AA,f1]; exact g2
   ·have n4:¬ (decide (c=4)=true):=by grind
    rw [if_neg n4,if_neg n4]
    by_cases h5:c=5
    ·obtain⟨A2,B2,new,e1,f1,d,hn,sv,nl⟩:=XK hOk hp ga gb (K.k5 h5).1 (pa.p1 (.inr (.inr (.inl (K.k5 h5).1)))) (by
      rcases (K.k5 h5).2 with e|e
      ·exact .inl ⟨e,pb.p3 (.inr (.inr (.inr e))),(Jv gb).1 e⟩
      ·exact .inr ⟨e,pb.p2 (.inl e),(Jv gb).2.1 e⟩) hA
     obtain⟨B4,g1,g2,g3⟩:=Lf hst hp hne d hn sv hRl bk ⟨⟨A⟩,bk,remM R⟩ rfl c (by omega) (c,x,y,0) ⟨rfl,rfl⟩ (x,y) rfl
     grind [grow,Ld]
    ·have n5:¬ (decide (c=5)=true):=by grind
     rw [if_neg n5,if_neg n5]
     by_cases h6:c=6
     ·obtain⟨A2,B2,new,e1,f1,d,hn,sv,nl⟩:∃A2 B2 new,(∀bk r,Br ⟨⟨A⟩,bk,r⟩ x y=some ⟨⟨A2⟩,bk,r⟩)∧EH ⟨B⟩ x y=some ⟨B2⟩∧Done (fun k=>k ∈ R) A x y new A2 B2∧NBs new∧SV new∧(new.length:Int)=Ld bk 6 a b+1:=by
       rcases K.k6 h6 with ⟨e1,e2⟩|⟨e1,e2⟩
       ·obtain⟨A2,B2,new,z1,z2,z3,z4,z5,z6⟩:=Zg hOk hp gb (pa.p1 (.inr (.inr (.inl e1)))) e1 e2 (pb.p2 (.inr (.inr e2))) ((Jv gb).2.2.2.1 e2) hA
        grind [Ld]
       ·obtain⟨A2,B2,new,z1,z2,z3,z4,z5,z6⟩:=ce hOk hp gb e1 e2 (a.ports.length - 1) (by omega) (by omega) (pb.p2 (.inr (.inl e2))) hbd ((Jv ga).2.2.1 e1) (hno h6 e1) hA
        grind [Ld]
      obtain⟨B4,g1,g2,g3⟩:=Lf hst hp hne d hn sv hRl bk ⟨⟨A⟩,bk,remM R⟩ rfl c (by omega) (c,x,y,0) ⟨rfl,rfl⟩ (x,y) rfl
      grind [Ld,grow]
     ·have h7:c=7:=by omega
      have n6:¬ (decide (c=6)=true):=by grind
      have p7:decide (c=7)=true:=by grind
      rw [if_neg n6,if_neg n6,if_pos p7,if_pos p7]
      unfold F9 at he
      rw [if_neg (by omega),if_pos h7] at he
      cases hT:at? bk a.value with
      |none=>rw [hT] at he; grind
      | some T=>
       rw [hT] at he
       have hok:okL a.level T.agents=true:=by
        grind
       have hm:T ∈ bk:=List.mem_of_getElem? (BN hT).2
       obtain⟨A2,B2,new,e1,f1,o,s,⟨hn,sv⟩,⟨hl,hl1⟩,hfr⟩:=Zm hOk hp (pa.p1 (.inr (.inr (.inr (K.k7 h7))))) (hbk T hm) (ID ga) hok hA
       obtain⟨B3,g1,g2,g3⟩:=hst.one hp.hx hp.sx o s hn bk (by omega)
       have hO:Outc R A x y (R++[x]) A2 B3 new:=⟨g3,s,by have:=(hbk T hm).len; omega,sv,fun p q h1 h2 n1 n2=>hfr p q h1 h2 (fun e=>n1 (by grind)) (fun e=>n2 (by grind)),fun k=>by
        grind⟩
       refine⟨_,A2,B3,new,?_,?_,hO,?_,by rw [if_pos h7]⟩
       ·rw [e1 bk (remM R) hT,AA,g2,AA]
       ·rw [hp.bx hOk,AA,hT,AA,f1,AA]
        unfold Ce
        simp only
        rw [g1,AA,if_neg (by grind)]
       ·have:=lv hO
        rw [List.length_append,List.length_singleton] at this
        have hTl:=(hbk T hm).len
        grind [grow,Ld]
end
theorem fW (c n:Int): -2≤grow c n∧grow c n≤600:=by
 grind [grow]
theorem Tn {a b} (h:kcl a b≠8):C7 a b=false∧C7 b a=false∧kcl a b=pcl a b:=by
 grind [kcl]
section
variable {R:List Int} {A B:List Agent}
theorem step_ord (hst:Stt R A B) {px py x y} {a b} (hp:Pr (fun k=>k ∈ R) A x y a b) (ga:agB a=true) (gb:agB b=true) (h2:Two a b) (bk:List Net) (hbk:∀T ∈ bk,Vn T.agents) (hA:A.length≤8000000)
  (hF:E6 ⟨B⟩ px py=some (x,y)) (hr:kcl a b≠8→ru a.kind a.level b.kind b.level≠0∧pcl a b=ru a.kind a.level b.kind b.level)
  (hC:CC ⟨⟨A⟩,bk,remM R⟩ ⟨px,py⟩=some (if F9 bk (kcl a b) a=0 then (kcl a b,x,y,0) else (0,0,0,F9 bk (kcl a b) a))):
  (∃e,e≠0∧Aj ⟨⟨A⟩,bk,remM R⟩ ⟨px,py⟩=some (e,⟨⟨A⟩,bk,remM R⟩)∧Hk bk ⟨B⟩ px py=some (e,⟨B⟩))∨
   (∃R' A' B' new,(kcl a b≠8∧AW B'≤600)∧Aj ⟨⟨A⟩,bk,remM R⟩ ⟨px,py⟩=some (0,⟨⟨A'⟩,bk,remM R'⟩)∧Hk bk ⟨B⟩ px py=some (0,⟨B'⟩)∧Outc R A x y R' A' B' new):=by
 have hOk:=hst.ok
 have hv:kcl a b=7→0≤a.value:=fun e=>by
  have h8:kcl a b≠8:=by omega
  obtain⟨h3,h4⟩:=hr h8
  obtain⟨-,-,h5⟩:=Tn h8
  have h6:=(Oz a b).2.2.2.2.2.2.2
  grind [Jv]
 have hG:=ck hF (hp.bx hOk) (hp.bY hOk) h2 ga gb hv hbk
 unfold Aj Hk
 rw [hC,AA,hG,AA]
 by_cases he:F9 bk (kcl a b) a=0
 ·rw [if_pos he,if_pos he]
  have h8:kcl a b≠8:=fun e=>by rw [e] at he; grind [F9]
  obtain⟨h3,h4⟩:=hr h8
  obtain⟨n1,n2,h5⟩:=Tn h8
  have hl1:AW B≤B.length:=Ju B
  have hl2:=hst.cnt
  have hl3:=hOk.len
  have hgb:=fW (kcl a b) (Ld bk (kcl a b) a b)
  have hcount:D5 ⟨⟨A⟩,bk,remM R⟩=some ((AW B:Nat):Int):=by
   grind [D5,remM,w64]
  have hlive:=YQ ⟨B⟩ (by grind)
  simp only at hlive
  simp only [decide_true,Bool.not_true,Bool.false_eq_true,if_false]
  rw [hcount,AA,cj hp.hx hp.hy ga gb (remM R) (kcl a b) he,AA,hlive,AA]
  rw [w64 (by omega) (by omega)]
  by_cases h6:(600:Int)<((AW B:Nat):Int)+grow (kcl a b) (Ld bk (kcl a b) a b)
  ·rw [if_pos (by grind),if_pos (by grind)]
   simp_all
  ·have h6':¬ (decide ((600:Int)<((AW B:Nat):Int)+grow (kcl a b) (Ld bk (kcl a b) a b))=true):=by grind
   rw [if_neg h6',if_neg h6',hF,AA,hp.bx hOk,AA,hp.bY hOk,AA,LX h2,AA]
   obtain⟨R',A',B',new,r1,r2,r3,r4⟩:=fV hst hp ga gb h2.rb (kcl a b) (by rw [h5,h4]) (by rw [h5,h4]; exact h3) (fun e1 e2=>by
    have h7:=(Oz a b).2.2.2.2.2.2.1 (by rw [← h4,← h5,e1])
    grind [C7]) hA bk hbk he
   grind
 simp_all
theorem step (hst:Stt R A B) {px py} {a b} (hp:Pr (fun k=>k ∈ R) A px py a b) (ga:agB a=true) (gb:agB b=true) (ka:a.kind≠1) (kb:b.kind≠1) (bk:List Net) (hbk:∀T ∈ bk,Vn T.agents) (hA:A.length≤8000000):
  (∃e,e≠0∧Aj ⟨⟨A⟩,bk,remM R⟩ ⟨px,py⟩=some (e,⟨⟨A⟩,bk,remM R⟩)∧Hk bk ⟨B⟩ px py=some (e,⟨B⟩))∨
   (∃x y R' A' B' new,((x=px∧y=py)∨(x=py∧y=px))∧(kcl a b≠8∧AW B'≤600)∧Aj ⟨⟨A⟩,bk,remM R⟩ ⟨px,py⟩=some (0,⟨⟨A'⟩,bk,remM R'⟩)∧Hk bk ⟨B⟩ px py=some (0,⟨B'⟩)∧Outc R A x y R' A' B' new):=by
 have hOk:=hst.ok
 have h2:Two a b:=⟨Hp ga,Hp gb,ka,kb⟩
 obtain⟨sw,hcl,hsw⟩:=PZ (i:=px) (j:=py) hp.hx hp.hy h2
 have hFF:E6 ⟨B⟩ px py=some (if pfi a b=2 then (py,px) else (px,py)):=by
  unfold E6
  rw [hp.bx hOk,AA,hp.bY hOk,AA,Ze h2,AA]
  by_cases e:pfi a b=2 <;> simp [e]
 have hv:∀ {a b:Agent},agB a=true→kcl a b=7→pcl a b=ru a.kind a.level b.kind b.level→0≤a.value:=fun {a b} ga e h4=>by
  obtain⟨-,-,h5⟩:=Tn (a:=a) (b:=b) (by omega)
  have h6:=(Oz a b).2.2.2.2.2.2.2
  grind [Jv]
 by_cases h22:pfi a b=2
 ·obtain⟨q1,q2,q3⟩:=m6 h22
  have hk:kcl a b=kcl b a:=ci q3
  rw [if_pos h22] at hFF
  have hp':Pr (fun k=>k ∈ R) A py px b a:=⟨hp.hy,hp.hx,(hOk.m _ _ hp.w hp.sx).2.2,hp.sy,hp.sx⟩
  have hC:CC ⟨⟨A⟩,bk,remM R⟩ ⟨px,py⟩=some (if F9 bk (kcl b a) b=0 then (kcl b a,py,px,0) else (0,0,0,F9 bk (kcl b a) b)):=by
   unfold CC
   rw [hcl,AA,hk]
   by_cases h8:kcl a b=8
   ·have h8':kcl b a=8:=hk ▸ h8
    rw [h8']
    have e11:∀z,F9 bk 8 z=11:=fun z=>by rfl
    cases sw with
    |true=>rw [if_pos rfl,Oy hp.hy gb hbk (remM R) 8 (by omega) true]
    |false=>rw [if_neg (by simp),Oy hp.hx ga hbk (remM R) 8 (by omega) false,e11,e11]; simp
   ·have:=hsw h8
    rw [this,h22]
    simp only [decide_true,if_true]
    exact Oy hp.hy gb hbk (remM R) (kcl b a) (fun e=>hv gb e q2) true
  rcases step_ord hst hp' gb ga h2.symm bk hbk hA hFF (fun _=>⟨q1,q2⟩) hC with h|⟨R',A',B',new,r0,r1,r2,r3⟩
  ·grind
  grind
 ·rw [if_neg h22] at hFF
  have hr:kcl a b≠8→ru a.kind a.level b.kind b.level≠0∧pcl a b=ru a.kind a.level b.kind b.level:=fun h8=>by
   grind [Zo,mz,m5]
  have hC:CC ⟨⟨A⟩,bk,remM R⟩ ⟨px,py⟩=some (if F9 bk (kcl a b) a=0 then (kcl a b,px,py,0) else (0,0,0,F9 bk (kcl a b) a)):=by
   unfold CC
   rw [hcl,AA]
   by_cases h8:kcl a b=8
   ·rw [h8]
    have e11:∀z,F9 bk 8 z=11:=fun z=>by rfl
    cases sw with
    |true=>rw [if_pos rfl,Oy hp.hy gb hbk (remM R) 8 (by omega) true,e11,e11]; simp
    |false=>rw [if_neg (by simp),Oy hp.hx ga hbk (remM R) 8 (by omega) false]
   ·have:=hsw h8
    rw [this]
    simp only [h22,decide_false,Bool.false_eq_true,if_false]
    exact Oy hp.hx ga hbk (remM R) (kcl a b) (fun e=>hv ga e (hr h8).2) false
  grind [step_ord]
end
end Go.Proofs.YteckcjgpnegkjaaGreatDoor.Ab
