/-
  Nets that are rewritten: ports, wires, links. No program is in sight.
-/
import Derived.Test.YteckcjgpnegkjaaGreatModG
import Derived.Test.YteckcjgpnegkjaaGreatPlNet
namespace Go.Proofs.YteckcjgpnegkjaaGreat.Ab
set_option linter.unusedVariables false
set_option maxHeartbeats 1000000
set_option linter.unusedSimpArgs false
open Go.RowKit
theorem Ce {p q:Port} (h1:p.agent=q.agent) (h2:p.slot=q.slot):p=q:=by cases p; simp_all
instance:DecidableEq Port:=fun p q=>if h:p.agent=q.agent∧p.slot=q.slot then isTrue (Ce h.1 h.2) else isFalse fun e=>h ⟨by rw [e],by rw [e]⟩
theorem Ie {α:Type} {l:List α} {k:Nat} {x:α} (h:l[k]? =some x):at? l (k:Int)=some x:=by
 grind [at?]
theorem Bk {α:Type} {l:List α} {i:Int} {x:α} (h:at? l i=some x):0≤i∧i<(l.length:Int):=by
 obtain⟨h1,h2⟩:=BW h
 grind
theorem QD {α:Type} {l:List α} {i j:Int} {x y:α} (h:at? l i=some x):at? (l.set i.toNat y) j=if j=i then some y else at? l j:=by
 grind [at?]
abbrev get (l:List Agent) (p:Port):Option Port:=GJ l p
theorem AZ {l} {p q}:get l p=some q↔∃a,at? l p.agent=some a∧at? a.ports p.slot=some q:=by
 grind [GJ,Option.bind_eq_some_iff]
def upd (l:List Agent) (p q:Port):List Agent:=match at? l p.agent with
 |some a=>l.set p.agent.toNat ⟨a.kind,a.level,a.value,a.data,a.ports.set p.slot.toNat q⟩
 |none=>l
theorem LX {l} {p q} {a} (h:at? l p.agent=some a):upd l p q=l.set p.agent.toNat ⟨a.kind,a.level,a.value,a.data,a.ports.set p.slot.toNat q⟩:=by unfold upd; rw [h]
theorem Zb {l} {p q}:(upd l p q).length =l.length:=by
 unfold upd; split <;> simp
theorem OS {l:List Agent} {p q:Port} {a:Agent} (h:at? l p.agent=some a) {k:Int}:at? (upd l p q) k=if k=p.agent then some ⟨a.kind,a.level,a.value,a.data,a.ports.set p.slot.toNat q⟩ else at? l k:=by
 rw [LX h,QD h]
theorem PL {l:List Agent} {p q r:Port} {v:Port} (h:get l p=some v):get (upd l p q) r=if r=p then some q else get l r:=by
 obtain⟨a,h1,h2⟩:=AZ.1 h
 unfold get GJ
 rw [OS h1]
 grind [QD,Ce]
def sh (a:Agent):Int × Int × Int × List Int × Nat:=(a.kind,a.level,a.value,a.data,a.ports.length)
theorem eJ {l} {p q}:(upd l p q).map sh=l.map sh:=by
 unfold upd
 split
 ·rename_i a h
  obtain⟨h1,h2⟩:=BW h
  rw [List.map_set]
  have:sh ⟨a.kind,a.level,a.value,a.data,a.ports.set p.slot.toNat q⟩=sh a:=by simp [sh]
  rw [this]
  refine List.ext_getElem? fun i=>?_
  rw [List.getElem?_set]
  grind
 ·rfl
def lk (l:List Agent) (p q:Port):List Agent:=upd (upd l p q) q p
theorem OT {l} {p q}:(lk l p q).length =l.length:=by unfold lk; rw [Zb,Zb]
theorem W8 {l} {p q}:(lk l p q).map sh=l.map sh:=by unfold lk; rw [eJ,eJ]
theorem VB {l} {p q r u v} (hp:get l p=some u) (hq:get l q=some v):get (lk l p q) r=if r=q then some p else if r=p then some q else get l r:=by
 grind [lk,PL]
theorem H5 {l} {p q u v} (hp:get l p=some u) (hq:get l q=some v):s_l11Link ⟨l⟩ p q=some ⟨lk l p q⟩:=by
 obtain⟨a,h1,h2⟩:=AZ.1 hp
 have h3:∃v',get (upd l p q) q=some v':=by
  rw [PL hp]; grind
 obtain⟨v',h3⟩:=h3
 obtain⟨b,h4,h5⟩:=AZ.1 h3
 unfold s_l11Link Bm SO
 simp only
 rw [h1,AA,h2,AA,AA,AA,← LX h1,h4,AA,h5,AA,AA,AA,← LX h4]
 rfl
theorem Kx (n:Net) (p q:Port):Ca n p q=s_l11Link n p q:=rfl
theorem Mg {l:List Agent} {p q a b u v:Port} (hne:p≠q) (hp:get l p=some u) (hq:get l q=some v):upd (upd l p a) q b=upd (upd l q b) p a:=by
 obtain⟨x,h1,h2⟩:=AZ.1 hp
 obtain⟨y,h3,h4⟩:=AZ.1 hq
 obtain⟨n1,-⟩:=BW h1
 obtain⟨n3,-⟩:=BW h3
 obtain⟨n2,-⟩:=BW h2
 obtain⟨n4,-⟩:=BW h4
 by_cases e:q.agent=p.agent
 ·have hxy:y=x:=by rw [e,h1] at h3; grind
  subst hxy
  have hs:p.slot≠q.slot:=fun e2=>hne (Ce e.symm e2)
  have k1:at? (upd l p a) q.agent=some ⟨y.kind,y.level,y.value,y.data,y.ports.set p.slot.toNat a⟩:=by rw [OS h1,if_pos e]
  have k2:at? (upd l q b) p.agent=some ⟨y.kind,y.level,y.value,y.data,y.ports.set q.slot.toNat b⟩:=by rw [OS h3,if_pos e.symm]
  rw [LX k1,LX k2,LX h1,LX h3,e,List.set_set,List.set_set]
  simp only
  rw [List.set_comm _ _ (by omega)]
 grind [upd,OS,List.set_comm]
theorem VC {l} {p q u v} (hp:get l p=some u) (hq:get l q=some v):lk l p q=lk l q p:=by
 by_cases e:p=q
 ·grind
 ·exact Mg e hp hq
theorem NP {l} {p q} (h:get l p=some q):Gv ⟨l⟩ p=some q:=by
 grind [AZ,Gv]
theorem PJ (n:Net) (p:Port):Ct n p=Gv n p:=rfl
def mv (l:List Agent) (old now:Port):List Agent:=match get l old with
 |some v=>lk l now v
 |none=>l
theorem hH {l} {o n v u u'} (ho:get l o=some v) (hv:get l v=some u) (hn:get l n=some u'):Bz ⟨l⟩ o n=some ⟨mv l o n⟩:=by
 grind [Bz,mv,NP,H5]
theorem VD {l} {b} {r} {o n v u u'} (ho:get l o=some v) (hv:get l v=some u) (hn:get l n=some u'):AW ⟨⟨l⟩,b,r⟩ o n=some ⟨⟨mv l o n⟩,b,r⟩:=by
 unfold AW mv
 simp only
 rw [PJ,NP ho,AA,Kx,H5 hv hn,AA,ho,VC hv hn]
def jn (l:List Agent) (p q:Port):List Agent:=match get l p,get l q with
 |some a,some b=>if a=q then l else lk l a b
 |_,_=>l
theorem W9 (a q:Port):(decide (a.agent=q.agent)&&decide (a.slot=q.slot))=decide (a=q):=by
 grind [Ce]
theorem hJ {l} {p q a b u v} (hp:get l p=some a) (hq:get l q=some b) (ha:get l a=some u) (hb:get l b=some v):F4 ⟨l⟩ p q=some ⟨jn l p q⟩:=by
 grind [F4,jn,NP,W9,H5]
theorem eK {l} {bk} {r} {p q a b u v} (hp:get l p=some a) (hq:get l q=some b) (ha:get l a=some u) (hb:get l b=some v):CK ⟨⟨l⟩,bk,r⟩ p q=some ⟨⟨jn l p q⟩,bk,r⟩:=by
 grind [CK,jn,PJ,NP,W9,Kx,H5]
def M (l:List Agent) (X:Port→Prop):Prop:=∀p q,get l p=some q→¬X p→¬X q∧q≠p∧get l q=some p
theorem M.mono {l} {X Y} (h:M l X) (hxy:∀p,X p↔Y p):M l Y:=fun p q hp hx=>by
 obtain⟨h1,h2,h3⟩:=h p q hp fun h=>hx ((hxy p).1 h)
 grind
theorem M.drop {l} {X} (h:M l X) {p q} (hp:get l p=some q) (hx:¬X p):M l fun r=>X r∨r=p∨r=q:=fun r s hr hn=>by
 obtain⟨h1,h2,h3⟩:=h r s hr fun h=>hn (.inl h)
 obtain⟨k1,k2,k3⟩:=h p q hp hx
 grind
theorem J6 {l} {p q r u v} (hp:get l p=some u) (hq:get l q=some v) (h1:r≠p) (h2:r≠q):get (lk l p q) r=get l r:=by rw [VB hp hq,if_neg h2,if_neg h1]
theorem M.link {l} {X} (h:M l X) {p q u v} (hp:get l p=some u) (hq:get l q=some v) (hne:p≠q) (xp:X p) (xq:X q):M (lk l p q) fun r=>X r∧r≠p∧r≠q:=fun r s hr hn=>by
 rw [VB hp hq] at hr
 by_cases e1:r=q
 ·grind [VB]
 ·rw [if_neg e1] at hr
  by_cases e2:r=p
  ·grind [VB]
  ·rw [if_neg e2] at hr
   have hnx:¬X r:=fun h=>hn ⟨h,e2,e1⟩
   obtain⟨h1,h2,h3⟩:=h r s hr hnx
   have n1:s≠p:=fun e=>h1 (e ▸ xp)
   grind [J6]
theorem M.move {l} {X} (h:M l X) {o n v u'} (ho:get l o=some v) (xo:¬X o) (hn:get l n=some u') (xn:X n):M (mv l o n) fun r=>(X r∨r=o)∧r≠n:=by
 obtain⟨k1,k2,k3⟩:=h o v ho xo
 have hnv:n≠v:=fun e=>k1 (e ▸ xn)
 have:=(h.drop ho xo).link hn k3 hnv (.inl xn) (.inr (.inr rfl))
 grind [mv]
theorem M.join {l} {X} (h:M l X) {p q a b} (hp:get l p=some a) (hq:get l q=some b) (xp:¬X p) (xq:¬X q) (hne:p≠q):M (jn l p q) fun r=>X r∨r=p∨r=q:=by
 obtain⟨k1,k2,k3⟩:=h p a hp xp
 obtain⟨m1,m2,m3⟩:=h q b hq xq
 unfold jn
 rw [hp,hq]
 by_cases e:a=q
 ·subst e
  simp only [if_pos rfl]
  exact h.drop hp xp
 ·simp only [if_neg e]
  have hab:a≠b:=fun e2=>by rw [e2,m3] at k3; grind
  have hqa:¬ (X q∨q=p∨q=a):=fun hx=>by
   grind
  have h2:=((h.drop hp xp).drop hq hqa).link k3 m3 hab (.inl (.inr (.inr rfl))) (.inr (.inr rfl))
  grind
theorem A5 {p:Port} {a s:Int}:p=⟨a,s⟩↔p.agent=a∧p.slot=s:=⟨fun h=>by grind,fun h=>Ce h.1 h.2⟩
def eL:Agent:=⟨0,0,0,[],[]⟩
structure Ok (S:Int→Prop) (X:Port→Prop) (A B:List Agent):Prop where
 len:A.length=B.length
 ag:∀k,¬S k→at? A k=at? B k
 hl:∀k,S k→at? B k=some eL
 m:M A X
 sx:∀p,S p.agent→X p
section
variable {S:Int→Prop} {X:Port→Prop} {A B:List Agent}
theorem Ok.mono {Y} (h:Ok S X A B) (hxy:∀p,X p↔Y p):Ok S Y A B:=⟨h.len,h.ag,h.hl,h.m.mono hxy,fun p hp=>(hxy p).1 (h.sx p hp)⟩
theorem Ok.get (h:Ok S X A B) {p} (hp:¬S p.agent):get B p=get A p:=by
 unfold Ab.get GJ; rw [h.ag _ hp]
theorem Ok.live (h:Ok S X A B) {p} (hp:¬X p):¬S p.agent:=fun hs=>hp (h.sx p hs)
theorem Ok.s_lt (h:Ok S X A B) {k} (hk:S k):0≤k∧k<(A.length:Int):=by
 have:=Bk (h.hl k hk); rw [h.len]; omega
theorem oF {l} {p q u v} (hp:Ab.get l p=some u) (hq:Ab.get l q=some v) {k} (h1:k≠p.agent) (h2:k≠q.agent):at? (lk l p q) k=at? l k:=by
 unfold lk
 have h2':∃v',Ab.get (upd l p q) q=some v':=by
  rw [PL hp]; grind
 obtain⟨v',h3⟩:=h2'
 obtain⟨a,h4,-⟩:=AZ.1 hp
 obtain⟨b,h5,-⟩:=AZ.1 h3
 rw [OS h5,if_neg h2,OS h4,if_neg h1]
theorem eM {A B} {p q} {k} (hp:at? A p.agent=at? B p.agent) (hk:at? A k=at? B k):at? (upd A p q) k=at? (upd B p q) k:=by
 grind [upd,OS]
theorem hU {A B} {p q} {k} (hp:at? A p.agent=at? B p.agent) (hq:at? A q.agent=at? B q.agent) (hk:at? A k=at? B k):at? (lk A p q) k=at? (lk B p q) k:=by
 grind [lk,eM]
theorem Ok.lk' (h:Ok S X A B) {p q u v} (hp:Ab.get A p=some u) (hq:Ab.get A q=some v) (sp:¬S p.agent) (sq:¬S q.agent) {Y} (hm:M (lk A p q) Y) (hy:∀r,S r.agent→Y r):Ok S Y (lk A p q) (lk B p q):=by
 refine⟨by rw [OT,OT]; exact h.len,fun k hk=>hU (h.ag _ sp) (h.ag _ sq) (h.ag k hk),fun k hk=>?_,hm,hy⟩
 rw [oF ((h.get sp).trans hp) ((h.get sq).trans hq) (fun e=>sp (e ▸ hk)) (fun e=>sq (e ▸ hk))]
 exact h.hl k hk
theorem Ok.link (h:Ok S X A B) {p q u v} (hp:Ab.get A p=some u) (hq:Ab.get A q=some v) (hne:p≠q) (xp:X p) (xq:X q) (sp:¬S p.agent) (sq:¬S q.agent):
  Ca ⟨A⟩ p q=some ⟨lk A p q⟩∧Ca ⟨A⟩ q p=some ⟨lk A p q⟩∧s_l11Link ⟨B⟩ p q=some ⟨lk B p q⟩∧s_l11Link ⟨B⟩ q p=some ⟨lk B p q⟩∧Ok S (fun r=>X r∧r≠p∧r≠q) (lk A p q) (lk B p q):=by
 have hp':=(h.get sp).trans hp
 have hq':=(h.get sq).trans hq
 refine⟨by rw [Kx,H5 hp hq],by rw [Kx,H5 hq hp,VC hq hp],H5 hp' hq',by rw [H5 hq' hp',VC hq' hp'],h.lk' hp hq sp sq (h.m.link hp hq hne xp xq) fun r hr=>⟨h.sx r hr,fun e=>sp (e ▸ hr),fun e=>sq (e ▸ hr)⟩⟩
theorem Ok.move (h:Ok S X A B) {o n v u} (ho:Ab.get A o=some v) (xo:¬X o) (hn:Ab.get A n=some u) (xn:X n) (sn:¬S n.agent):
  (∀b r,AW ⟨⟨A⟩,b,r⟩ o n=some ⟨⟨mv A o n⟩,b,r⟩)∧Bz ⟨B⟩ o n=some ⟨mv B o n⟩∧Ok S (fun r=>(X r∨r=o)∧r≠n) (mv A o n) (mv B o n)∧(mv A o n).length =A.length∧(mv A o n).map sh=A.map sh:=by
 obtain⟨k1,k2,k3⟩:=h.m o v ho xo
 have so:=h.live xo
 have sv:=h.live k1
 have hm:=h.m.move ho xo hn xn
 have ho':=(h.get so).trans ho
 have hv':=(h.get sv).trans k3
 have hn':=(h.get sn).trans hn
 refine⟨fun b r=>VD ho k3 hn,hH ho' hv' hn',?_,?_,?_⟩
 ·have e1:mv A o n=lk A n v:=by unfold mv; rw [ho]
  have e2:mv B o n=lk B n v:=by unfold mv; rw [ho']
  rw [e1] at hm ⊢
  rw [e2]
  exact h.lk' hn k3 sn sv hm fun r hr=>⟨.inl (h.sx r hr),fun e=>sn (e ▸ hr)⟩
 ·grind [mv,OT]
 grind [mv,W8]
theorem Ok.join (h:Ok S X A B) {p q a b} (hp:Ab.get A p=some a) (hq:Ab.get A q=some b) (xp:¬X p) (xq:¬X q) (hne:p≠q):
  (∀bk r,CK ⟨⟨A⟩,bk,r⟩ p q=some ⟨⟨jn A p q⟩,bk,r⟩)∧F4 ⟨B⟩ p q=some ⟨jn B p q⟩∧Ok S (fun r=>X r∨r=p∨r=q) (jn A p q) (jn B p q)∧(jn A p q).length =A.length∧(jn A p q).map sh=A.map sh:=by
 obtain⟨k1,k2,k3⟩:=h.m p a hp xp
 obtain⟨m1,m2,m3⟩:=h.m q b hq xq
 have sp:=h.live xp
 have sq:=h.live xq
 have sa:=h.live k1
 have sb:=h.live m1
 have hm:=h.m.join hp hq xp xq hne
 have hp':=(h.get sp).trans hp
 have hq':=(h.get sq).trans hq
 refine⟨fun bk r=>eK hp hq k3 m3,hJ hp' hq' ((h.get sa).trans k3) ((h.get sb).trans m3),?_,?_,?_⟩
 ·have e1:jn A p q=if a=q then A else lk A a b:=by unfold jn; rw [hp,hq]
  have e2:jn B p q=if a=q then B else lk B a b:=by unfold jn; rw [hp',hq']
  rw [e1] at hm ⊢
  rw [e2]
  by_cases e:a=q
  ·rw [if_pos e] at hm ⊢
   rw [if_pos e]
   exact⟨h.len,h.ag,h.hl,hm,fun r hr=>.inl (h.sx r hr)⟩
  ·rw [if_neg e] at hm ⊢
   rw [if_neg e]
   exact h.lk' k3 m3 sa sb hm fun r hr=>.inl (h.sx r hr)
 ·grind [jn,OT]
 grind [jn,W8]
theorem PM {α:Type} {l:List α} {x:α} {k:Int}:at? (l++[x]) k=if k=(l.length:Int) then some x else at? l k:=by
 grind [at?]
theorem Ky {l:List Agent} {x:Agent} {p:Port}:Ab.get (l++[x]) p=if p.agent=(l.length:Int) then at? x.ports p.slot else Ab.get l p:=by
 unfold Ab.get GJ
 rw [PM]
 split <;> rfl
def newA (k lv v:Int) (d:List Int) (n:Nat):Agent:=⟨k,lv,v,d,List.replicate n ⟨0,0⟩⟩
theorem Ok.add (h:Ok S X A B) (a:Agent):Ok S (fun p=>X p∨p.agent=(A.length:Int)) (A++[a]) (B++[a]):=by
 refine⟨by rw [List.length_append,List.length_append,h.len],fun k hk=>by rw [PM,PM,h.len,h.ag k hk],fun k hk=>?_,fun p q hp hx=>?_,fun p hp=>.inl (h.sx p hp)⟩
 ·have:=h.s_lt hk
  rw [PM,if_neg (by rw [← h.len]; omega)]; exact h.hl k hk
 ·have h1:p.agent≠(A.length:Int):=fun e=>hx (.inr e)
  rw [Ky,if_neg h1] at hp
  obtain⟨k1,k2,k3⟩:=h.m p q hp fun e=>hx (.inl e)
  obtain⟨b,hb,-⟩:=AZ.1 k3
  have:=Bk hb
  grind [Ky]
theorem eN (d:List Int) (hd:d.length≤Big):Kg d=some d:=by
 grind [Kg,CQ]
theorem US (d:List Int) (hd:d.length≤Big):Do d=some d:=by
 grind [Do,CQ]
theorem UT (d:List Port) (hd:d.length≤Big):Cs d=some d:=by
 grind [Cs,CQ]
theorem Zc (l:List Agent) (b:List Net) (r:List (Int × Bool)) (k lv v:Int) (d:List Int) (n:Nat) (hl:l.length+1≤Big) (hd:d.length≤Big) (hn:n≤Big):Ak ⟨⟨l⟩,b,r⟩ k lv v d (n:Int)=some ((l.length:Int),⟨⟨l++[newA k lv v d n]⟩,b,r⟩):=by
 unfold Ak newA
 grind [US,P9,CQ,w64]
theorem bE (net:Net) (k lv v:Int) (d:List Int) (hl:net.agents.length+1≤Big):∀ (n m:Nat) (acc:List Port),acc.length+n≤Big→n<m→El m net k lv v d acc (n:Int)=some ((net.agents.length:Int),⟨net.agents++[⟨k,lv,v,d,acc++List.replicate n ⟨0,0⟩⟩]⟩):=by
 intro n
 induction n with
 |zero=>
  intro m acc ha hm
  obtain⟨m,rfl⟩:∃k,m=k+1:=⟨m - 1,by omega⟩
  rw [El,if_neg (by simp),CQ (by omega),AA,List.length_append,List.length_singleton,w64 (by omega) (by grind)]
  simp
 |succ n ih=>
  intro m acc ha hm
  obtain⟨m,rfl⟩:∃k,m=k+1:=⟨m - 1,by omega⟩
  rw [El,if_pos (by simp),CQ (by grind),AA,w64 (by omega) (by grind),show (((n+1:Nat):Int) - 1)=(n:Int) from by omega,ih m _ (by grind) (by omega),List.append_assoc,List.replicate_succ]
  rfl
theorem hZ (l:List Agent) (k lv v:Int) (d:List Int) (n:Nat) (hl:l.length+1≤Big) (hd:d.length≤Big) (hn:n≤Big):Cp ⟨l⟩ k lv v d (n:Int)=some ((l.length:Int),⟨l++[newA k lv v d n]⟩):=by
 grind [Cp,newA,eN,bE,BG]
theorem QE {l} {k s} {x} (h:at? (l.map sh) k=some x) (h0:0≤s) (hs:s<(x.2.2.2.2 :Int)):∃u,Ab.get l ⟨k,s⟩=some u:=by
 obtain⟨h1,h2⟩:=BW h
 rw [List.getElem?_map] at h2
 cases ha:l[k.toNat]? with
 |none=>rw [ha] at h2; cases h2
 |some a=>
  rw [ha] at h2
  simp only [Option.map_some,Option.some.injEq] at h2
  subst h2
  obtain⟨u,hu,-⟩:=FF (l:=a.ports) (i:=s) ⟨h0,hs⟩
  grind [AZ,at?]
theorem Fy {l} {k} {a} (h:at? l k=some a):at? (l.map sh) k=some (sh a):=by
 grind [at?]
theorem SY {l} {k} {x} (h:at? (l.map sh) k=some x):∃a,at? l k=some a∧sh a=x:=by
 grind [at?]
end
def SZ (k:Int):Bool:=decide (1≤k∧k≤12)&& !(decide (k=1)||decide (k=5)||decide (k=6))
theorem Zd (k:Int):Ex k=some (SZ k):=by
 rcases kind_cases k with h|h|h|h|h|h|h|h|h|h|h|h|h
 all_goals first|(subst h; simp [Ex,JC,SZ,AA]; done)|skip
 have h2:¬ (1≤k∧k≤12):=by omega
 grind [Ex,JC,SZ]
theorem Ze (k:Int):EL k=some (SZ k):=by
 rcases kind_cases k with h|h|h|h|h|h|h|h|h|h|h|h|h
 all_goals first|(subst h; simp [EL,BE,SZ]; done)|skip
 grind [QA,EL,BE,SZ]
def eO (b k l:Int):Bool:=decide (0≤b∧b≤8)&&levB k l&&(decide (k=6)||decide (k=12)||(SZ k&&decide (b<l)))
theorem iA (b k l:Int):HB b k l=some (eO b k l):=by
 have hl:Hl b=some (decide (0≤b∧b≤8)):=by
  unfold Hl
  by_cases h:0≤b <;> simp [h]
 unfold HB eO
 rw [hl,AA,J5,AA]
 grind [FI,Zd]
theorem iB (b k l:Int):HG b k l=some (eO b k l):=by
 unfold HG eO
 rw [Fw,AA,NM,AA]
 grind [FK,FJ,Ze]
def XA (k:Int):Bool:=decide (k=3)||decide (k=7)||decide (k=8)||decide (k=10)||decide (k=11)
theorem eP (k:Int):HC k=some (XA k):=by
 unfold HC XA
 by_cases h3:k=3 <;> by_cases h7:k=7 <;> by_cases h8:k=8 <;> by_cases h10:k=10 <;> simp [h3,h7,h8,h10]
theorem eQ (k:Int):HH k=some (XA k):=by
 unfold HH Ci XA
 by_cases h3:k=3 <;> by_cases h7:k=7 <;> by_cases h8:k=8 <;> by_cases h10:k=10 <;> by_cases h11:k=11 <;> simp [h3,h7,h8,h10,h11]
def ru (k1 l1 k2 l2:Int):Int:=
 if k1=5 then 4 else if k1=4 then (if k2=4∧l1=l2 then 2 else if eO l1 k2 l2=true then 3 else 0)
 else if k1=2 then (if k2=3∧l1=l2 then 1 else 0) else if k1=6 then (if k2=7∨k2=8 then 5 else if k2=11 then 6 else 0)
 else if k1=9 then (if k2=10 then 6 else 0) else if k1=12 then (if XA k2=true then 7 else 0) else 0
theorem eR (k1 l1 k2 l2:Int):I4 k1 l1 k2 l2=some (ru k1 l1 k2 l2):=by
 grind [I4,ru,HD,iA,HE,HF,eP]
theorem VE (k1 l1 k2 l2:Int):Gw k1 l1 k2 l2=some (ru k1 l1 k2 l2):=by
 grind [Gw,ru,HI,iB,HJ,HK,eQ]
def pcl (a b:Agent):Int:=if ru a.kind a.level b.kind b.level≠0 then ru a.kind a.level b.kind b.level else if ru b.kind b.level a.kind a.level≠0 then ru b.kind b.level a.kind a.level else 8
def pfi (a b:Agent):Int:=if ru a.kind a.level b.kind b.level≠0 then 1 else if ru b.kind b.level a.kind a.level≠0 then 2 else 0
structure Two (a b:Agent):Prop where
 la:levB a.kind a.level=true
 lb:levB b.kind b.level=true
 ra:a.kind≠1
 rb:b.kind≠1
theorem Yf {a b} (h:Two a b):MX a.kind a.level b.kind b.level=some (pcl a b,pfi a b):=by
 unfold MX Fe pcl pfi
 rw [J5,AA,J5,AA,eR,AA,eR,AA,h.la,h.lb]
 simp only [h.ra,h.rb,decide_false,Bool.false_eq_true,if_false,Bool.not_true]
 by_cases h1:ru a.kind a.level b.kind b.level=0 <;> by_cases h2:ru b.kind b.level a.kind a.level=0 <;> simp [h1,h2]
theorem XB {a b} (h:Two a b):I6 a.kind a.level b.kind b.level=some true:=by
 unfold I6
 rw [NM,AA,NM,AA,h.la,h.lb]
 simp [h.ra,h.rb]
theorem bF {a b} (h:Two a b):IG a.kind a.level b.kind b.level=some (pcl a b):=by
 unfold IG Fh pcl
 rw [XB h,AA,VE,AA,VE,AA]
 by_cases h1:ru a.kind a.level b.kind b.level=0 <;> by_cases h2:ru b.kind b.level a.kind a.level=0 <;> simp [h1,h2]
theorem UU {a b} (h:Two a b):GS a.kind a.level b.kind b.level=some (pfi a b):=by
 unfold GS pfi
 rw [XB h,AA,VE,AA,VE,AA]
 by_cases h1:ru a.kind a.level b.kind b.level=0 <;> by_cases h2:ru b.kind b.level a.kind a.level=0 <;> simp [h1,h2]
def Db (x y:Agent):Bool:=decide (x.kind=9)&&decide (y.kind=10)&&decide ((y.data.length:Int)≤x.value)
def kcl (a b:Agent):Int:=if Db a b=true∨Db b a=true then 8 else pcl a b
theorem J7 {a b} (h:Two a b):Fi a b=some (kcl a b):=by
 grind [Fi,FR,FQ,kcl,Db,bF]
theorem Two.symm {a b} (h:Two a b):Two b a:=⟨h.lb,h.la,h.rb,h.ra⟩
theorem Qn {l} {i j} {a b} (ha:at? l i=some a) (hb:at? l j=some b) (h:Two a b):∃sw,GR ⟨l⟩ ⟨i,j⟩=some (kcl a b,sw)∧(kcl a b≠8→sw=decide (pfi a b=2)):=by
 have key:∀ (x y:Agent) (f:Int),(Db x y=true∨Db y x=true↔(pcl a b=6∧y.kind=10∧(y.data.length:Int)≤x.value))→(Db x y=true∨Db y x=true↔Db a b=true∨Db b a=true)→
   ∃sw,Dm (pcl a b,f) x.kind x.level x.value x.data x.ports y.kind y.level y.value y.data y.ports=some (kcl a b,sw)∧(kcl a b≠8→sw=decide (f=2)):=by
  intro x y f h1 h2
  unfold Dm Dl kcl
  by_cases hn:Db a b=true∨Db b a=true
  ·simp_all
  ·have hn1:=fun h=>hn (h2.1 (h1.2 h))
   rw [if_neg hn]
   refine⟨decide (f=2),?_,fun _=>rfl⟩
   grind
 unfold GR
 simp only
 rw [ha,AA,hb,AA,Yf h,AA]
 have hab:Db a b=true→ru a.kind a.level b.kind b.level=6∧b.kind=10:=fun hn=>by
  grind [Db,ru]
 have hba:Db b a=true→ru b.kind b.level a.kind a.level=6∧ru a.kind a.level b.kind b.level=0∧a.kind=10:=fun hn=>by
  simp_all [Db,ru]
 by_cases hf:pfi a b=2
 ·have hr:ru a.kind a.level b.kind b.level=0∧ru b.kind b.level a.kind a.level≠0:=by
   unfold pfi at hf
   by_cases h1:ru a.kind a.level b.kind b.level=0 <;> by_cases h2:ru b.kind b.level a.kind a.level=0 <;> simp_all
  have hp:pcl a b=ru b.kind b.level a.kind a.level:=by simp [pcl,hr]
  simp only [hf,decide_true,if_true]
  have:=key b a 2 ?_ (by rw [or_comm])
  ·grind
  grind [Db,ru]
 ·simp only [hf,decide_false,Bool.false_eq_true,if_false]
  have:=key a b (pfi a b) ?_ Iff.rfl
  ·grind
  ·constructor
   ·grind [Db,pcl,pfi]
   grind [ru,pcl,pfi,Db]
def grow (c n:Int):Int:=if c=1∨c=2 then (if n=0 then -2 else 0) else if c=3 then (if 0≤n∧n≤3 then n else 0) else if c=4 then (if 0≤n∧n≤3 then n - 2 else 0)
 else if c=5 then (if n=0 then -1 else 0) else if c=6 then (if 0≤n∧n≤3 then n - 1 else 0) else if c=7 then (if 2≤n∧n≤600 then n - 2 else 0) else 0
theorem Yg (c n:Int):∃e,MZ c n=some (grow c n,e):=by
 have j2:∀lo hi plus:Int,-10≤plus→plus≤10→0≤lo→hi≤1000→∃e,De n lo hi plus=some (if lo≤n∧n≤hi then n+plus else 0,e):=by
  intro lo hi plus h1 h2 h3 h4
  unfold De IE
  by_cases h5:n<lo
  ·exact⟨2,by grind⟩
  ·by_cases h6:hi<n
   ·exact⟨2,by grind⟩
   ·refine⟨0,?_⟩
    simp only [h5,h6,decide_false,Bool.false_eq_true,if_false]
    rw [if_pos ⟨by omega,by omega⟩,w64 (by omega) (by omega)]
 unfold MZ IF grow
 by_cases c1:c=1
 ·obtain⟨e,h⟩:=j2 0 0 (-2) (by omega) (by omega) (by omega) (by omega)
  grind
 by_cases c2:c=2
 ·obtain⟨e,h⟩:=j2 0 0 (-2) (by omega) (by omega) (by omega) (by omega)
  grind
 by_cases c3:c=3
 ·obtain⟨e,h⟩:=j2 0 3 0 (by omega) (by omega) (by omega) (by omega)
  grind
 by_cases c4:c=4
 ·simp_all [Int.sub_eq_add_neg]
 by_cases c5:c=5
 ·obtain⟨e,h⟩:=j2 0 0 (-1) (by omega) (by omega) (by omega) (by omega)
  grind
 by_cases c6:c=6
 ·simp_all [Int.sub_eq_add_neg]
 by_cases c7:c=7
 ·simp_all [Int.sub_eq_add_neg]
 simp_all
theorem Yh (c n:Int) (h0: -1000000000000≤n∧n≤1000000000000):∃e,Mb c n=some (grow c n,e):=by
 have j2:∀lo hi v:Int,∃e,Df n lo hi v=some (if lo≤n∧n≤hi then v else 0,e):=by
  intro lo hi v
  unfold Df
  rw [Fw,AA]
  by_cases h5:lo≤n∧n≤hi
  ·simp_all
  ·exact⟨2,by grind⟩
 have w1:IntKind.i64.wrap (n - 1)=n - 1:=w64 (by omega) (by omega)
 have w2:IntKind.i64.wrap (n - 2)=n - 2:=w64 (by omega) (by omega)
 unfold Mb II grow
 by_cases c1:c=1
 ·obtain⟨e,h⟩:=j2 0 0 (-2)
  grind
 by_cases c2:c=2
 ·obtain⟨e,h⟩:=j2 0 0 (-2)
  grind
 by_cases c3:c=3
 ·simp_all
 by_cases c4:c=4
 ·simp_all
 by_cases c5:c=5
 ·obtain⟨e,h⟩:=j2 0 0 (-1)
  grind
 by_cases c6:c=6
 ·simp_all
 by_cases c7:c=7
 ·simp_all
 simp_all
abbrev Sh:=Int × Int × Int × List Int × Nat
theorem M.mono' {l} {X Y} (h:M l X) (hxy:∀p q,get l p=some q→(X p↔Y p)):M l Y:=fun p q hp hy=>by
 obtain⟨h1,h2,h3⟩:=h p q hp fun hx=>hy ((hxy p q hp).1 hx)
 grind
theorem Bx {l} {p q} {x} (h:get l p=some q) (hx:at? (l.map sh) p.agent=some x):0≤p.slot∧p.slot<(x.2.2.2.2 :Int):=by
 obtain⟨a,h1,h2⟩:=AZ.1 h
 rw [Fy h1] at hx
 cases hx
 exact Bk h2
theorem Dy {l} {p q} (h:get l p=some q):0≤p.agent∧p.agent<(l.length:Int):=by
 obtain⟨a,h1,-⟩:=AZ.1 h
 exact Bk h1
theorem LY {l:List Agent} {l':List Sh} (h:l.map sh=l'):l.length=l'.length:=by rw [← h,List.length_map]
section
variable {S:Int→Prop} {X:Port→Prop} {A B:List Agent}
theorem Ok.mono' {Y} (h:Ok S X A B) (hxy:∀p q,Ab.get A p=some q→(X p↔Y p)) (hs:∀p,S p.agent→Y p):Ok S Y A B:=⟨h.len,h.ag,h.hl,h.m.mono' hxy,hs⟩
def Fr (A A':List Agent) (X:Port→Prop):Prop:=∀p q,Ab.get A p=some q→Ab.get A q=some p→¬X p→¬X q→Ab.get A' p=some q
theorem ij {p q a b r s} (hm:M A X) (hp:Ab.get A p=some a) (hq:Ab.get A q=some b) (xp:¬X p) (xq:¬X q) (hr:Ab.get A r=some s) (h1:s≠p) (h2:s≠q):Ab.get (jn A p q) r=some s:=by
 obtain⟨-,-,k3⟩:=hm p a hp xp
 obtain⟨-,-,m3⟩:=hm q b hq xq
 unfold jn
 rw [hp,hq]
 simp only
 split
 ·exact hr
 ·rw [J6 k3 m3 (fun e=>by rw [e,k3] at hr; grind) (fun e=>by rw [e,m3] at hr; grind)]
  exact hr
structure Pr (S:Int→Prop) (A:List Agent) (x y:Int) (a b:Agent):Prop where
 hx:at? A x=some a
 hy:at? A y=some b
 w:Ab.get A ⟨x,0⟩=some ⟨y,0⟩
 sx:¬S x
 sy:¬S y
structure Done (S:Int→Prop) (A:List Agent) (x y:Int) (new:List Sh) (A' B':List Agent):Prop where
 ok:Ok S (fun p=>S p.agent∨p.agent=x∨p.agent=y) A' B'
 shp:A'.map sh=A.map sh++new
 fr:Fr A A' fun p=>S p.agent∨p.agent=x∨p.agent=y
theorem Ok.start (h:Ok S (fun p=>S p.agent) A B) {x y} {a b} (hp:Pr S A x y a b):Ok S (fun p=>S p.agent∨p=⟨x,0⟩∨p=⟨y,0⟩) A B∧x≠y:=by
 refine⟨⟨h.len,h.ag,h.hl,h.m.drop hp.w hp.sx,fun p hs=>.inl hs⟩,fun e=>?_⟩
 obtain⟨-,h2,-⟩:=h.m _ _ hp.w hp.sx
 grind
theorem iC (h:Ok S (fun p=>S p.agent) A B) {x y} {a b} (hp:Pr S A x y a b) (ha:a.ports.length=3) (hb:b.ports.length=3):
  ∃A1 A2 B1 B2,(∀bk r,CK ⟨⟨A⟩,bk,r⟩ ⟨x,1⟩ ⟨y,1⟩=some ⟨⟨A1⟩,bk,r⟩)∧(∀bk r,CK ⟨⟨A1⟩,bk,r⟩ ⟨x,2⟩ ⟨y,2⟩=some ⟨⟨A2⟩,bk,r⟩)∧
   F4 ⟨B⟩ ⟨x,1⟩ ⟨y,1⟩=some ⟨B1⟩∧F4 ⟨B1⟩ ⟨x,2⟩ ⟨y,2⟩=some ⟨B2⟩∧Done S A x y [] A2 B2:=by
 obtain⟨h0,hne⟩:=h.start hp
 have hsx:=Fy hp.hx
 have hsy:=Fy hp.hy
 obtain⟨u1,g1⟩:=QE hsx (s:=1) (by omega) (by grind [sh])
 obtain⟨v1,g2⟩:=QE hsy (s:=1) (by omega) (by grind [sh])
 have nx:∀s:Int,s≠0→¬ (S x∨(⟨x,s⟩:Port)=⟨x,0⟩∨(⟨x,s⟩:Port)=⟨y,0⟩):=fun s hs h=>by
  rcases h with h|h|h
  ·exact hp.sx h
  ·rw [A5] at h; grind
  grind
 have ny:∀s:Int,s≠0→¬ (S y∨(⟨y,s⟩:Port)=⟨x,0⟩∨(⟨y,s⟩:Port)=⟨y,0⟩):=fun s hs h=>by
  rcases h with h|h|h
  ·exact hp.sy h
  ·rw [A5] at h; grind
  grind
 have pxy:∀s t:Int,(⟨x,s⟩:Port)≠⟨y,t⟩:=fun s t h=>by rw [A5] at h; grind
 obtain⟨e1,e2,k1,-,k2⟩:=h0.join g1 g2 (nx 1 (by omega)) (ny 1 (by omega)) (pxy 1 1)
 obtain⟨u2,g3⟩:=QE (l:=jn A ⟨x,1⟩ ⟨y,1⟩) (k:=x) (s:=2) (by rw [k2]; exact hsx) (by omega) (by grind [sh])
 obtain⟨v2,g4⟩:=QE (l:=jn A ⟨x,1⟩ ⟨y,1⟩) (k:=y) (s:=2) (by rw [k2]; exact hsy) (by omega) (by grind [sh])
 have nn:∀z:Int,((z=x∧¬S x)∨(z=y∧¬S y))→¬ ((S z∨(⟨z,2⟩:Port)=⟨x,0⟩∨(⟨z,2⟩:Port)=⟨y,0⟩)∨(⟨z,2⟩:Port)=⟨x,1⟩∨(⟨z,2⟩:Port)=⟨y,1⟩):=fun z hz h=>by
  grind
 obtain⟨e3,e4,k3,-,k4⟩:=k1.join g3 g4 (nn x (.inl ⟨rfl,hp.sx⟩)) (nn y (.inr ⟨rfl,hp.sy⟩)) (pxy 2 2)
 refine⟨_,_,_,_,e1,e3,e2,e4,k3.mono' (fun p q hq=>?_) fun p hs=>.inl hs,by rw [k4,k2,List.append_nil],fun p q hp1 hp2 n1 n2=>?_⟩
 rotate_left
 ·have nq:∀z s:Int,(z=x∨z=y)→q≠⟨z,s⟩:=fun z s hz e=>n2 (by
   rw [A5] at e
   omega)
  exact ij k1.m g3 g4 (nn x (.inl ⟨rfl,hp.sx⟩)) (nn y (.inr ⟨rfl,hp.sy⟩)) (ij h0.m g1 g2 (nx 1 (by omega)) (ny 1 (by omega)) hp1 (nq x 1 (.inl rfl)) (nq y 1 (.inr rfl))) (nq x 2 (.inl rfl)) (nq y 2 (.inr rfl))
 simp only [A5]
 have hs:p.agent=x∨p.agent=y→0≤p.slot∧p.slot<3:=fun e=>by
  rcases e with e|e
  ·have:=Bx hq (by rw [k4,k2,e]; exact hsx); grind [sh]
  ·have:=Bx hq (by rw [k4,k2,e]; exact hsy); grind [sh]
 grind
structure Way1 (S:Int→Prop) (A:List Agent) (new:List Sh) (X:Port→Prop) (A' B':List Agent):Prop where
 ok:Ok S X A' B'
 shp:A'.map sh=A.map sh++new
 fr:Fr A A' X
theorem Way1.len {new:List Sh} {A' B':List Agent} (h:Way1 S A new X A' B'):A'.length=A.length+new.length:=by
 rw [LY h.shp,List.length_append,List.length_map]
theorem DW {α:Type} {l m:List α} {k:Int} {x:α} (h:at? l k=some x):at? (l++m) k=some x:=by
 grind [at?]
theorem HV {α:Type} {l m:List α} {k:Nat} {x:α} (h:m[k]? =some x):at? (l++m) ((l.length+k:Nat):Int)=some x:=by
 grind [at?]
theorem Way1.old {new:List Sh} {A' B':List Agent} (h:Way1 S A new X A' B') {k:Int} {a:Agent} (ha:at? A k=some a) {s:Int} (h0:0≤s) (hs:s<(a.ports.length:Int)):∃u,Ab.get A' ⟨k,s⟩=some u:=
 QE (x:=sh a) (by rw [h.shp]; exact DW (Fy ha)) h0 hs
theorem Way1.new {new:List Sh} {A' B':List Agent} (h:Way1 S A new X A' B') {k:Nat} {x:Sh} (ha:new[k]? =some x) {s:Int} (h0:0≤s) (hs:s<(x.2.2.2.2 :Int)):∃u,Ab.get A' ⟨((A.length+k:Nat):Int),s⟩=some u:=
 QE (x:=x) (by rw [h.shp]; have:=HV (l:=A.map sh) ha; rwa [List.length_map] at this) h0 hs
theorem Way1.ex {new} {A' B'} (h:Way1 S A new X A' B') {p q} (hp:Ab.get A p=some q):∃u,Ab.get A' p=some u:=by
 obtain⟨a,h1,h2⟩:=AZ.1 hp
 have:=Bk h2
 obtain⟨u,hu⟩:=h.old h1 (s:=p.slot) this.1 this.2
 simp_all
theorem Way1.move {new} {A' B'} (h:Way1 S A new X A' B') {o n u u'} (ho:Ab.get A' o=some u) (hn:Ab.get A' n=some u') (xo:¬X o) (xn:X n) (sn:¬S n.agent) {Y} (hY:∀p q,Ab.get A' p=some q→((X p∨p=o)∧p≠n↔Y p)) (hs:∀p,S p.agent→Y p) (nn:(A.length:Int)≤n.agent:=by first|omega|(simp only; omega)):
  ∃A2 B2,(∀bk r,AW ⟨⟨A'⟩,bk,r⟩ o n=some ⟨⟨A2⟩,bk,r⟩)∧Bz ⟨B'⟩ o n=some ⟨B2⟩∧Way1 S A new Y A2 B2:=by
 obtain⟨e1,e2,k1,k2,k3⟩:=h.ok.move ho xo hn xn sn
 have ex:∀p q,Ab.get (mv A' o n) p=some q→∃q',Ab.get A' p=some q':=fun p q hq=>by
  obtain⟨a,h1,h2⟩:=AZ.1 hq
  obtain⟨a',h3,h4⟩:=SY (k3 ▸ Fy h1)
  have h5:a'.ports.length=a.ports.length:=by grind [sh]
  have h6:=Bk h2
  obtain⟨q',h7,-⟩:=FF (l:=a'.ports) (i:=p.slot) (by rw [h5]; exact h6)
  grind [AZ]
 refine⟨_,_,e1,e2,k1.mono' (fun p q hq=>?_) hs,k3.trans h.shp,fun p q h1 h2 n1 n2=>?_⟩
 rotate_left
 ·have l1:=Dy h1
  have l2:=Dy h2
  obtain⟨p',hp'⟩:=h.ex h1
  obtain⟨q',hq'⟩:=h.ex h2
  have pn:p≠n:=fun e=>by rw [e] at l1; omega
  have qn:q≠n:=fun e=>by rw [e] at l2; omega
  have c1:¬ (X p∨p=o):=fun e=>n1 ((hY p p' hp').1 ⟨e,pn⟩)
  have c2:¬ (X q∨q=o):=fun e=>n2 ((hY q q' hq').1 ⟨e,qn⟩)
  have g:=h.fr p q h1 h2 (fun e=>c1 (.inl e)) fun e=>c2 (.inl e)
  obtain⟨-,-,m3⟩:=h.ok.m o u ho xo
  grind [mv,J6]
 grind
theorem Way1.add {new} {A' B'} (h:Way1 S A new X A' B') (k lv v:Int) (d:List Int) (n:Nat) (hl:A'.length+1≤Big) (hd:d.length≤Big) (hn:n≤Big):
  (∀bk r,Ak ⟨⟨A'⟩,bk,r⟩ k lv v d (n:Int)=some (((A.length+new.length:Nat):Int),⟨⟨A'++[newA k lv v d n]⟩,bk,r⟩))∧Cp ⟨B'⟩ k lv v d (n:Int)=some (((A.length+new.length:Nat):Int),⟨B'++[newA k lv v d n]⟩)∧
   Way1 S A (new++[(k,lv,v,d,n)]) (fun p=>X p∨p.agent=((A.length+new.length:Nat):Int)) (A'++[newA k lv v d n]) (B'++[newA k lv v d n]):=by
 have e:=h.len
 have e':=h.ok.len
 refine⟨fun bk r=>by rw [Zc A' bk r k lv v d n hl hd hn,e],by rw [hZ B' k lv v d n (by omega) hd hn,← e',e],?_,?_,fun p q h1 h2 n1 n2=>?_⟩
 ·have:=h.ok.add (newA k lv v d n)
  rw [e] at this; omega
 ·rw [List.map_append,h.shp,List.append_assoc]
  simp [sh,newA]
 ·have g:=h.fr p q h1 h2 (fun e=>n1 (.inl e)) fun e=>n2 (.inl e)
  grind [Ky]
theorem Way1.link {new} {A' B'} (h:Way1 S A new X A' B') {p q u v} (hp:Ab.get A' p=some u) (hq:Ab.get A' q=some v) (hne:p≠q) (xp:X p) (xq:X q) (sp:¬S p.agent) (sq:¬S q.agent) (np:(A.length:Int)≤p.agent:=by first|omega|(simp only; omega)) (nq:(A.length:Int)≤q.agent:=by first|omega|(simp only; omega)):
  ∃A2 B2,Ca ⟨A'⟩ p q=some ⟨A2⟩∧Ca ⟨A'⟩ q p=some ⟨A2⟩∧s_l11Link ⟨B'⟩ p q=some ⟨B2⟩∧s_l11Link ⟨B'⟩ q p=some ⟨B2⟩∧Way1 S A new (fun r=>X r∧r≠p∧r≠q) A2 B2:=by
 obtain⟨e1,e2,e3,e4,k⟩:=h.ok.link hp hq hne xp xq sp sq
 refine⟨_,_,e1,e2,e3,e4,k,by rw [W8]; exact h.shp,fun r s h1 h2 n1 n2=>?_⟩
 have l1:=Dy h1
 have l2:=Dy h2
 have rp:r≠p:=fun e=>by rw [e] at l1; omega
 have rq:r≠q:=fun e=>by rw [e] at l1; omega
 have sp':s≠p:=fun e=>by rw [e] at l2; omega
 have sq':s≠q:=fun e=>by rw [e] at l2; omega
 rw [J6 hp hq rp rq]
 exact h.fr r s h1 h2 (fun e=>n1 ⟨e,rp,rq⟩) fun e=>n2 ⟨e,sp',sq'⟩
theorem Way1.mono {new} {A' B'} (h:Way1 S A new X A' B') {Y} (hY:∀p q,Ab.get A' p=some q→(X p↔Y p)) (hs:∀p,S p.agent→Y p):Way1 S A new Y A' B':=⟨h.ok.mono' hY hs,h.shp,fun p q h1 h2 n1 n2=>by
 obtain⟨p',hp'⟩:=h.ex h1
 obtain⟨q',hq'⟩:=h.ex h2
 exact h.fr p q h1 h2 (fun e=>n1 ((hY p p' hp').1 e)) fun e=>n2 ((hY q q' hq').1 e)⟩
theorem Way1.done {new} {A' B'} (h:Way1 S A new X A' B') {x y} (hY:∀p q,Ab.get A' p=some q→(X p↔S p.agent∨p.agent=x∨p.agent=y)):Done S A x y new A' B':=
 have w:=h.mono hY fun p hs=>.inl hs
 ⟨w.ok,w.shp,w.fr⟩
theorem Fr.refl:Fr A A X:=fun p q h _ _ _=>h
end
section
variable {S:Int→Prop} {A B:List Agent}
theorem Cq (a s:Int):Ae a s=some ⟨a,s⟩:=rfl
def Jh:Sh:=(5,0,0,[],1)
theorem Yi {x y} {a b} (hp:Pr S A x y a b) (hne:x≠y) (ha:a.ports.length=1) (hbb:b.ports.length≤100) (hA:A.length≤8000000) (a0:Rewriter) (v:Int × Int × Int × Int) (hv:v.2.2.1 =y) (r:List (Int × Bool)) (z:Int × Int) (hz:z.2 =y) (c:Int):
  ∀ (k i m:Nat) (A1 B1:List Agent),i+k=b.ports.length→1≤i→k<m→Way1 S A (List.replicate (i - 1) Jh) (fun p=>S p.agent∨p.agent=x∨(p.agent=y∧p.slot<(i:Int))) A1 B1→
   ∃A2 B2 m',Ao m a0 v r A1 (i:Int)=Ao (m'+1) a0 v r A2 (b.ports.length:Int)∧EM m z c b B1 (i:Int)=EM (m'+1) z c b B2 (b.ports.length:Int)∧
    Way1 S A (List.replicate (b.ports.length - 1) Jh) (fun p=>S p.agent∨p.agent=x∨(p.agent=y∧p.slot<(b.ports.length:Int))) A2 B2:=by
 intro k
 induction k with
 |zero=>
  intro i m A1 B1 h h1 hm hw
  obtain⟨m,rfl⟩:∃q,m=q+1:=⟨m - 1,by omega⟩
  have:i=b.ports.length:=by omega
  subst this
  grind
 | succ k ih=>
  intro i m A1 B1 h h1 hm hw
  obtain⟨m,rfl⟩:∃q,m=q+1:=⟨m - 1,by omega⟩
  have hlen:=hw.len
  rw [List.length_replicate] at hlen
  obtain⟨e1,e2,w1⟩:=hw.add 5 0 0 [] 1 (by grind) (by simp) (by grind)
  rw [List.length_replicate] at e1 e2 w1
  have hsy:at? (A1.map sh) y=some (sh b):=by rw [hw.shp]; exact DW (Fy hp.hy)
  obtain⟨b',hb',hbs⟩:=SY hsy
  have hbl:b'.ports.length=b.ports.length:=by grind [sh]
  have hyl:=Bk hp.hy
  have hxl:=Bk hp.hx
  obtain⟨u,g1⟩:=w1.old hp.hy (s:=(i:Int)) (by omega) (by omega)
  obtain⟨u',g2⟩:=w1.new (k:=i - 1) (x:=Jh) (s:=0) (by
   rw [List.getElem?_append_right (by simp),List.length_replicate,Nat.sub_self]; rfl) (by omega) (by simp [Jh])
  obtain⟨A2,B2,e3,e4,w2⟩:=w1.move g1 g2 (fun h=>by
    rcases h with (h|h|h)|h
    ·exact hp.sy h
    ·grind
    ·grind
    grind) (.inr rfl) (fun hs=>by
    have:=hw.ok.s_lt hs
    grind) (Y:=fun p=>S p.agent∨p.agent=x∨(p.agent=y∧p.slot<((i+1:Nat):Int))) (fun p q hq=>by
    have hn:p.agent=((A.length+(i - 1):Nat):Int)→p.slot=0:=fun e=>by
     have:=Bx hq (x:=Jh) (by
      rw [w1.shp,e]
      have:=HV (l:=A.map sh) (m:=List.replicate (i - 1) Jh++[Jh]) (k:=i - 1) (x:=Jh) (by rw [List.getElem?_append_right (by simp),List.length_replicate,Nat.sub_self]; rfl)
      rwa [List.length_map] at this)
     grind [Jh]
    have hsl:p.agent=((A.length+(i - 1):Nat):Int)→¬S p.agent:=fun e hs=>by
     have:=hw.ok.s_lt hs
     omega
    grind [A5]) fun p hs=>.inl hs
  obtain⟨A3,B3,m',k1,k2,k3⟩:=ih (i+1) m A2 B2 (by omega) (by omega) (by omega) (by
   rw [show i+1 - 1=(i - 1)+1 from by omega,List.replicate_succ']; exact w2)
  grind [Ao,w64,EM,Cq]
theorem eS (h:Ok S (fun p=>S p.agent) A B) {x y} {a b} (hp:Pr S A x y a b) (ha:a.ports.length=1) (hb1:1≤b.ports.length) (hbb:b.ports.length≤100) (hA:A.length≤8000000) (a0:Rewriter) (v:Int × Int × Int × Int) (hv:v.2.2.1 =y) (r:List (Int × Bool)) (z:Int × Int) (hz:z.2 =y) (c:Int):
  ∃A2 B2,Ao fuel a0 v r A 1=Ah a0 v r A2∧EM fuel z c b B 1=Cy z c B2∧Done S A x y (List.replicate (b.ports.length - 1) Jh) A2 B2:=by
 obtain⟨h0,hne⟩:=h.start hp
 have w0:Way1 S A (List.replicate (1 - 1) Jh) (fun p=>S p.agent∨p.agent=x∨(p.agent=y∧p.slot<((1:Nat):Int))) A B:=by
  refine⟨h0.mono' (fun p q hq=>?_) fun p hs=>.inl hs,by simp,.refl⟩
  have hs1:p.agent=x→p.slot=0:=fun e=>by
   have:=Bx hq (x:=sh a) (by rw [e]; exact Fy hp.hx)
   grind [sh]
  have hs2:p.agent=y→0≤p.slot:=fun e=>(Bx hq (x:=sh b) (by rw [e]; exact Fy hp.hy)).1
  grind [A5]
 obtain⟨A2,B2,m',k1,k2,k3⟩:=Yi hp hne ha hbb hA a0 v hv r z hz c (b.ports.length - 1) 1 fuel A B (by omega) (Nat.le_refl _) (by rw [BG]; omega) w0
 have hsy:at? (A2.map sh) y=some (sh b):=by rw [k3.shp]; exact DW (Fy hp.hy)
 obtain⟨b',hb',hbs⟩:=SY hsy
 have hbl:b'.ports.length=b.ports.length:=by grind [sh]
 refine⟨A2,B2,?_,?_,k3.done fun p q hq=>?_⟩
 ·rw [Int.natCast_one] at k1
  rw [k1,Ao,hv,hb',AA,hbl,if_neg (by simp)]
 ·rw [Int.natCast_one] at k2
  rw [k2,EM,if_neg (by simp)]
 ·have hs2:p.agent=y→p.slot<(b.ports.length:Int):=fun e=>by
   have:=Bx hq (x:=sh b) (by rw [e]; omega)
   grind [sh]
  grind
theorem Ok.start1 (h:Ok S (fun p=>S p.agent) A B) {x y} {a b} (hp:Pr S A x y a b) (ha:a.ports.length=1):Way1 S A [] (fun p=>S p.agent∨p.agent=x∨p=⟨y,0⟩) A B∧x≠y:=by
 obtain⟨h0,hne⟩:=h.start hp
 refine⟨⟨h0.mono' (fun p q hq=>?_) fun p hs=>.inl hs,by simp,.refl⟩,hne⟩
 have hs1:p.agent=x→p.slot=0:=fun e=>by
  have:=Bx hq (x:=sh a) (by rw [e]; exact Fy hp.hx)
  grind [sh]
 grind [A5]
theorem XC (h:Ok S (fun p=>S p.agent) A B) {x y} {a b} (hp:Pr S A x y a b) (ha:a.ports.length=1) (hb:b.ports.length=2) (hA:A.length≤8000000) (k lv v:Int) (d:List Int) (hd:d.length≤Big):
  ∃A1 A2 B1 B2,(∀bk r,Ak ⟨⟨A⟩,bk,r⟩ k lv v d 1=some ((A.length:Int),⟨⟨A1⟩,bk,r⟩))∧(∀bk r,AW ⟨⟨A1⟩,bk,r⟩ ⟨y,1⟩ ⟨(A.length:Int),0⟩=some ⟨⟨A2⟩,bk,r⟩)∧
   Cp ⟨B⟩ k lv v d 1=some ((A.length:Int),⟨B1⟩)∧Bz ⟨B1⟩ ⟨y,1⟩ ⟨(A.length:Int),0⟩=some ⟨B2⟩∧Done S A x y [(k,lv,v,d,1)] A2 B2:=by
 obtain⟨w0,hne⟩:=h.start1 hp ha
 obtain⟨e1,e2,w1⟩:=w0.add k lv v d 1 (by grind) hd (by grind)
 simp only [List.length_nil,Nat.add_zero,List.nil_append,Int.natCast_one] at e1 e2 w1
 have hyl:=Bk hp.hy
 have hxl:=Bk hp.hx
 obtain⟨u,g1⟩:=w1.old hp.hy (s:=1) (by omega) (by omega)
 obtain⟨u',g2⟩:=w1.new (k:=0) (s:=0) rfl (by omega) (by simp)
 rw [Nat.add_zero] at g2
 obtain⟨A2,B2,e3,e4,w2⟩:=w1.move g1 g2 (fun h=>by
   simp only [A5] at h
   rcases h with (h|h|h)|h
   ·exact hp.sy h
   ·omega
   ·omega
   ·omega) (.inr rfl) (fun hs=>by have:=h.s_lt hs; grind) (Y:=fun p=>S p.agent∨p.agent=x∨p.agent=y) (fun p q hq=>by
   have hn:p.agent=(A.length:Int)→p.slot=0:=fun e=>by
    have:=Bx hq (x:=(k,lv,v,d,1)) (by
     rw [w1.shp,e]
     have:=HV (l:=A.map sh) (m:=[(k,lv,v,d,1)]) (k:=0) rfl
     rwa [List.length_map,Nat.add_zero] at this)
    grind
   have hy2:p.agent=y→p.slot=0∨p.slot=1:=fun e=>by
    have:=Bx hq (x:=sh b) (by rw [w1.shp,e]; exact DW (Fy hp.hy))
    grind [sh]
   have hsl:p.agent=(A.length:Int)→¬S p.agent:=fun e hs=>by have:=h.s_lt hs; omega
   grind [A5]) fun p hs=>.inl hs
 exact⟨_,A2,_,B2,e1,e3,e2,e4,w2.ok,w2.shp,w2.fr⟩
theorem bG (h:Ok S (fun p=>S p.agent) A B) {x y} {a b} (hp:Pr S A x y a b) (ha:a.ports.length=1) (hb:b.ports.length=3) (hA:A.length≤8000000) (k lv v:Int) (d:List Int) (hd:d.length≤Big):
  ∃A1 A2 A3 B1 B2 B3,(∀bk r,Ak ⟨⟨A⟩,bk,r⟩ k lv v d 2=some ((A.length:Int),⟨⟨A1⟩,bk,r⟩))∧(∀bk r,AW ⟨⟨A1⟩,bk,r⟩ ⟨y,1⟩ ⟨(A.length:Int),0⟩=some ⟨⟨A2⟩,bk,r⟩)∧(∀bk r,AW ⟨⟨A2⟩,bk,r⟩ ⟨y,2⟩ ⟨(A.length:Int),1⟩=some ⟨⟨A3⟩,bk,r⟩)∧
   Cp ⟨B⟩ k lv v d 2=some ((A.length:Int),⟨B1⟩)∧Bz ⟨B1⟩ ⟨y,1⟩ ⟨(A.length:Int),0⟩=some ⟨B2⟩∧Bz ⟨B2⟩ ⟨y,2⟩ ⟨(A.length:Int),1⟩=some ⟨B3⟩∧Done S A x y [(k,lv,v,d,2)] A3 B3:=by
 obtain⟨w0,hne⟩:=h.start1 hp ha
 obtain⟨e1,e2,w1⟩:=w0.add k lv v d 2 (by grind) hd (by grind)
 simp only [List.length_nil,Nat.add_zero,List.nil_append] at e1 e2 w1
 have hyl:=Bk hp.hy
 have hxl:=Bk hp.hx
 have hsl:∀p:Port,p.agent=(A.length:Int)→¬S p.agent:=fun p e hs=>by have:=h.s_lt hs; omega
 obtain⟨u,g1⟩:=w1.old hp.hy (s:=1) (by omega) (by omega)
 obtain⟨u',g2⟩:=w1.new (k:=0) (s:=0) rfl (by omega) (by simp)
 rw [Nat.add_zero] at g2
 obtain⟨A2,B2,e3,e4,w2⟩:=w1.move g1 g2 (fun h=>by
   simp only [A5] at h
   rcases h with (h|h|h)|h
   ·exact hp.sy h
   ·omega
   ·omega
   ·omega) (.inr rfl) (hsl ⟨_,0⟩ rfl) (Y:=fun p=>S p.agent∨p.agent=x∨(p.agent=y∧p.slot≤1)∨p=⟨(A.length:Int),1⟩) (fun p q hq=>by
   have hn:p.agent=(A.length:Int)→p.slot=0∨p.slot=1:=fun e=>by
    have:=Bx hq (x:=(k,lv,v,d,2)) (by
     rw [w1.shp,e]
     have:=HV (l:=A.map sh) (m:=[(k,lv,v,d,2)]) (k:=0) rfl
     rwa [List.length_map,Nat.add_zero] at this)
    grind
   have hy2:p.agent=y→p.slot=0∨p.slot=1∨p.slot=2:=fun e=>by
    have:=Bx hq (x:=sh b) (by rw [w1.shp,e]; exact DW (Fy hp.hy))
    grind [sh]
   grind [A5]) fun p hs=>.inl hs
 obtain⟨u2,g3⟩:=w2.old hp.hy (s:=2) (by omega) (by omega)
 obtain⟨u3,g4⟩:=w2.new (k:=0) (s:=1) rfl (by omega) (by simp)
 rw [Nat.add_zero] at g4
 obtain⟨A3,B3,e5,e6,w3⟩:=w2.move g3 g4 (fun h=>by
   simp only [A5] at h
   rcases h with h|h|h|h
   ·exact hp.sy h
   ·omega
   ·omega
   ·omega) (.inr (.inr (.inr rfl))) (hsl ⟨_,1⟩ rfl) (Y:=fun p=>S p.agent∨p.agent=x∨p.agent=y) (fun p q hq=>by
   have hy2:p.agent=y→p.slot=0∨p.slot=1∨p.slot=2:=fun e=>by
    have:=Bx hq (x:=sh b) (by rw [w2.shp,e]; exact DW (Fy hp.hy))
    grind [sh]
   grind [A5]) fun p hs=>.inl hs
 exact⟨_,A2,A3,_,B2,B3,e1,e3,e5,e2,e4,e6,w3.ok,w3.shp,w3.fr⟩
end
theorem kA (x:Int):IntKind.i32.wrap (IntKind.u32.wrap (IntKind.u64.wrap x))=IntKind.i32.wrap x:=by
 have e:∀y,IntKind.i32.wrap y=if 2147483648≤y % 4294967296 then y % 4294967296 - 4294967296 else y % 4294967296:=fun y=>by
  simp [IntKind.wrap,IntKind.bits,IntKind.signed]
 have e1:∀y,IntKind.u32.wrap y=y % 4294967296:=fun y=>by rfl
 have e2:∀y,IntKind.u64.wrap y=y % 18446744073709551616:=fun y=>by rfl
 rw [e,e,e1,e2]
 have:x % 18446744073709551616 % 4294967296 % 4294967296=x % 4294967296:=by omega
 rw [this]
theorem eU (x:Int):GT x=EB x:=by unfold GT EB; rw [kA]
theorem eV (b:Bool):Kh b=H2 b:=rfl
theorem kC (o a b:Int):Ki o a b=F3 o a b:=by
 grind [Ki,F3,eU,eV]
theorem XD (b:Bool):H2 b=some (if b=true then 1 else 0):=by unfold H2; split <;> rfl
theorem eW (x:Int):∃y,EB x=some y:=⟨_,rfl⟩
theorem kD (o a b:Int):∃y,F3 o a b=some y:=by
 unfold F3
 obtain⟨u,hu⟩:=eW a
 grind [EB,nz?,XD]
theorem LZ (a:Agent) (hd:a.data.length≤Big) (hp:a.ports.length≤Big):CY a=some a:=by
 simp_all [CY,eN,CQ]
def NB (x:Sh):Prop:=x.2.2.2.1.length ≤4∧x.2.2.2.2 ≤4∧x.1 ≠0
def shB (x:Sh):Bool:=agB ⟨x.1,x.2.1,x.2.2.1,x.2.2.2.1,List.replicate x.2.2.2.2 ⟨0,0⟩⟩
theorem kE {a b} (h:sh a=sh b):agB a=agB b∧a.kind=b.kind:=by
 simp only [sh,Prod.mk.injEq] at h
 obtain⟨h1,h2,h3,h4,h5⟩:=h
 refine⟨?_,h1⟩
 unfold agB HT
 rw [h1,h2,h3,h4,h5]
theorem eX (a:Agent):shB (sh a)=agB a:=(kE (by simp [sh])).1
def SV (new:List Sh):Prop:=∀n ∈ new,n.1 ≠1∧shB n=true
theorem NQ {a} (h:agB a=true):levB a.kind a.level=true∧HT a=true∧0<a.ports.length∧ports a.kind (if a.kind=9 then (a.ports.length:Int) - 1 else 0)=(a.ports.length:Int):=by
 grind [agB]
theorem VF {k l m} (h:levB k l=true) (hk:k≠1∧k≠5∧k≠6) (hm:1≤m∧m≤12∧m≠1∧m≠5∧m≠6):levB m l=true:=by
 grind [levB]
theorem XE {x y} (h:EB x=some y): -2147483648≤y∧y≤2147483647:=by
 grind [IntKind.wrap,IntKind.bits,IntKind.signed,EB]
theorem kF {o a b y} (h:F3 o a b=some y): -2147483648≤y∧y≤2147483647:=by
 have ht:∀ {c:Bool} {z:Int},H2 c=some z→ -2147483648≤z∧z≤2147483647:=fun {c z} hz=>by
  unfold H2 at hz
  split at hz <;> cases hz <;> omega
 have hb:∀ {α β:Type} {x:Option α} {f:α→Option β} {r:β},Option.bind x f=some r→∃v,x=some v∧f v=some r:=fun {α β x f r} hx=>by
  cases x with
  |none=>cases hx
  |some v=>grind
 unfold F3 at h
 obtain⟨u,-,h⟩:=hb h
 obtain⟨v,-,h⟩:=hb h
 repeat' split at h
 all_goals first
  |(obtain⟨z,hz,h⟩:=hb h; cases h; first|exact XE hz|exact ht hz)
  |(obtain⟨z,-,h⟩:=hb h; obtain⟨w,hw,h⟩:=hb h; cases h; exact XE hw)
  |(cases h; omega)
def NBs (new:List Sh):Prop:=(∀n ∈ new,NB n)∧new.length≤600
section
variable {S:Int→Prop} {X:Port→Prop} {A B:List Agent}
theorem Pr.bx (h:Ok S X A B) {x y} {a b} (hp:Pr S A x y a b):at? B x=some a:=(h.ag x hp.sx).symm.trans hp.hx
theorem Pr.bY (h:Ok S X A B) {x y} {a b} (hp:Pr S A x y a b):at? B y=some b:=(h.ag y hp.sy).symm.trans hp.hy
theorem Yj (h:Ok S (fun p=>S p.agent) A B) {x y} {a b} (hp:Pr S A x y a b) (ga:agB a=true) (gb:agB b=true) (hka:a.kind=6) (ha:a.ports.length=1) (hk:(b.kind=7∧b.ports.length=3∧b.data.length=0)∨(b.kind=8∧b.ports.length=2∧b.data.length=1)) (hA:A.length≤8000000):
  ∃A2 B2 new,(∀bk r,Cv ⟨⟨A⟩,bk,r⟩ x y=some ⟨⟨A2⟩,bk,r⟩)∧F5 ⟨B⟩ x y=some ⟨B2⟩∧Done S A x y new A2 B2∧NBs new∧SV new∧new.length=1:=by
 have hb:b.data.length≤Big∧b.ports.length≤Big:=by grind
 rcases hk with ⟨k1,k2,k3⟩|⟨k1,k2,k3⟩
 ·obtain⟨A1,A2,A3,B1,B2,B3,e1,e2,e3,f1,f2,f3,d⟩:=bG h hp ha k2 hA 8 b.level b.value [a.value] (by grind)
  refine⟨A3,B3,_,fun bk r=>?_,?_,d,?_⟩
  ·unfold Cv
   rw [hp.hx,AA,hp.hy,AA,if_pos (by grind),e1,AA,e2,AA,e3,AA]
  ·unfold F5
   rw [hp.bY h,AA,LZ b hb.1 hb.2,AA,hp.bx h,AA,if_neg (by grind),f1,AA]
   simp_all [Cq]
  ·refine⟨⟨fun n hn=>?_,by simp⟩,fun n hn=>?_,rfl⟩
   ·rw [List.mem_singleton] at hn; subst hn
    exact⟨by simp,by simp,by simp⟩
   ·rw [List.mem_singleton] at hn; subst hn
    have lb:=VF (m:=8) (NQ gb).1 (by omega) (by omega)
    simp_all [HT,shB,agB,ports]
 ·obtain⟨d0,hd0⟩:∃d0,at? b.data 0=some d0:=by
   obtain⟨u,hu,-⟩:=FF (l:=b.data) (i:=0) (by omega)
   grind
  obtain⟨v,hv⟩:=kD b.value d0 a.value
  obtain⟨A1,A2,B1,B2,e1,e2,f1,f2,d⟩:=XC h hp ha k2 hA 6 0 v [] (by simp)
  refine⟨A2,B2,_,fun bk r=>?_,?_,d,?_⟩
  ·unfold Cv
   rw [hp.hx,AA,hp.hy,AA,if_neg (by grind),hd0,AA,hv,AA,e1,AA,e2,AA]
  ·unfold F5
   rw [hp.bY h,AA,LZ b hb.1 hb.2,AA,hp.bx h,AA,if_pos (by grind),hd0,AA,kC,hv,AA,f1,AA]
   grind [Cq]
  ·refine⟨⟨fun n hn=>?_,by simp⟩,fun n hn=>?_,rfl⟩
   ·rw [List.mem_singleton] at hn; subst hn
    exact⟨by simp,by simp,by simp⟩
   grind [kF,shB,agB,HT,levB]
theorem bH (h:Ok S (fun p=>S p.agent) A B) {x y} {a b} (hp:Pr S A x y a b) (gb:agB b=true) (ha:a.ports.length=1) (hka:a.kind=6) (hkb:b.kind=11) (hb:b.ports.length=2) (hd:b.data.length=2) (hA:A.length≤8000000):
  ∃A2 B2 new,(∀bk r,B9 ⟨⟨A⟩,bk,r⟩ x y=some ⟨⟨A2⟩,bk,r⟩)∧Em ⟨B⟩ x y=some ⟨B2⟩∧Done S A x y new A2 B2∧NBs new∧SV new∧new.length=1:=by
 have hbb:b.data.length≤Big∧b.ports.length≤Big:=by grind
 obtain⟨d0,hd0,-⟩:=FF (l:=b.data) (i:=0) (by omega)
 obtain⟨d1,hd1,-⟩:=FF (l:=b.data) (i:=1) (by omega)
 obtain⟨A1,A2,B1,B2,e1,e2,f1,f2,d⟩:=XC h hp ha hb hA 12 b.level (if a.value=0 then d1 else d0) [] (by simp)
 refine⟨A2,B2,_,fun bk r=>?_,?_,d,?_⟩
 ·unfold B9
  rw [hp.hx,AA,hp.hy,AA,if_pos (by grind),XD,AA]
  grind
 ·unfold Em Fl
  rw [hp.bY h,AA,LZ b hbb.1 hbb.2,AA,if_pos (by grind),hd1,AA,hp.bx h,AA]
  grind [Cq]
 ·refine⟨⟨fun n hn=>?_,by simp⟩,fun n hn=>?_,rfl⟩
  ·rw [List.mem_singleton] at hn; subst hn
   exact⟨by simp,by simp,by simp⟩
  ·rw [List.mem_singleton] at hn; subst hn
   have lb:=VF (m:=12) (NQ gb).1 (by omega) (by omega)
   have cb:=(NQ gb).2.1
   unfold HT at cb
   rw [if_neg (by omega),if_neg (by omega),if_neg (by omega),if_neg (by omega),if_neg (by omega),if_neg (by omega),if_pos hkb] at cb
   simp only [Bool.and_eq_true,decide_eq_true_eq,List.all_eq_true] at cb
   have m0:=cb.2 d0 (List.mem_of_getElem? (BW hd0).2)
   have m1:=cb.2 d1 (List.mem_of_getElem? (BW hd1).2)
   grind [shB,agB,ports,HT]
end
theorem Zf {l} {p q u} {x} (h:Ab.get l p=some u):upd (l++[x]) p q=upd l p q++[x] :=by
 obtain⟨a,h1,-⟩:=AZ.1 h
 obtain⟨h2,h3⟩:=BW h1
 have h4:=Bk h1
 have h5:at? (l++[x]) p.agent=some a:=by rw [PM,if_neg (by omega)]; exact h1
 rw [LX h1,LX h5,List.set_append_left]
 omega
theorem kG {l} {p q u v} {x} (hp:Ab.get l p=some u) (hq:Ab.get l q=some v):lk (l++[x]) p q=lk l p q++[x] :=by
 unfold lk
 have:∃w,Ab.get (upd l p q) q=some w:=by
  rw [PL hp]; grind
 obtain⟨w,hw⟩:=this
 rw [Zf hp,Zf hw]
theorem Fz {l} {p q r u v} (hp:Ab.get l p=some u) (hr:Ab.get l r=some v) (h:r≠p):Ab.get (upd l p q) r=some v:=by rw [PL hp,if_neg h]; exact hr
theorem oG {l} {p q n v a b c d} (hp:Ab.get l p=some a) (hq:Ab.get l q=some b) (hn:Ab.get l n=some c) (hv:Ab.get l v=some d) (pq:p≠q) (nv:n≠v) (h1:p≠n) (h2:p≠v) (h3:q≠n) (h4:q≠v):lk (lk l p q) n v=lk (lk l n v) p q:=by
 unfold lk
 have p1:=fun x=>Fz (q:=x) hp hq pq.symm
 have p2:=fun x=>Fz (q:=x) hp hn h1.symm
 have p3:=fun x=>Fz (q:=x) hp hv h2.symm
 have n1:=fun x=>Fz (q:=x) hn hp h1
 have n2:=fun x=>Fz (q:=x) hn hq h3
 have n3:=fun x=>Fz (q:=x) hn hv nv.symm
 rw [Mg h3 (p1 q) (p2 q),Mg h1 hp hn]
 have e1:Ab.get (upd (upd l n v) p q) q=some b:=Fz (n1 v) (n2 v) pq.symm
 have e2:Ab.get (upd (upd l n v) p q) v=some d:=Fz (n1 v) (n3 v) h2.symm
 rw [Mg h4 e1 e2,Mg h2 (n1 v) (n3 v)]
def If (lv:Int):Sh:=(3,lv,0,[],3)
def gro (lv:Int):Nat→Port→List Agent→List Agent
 |0,_,l=>l
 |k+1,top,l=>gro lv k ⟨(l.length:Int),2⟩ (lk (l++[newA 3 lv 0 [] 3]) ⟨(l.length:Int),0⟩ top)
def Qo:Nat→Port→Nat→Port
 |0,top,_=>top
 |k+1,_,n=>Qo k ⟨(n:Int),2⟩ (n+1)
def Ji (n:Nat):Nat→List Int
 |0=>[]
 |k+1=>(n:Int)::Ji (n+1) k
theorem NR (k:Nat):∀n,(Ji n k).length =k:=by
 induction k with
 |zero=>intro n; rfl
 |succ k ih=>intro n; rw [Ji,List.length_cons,ih]
theorem XF (k:Nat):∀n j,j<k→(Ji n k)[j]? =some ((n+j:Nat):Int):=by
 induction k with
 |zero=>omega
 |succ k ih=>
  grind [Ji]
theorem Mh {l:List Agent} {k lv v:Int} {d:List Int} {n:Nat} {s:Int} (h0:0≤s) (hs:s<(n:Int)):Ab.get (l++[newA k lv v d n]) ⟨(l.length:Int),s⟩=some ⟨0,0⟩:=by
 rw [Ky,if_pos rfl]
 unfold newA at?
 simp only
 rw [if_pos h0,List.getElem?_replicate,if_pos (by omega)]
theorem La {l} {x} {p u} (h:Ab.get l p=some u):Ab.get (l++[x]) p=some u:=by
 have:=Dy h
 rw [Ky,if_neg (by omega)]; exact h
theorem oH (a0:Rewriter) (x y:Int) (a b:Agent) (hf:a.ports.length≤5) (r:List (Int × Bool)):∀ (k i m:Nat) (top:Port) (l:List Agent) (apps:List Int) (t:Port),i+k+1=a.ports.length→k<m→l.length+k≤16000000→apps.length+k≤100→Ab.get l top=some t→
  BY m a0 x y a b r l top.agent top.slot apps (i:Int)=BD fuel a0 x y (Qo k top l.length).agent (Qo k top l.length).slot (apps++Ji l.length k) r (gro b.level k top l) 0:=by
 intro k
 induction k with
 |zero=>
  intro i m top l apps t h hm hl hap ht
  obtain⟨m,rfl⟩:∃q,m=q+1:=⟨m - 1,by omega⟩
  rw [BY,if_neg (by rw [w64 (by omega) (by omega)]; grind)]
  grind [Qo,gro,Ji]
 | succ k ih=>
  intro i m top l apps t h hm hl hap ht
  obtain⟨m,rfl⟩:∃q,m=q+1:=⟨m - 1,by omega⟩
  rw [BY,if_pos (by rw [w64 (by omega) (by omega)]; grind)]
  have e:Ak ⟨⟨l⟩,a0.book,r⟩ 3 b.level 0 [] 3=some ((l.length:Int),⟨⟨l++[newA 3 b.level 0 [] 3]⟩,a0.book,r⟩):=Zc l a0.book r 3 b.level 0 [] 3 (by grind) (by simp) (by grind)
  have g1:Ab.get (l++[newA 3 b.level 0 [] 3]) ⟨(l.length:Int),0⟩=some ⟨0,0⟩:=Mh (by omega) (by omega)
  have g2:Ab.get (l++[newA 3 b.level 0 [] 3]) top=some t:=La ht
  have g3:Ab.get (l++[newA 3 b.level 0 [] 3]) ⟨(l.length:Int),2⟩=some ⟨0,0⟩:=Mh (by omega) (by omega)
  have tl:=Dy ht
  have g4:Ab.get (lk (l++[newA 3 b.level 0 [] 3]) ⟨(l.length:Int),0⟩ top) ⟨(l.length:Int),2⟩=some ⟨0,0⟩:=by
   rw [J6 g1 g2 (by simp) (fun e=>by grind)]; exact g3
  rw [e,AA]
  simp only
  rw [Kx,H5 g1 g2,AA,CQ (by grind),AA]
  rw [w64 (by omega) (by omega),show ((i:Int)+1)=((i+1:Nat):Int) from by omega]
  have:=ih (i+1) m ⟨(l.length:Int),2⟩ (lk (l++[newA 3 b.level 0 [] 3]) ⟨(l.length:Int),0⟩ top) (apps++[(l.length:Int)]) ⟨0,0⟩ (by omega) (by omega) (by rw [OT]; grind) (by grind) g4
  rw [OT,List.length_append,List.length_singleton] at this
  grind [Qo,gro,Ji]
theorem kH (lv:Int):∀ (r:Nat) (T:List Agent) (X:Port→Prop) (top t o v n u:Port),M T X→Ab.get T top=some t→X top→Ab.get T o=some v→¬X o→Ab.get T n=some u→X n→top≠n→
  Ab.get (gro lv r top T) o=some v∧Ab.get (gro lv r top T) v=some o∧Ab.get (gro lv r top T) n=some u∧mv (gro lv r top T) o n=gro lv r top (mv T o n):=by
 intro r
 induction r with
 |zero=>
  intro T X top t o v n u hm ht xt ho xo hn xn hne
  obtain⟨-,-,h3⟩:=hm o v ho xo
  exact⟨ho,h3,hn,rfl⟩
 | succ r ih=>
  intro T X top t o v n u hm ht xt ho xo hn xn hne
  obtain⟨h1,h2,h3⟩:=hm o v ho xo
  have lt:=Dy ht
  have lo:=Dy ho
  have lv':=Dy h3
  have ln:=Dy hn
  have g1:Ab.get (T++[newA 3 lv 0 [] 3]) ⟨(T.length:Int),0⟩=some ⟨0,0⟩:=Mh (by omega) (by omega)
  have g2:Ab.get (T++[newA 3 lv 0 [] 3]) top=some t:=La ht
  have g3:Ab.get (T++[newA 3 lv 0 [] 3]) ⟨(T.length:Int),2⟩=some ⟨0,0⟩:=Mh (by omega) (by omega)
  have nN:∀ (p:Port) (s:Int),p.agent<(T.length:Int)→p≠⟨(T.length:Int),s⟩:=fun p s hp e=>by rw [A5] at e; omega
  have ot:o≠top:=fun e=>xo (e ▸ xt)
  have vt:v≠top:=fun e=>h1 (e ▸ xt)
  have nv:n≠v:=fun e=>h1 (e ▸ xn)
  have no:n≠o:=fun e=>xo (e ▸ xn)
  have hM:M (lk (T++[newA 3 lv 0 [] 3]) ⟨(T.length:Int),0⟩ top) fun p=>(X p∨p.agent=(T.length:Int))∧p≠⟨(T.length:Int),0⟩∧p≠top:=by
   refine M.link (X:=fun p=>X p∨p.agent=(T.length:Int)) (fun p q hp hx=>?_) g1 g2 (nN top 0 lt.2).symm (.inr rfl) (.inl xt)
   have e1:p.agent≠(T.length:Int):=fun e=>hx (.inr e)
   rw [Ky,if_neg e1] at hp
   obtain⟨k1,k2,k3⟩:=hm p q hp fun e=>hx (.inl e)
   have:=Dy k3
   refine⟨fun hq=>?_,k2,La k3⟩
   grind
  have gg:∀ (p w:Port),p≠top→Ab.get T p=some w→Ab.get (lk (T++[newA 3 lv 0 [] 3]) ⟨(T.length:Int),0⟩ top) p=some w:=fun p w hpt hp=>by
   rw [J6 g1 g2 (nN p 0 (Dy hp).2) hpt]; exact La hp
  have g4:Ab.get (lk (T++[newA 3 lv 0 [] 3]) ⟨(T.length:Int),0⟩ top) ⟨(T.length:Int),2⟩=some ⟨0,0⟩:=by
   rw [J6 g1 g2 (by simp) (nN top 2 lt.2).symm]; exact g3
  obtain⟨k1,k2,k3,k4⟩:=ih _ _ ⟨(T.length:Int),2⟩ _ o v n u hM g4 ⟨.inr rfl,by simp,(nN top 2 lt.2).symm⟩ (gg o v ot ho)
   (fun e=>by
    grind) (gg n u hne.symm hn) ⟨.inl xn,nN n 0 ln.2,hne.symm⟩ (nN n 2 ln.2).symm
  refine⟨k1,k2,k3,?_⟩
  have e1:mv T o n=lk T n v:=by unfold mv; rw [ho]
  have e2:mv (lk (T++[newA 3 lv 0 [] 3]) ⟨(T.length:Int),0⟩ top) o n=lk (lk (T++[newA 3 lv 0 [] 3]) ⟨(T.length:Int),0⟩ top) n v:=by unfold mv; rw [gg o v ot ho]
  have e3:(mv T o n).length =T.length:=by rw [e1,OT]
  rw [gro,k4,gro,e3,e2,e1,oG g1 g2 (La hn) (La h3) (nN top 0 lt.2).symm nv (nN n 0 ln.2).symm (nN v 0 lv'.2).symm hne vt.symm,kG hn h3]
section
variable {S:Int→Prop} {A B:List Agent}
def conX (S:Int→Prop) (x y:Int) (j:Nat) (ta ts:Int) (p:Port):Prop:=S p.agent∨(p.agent=x∧p.slot≤(j:Int))∨(p.agent=y∧p.slot=0)∨(p.agent=ta∧p.slot=ts)
theorem eY (hS:∀k,S k→0≤k∧k<(A.length:Int)) {x y} {a b} (hp:Pr S A x y a b) (hne:x≠y) (hb:b.ports.length=2) (hA:A.length≤8000000) (K:Nat) (hK:a.ports.length=K+1) (hK5:K≤4) (c:Sh) (tf:Port):
  ∀ (r j m m':Nat) (L B1:List Agent) (ta ts:Int) (t:Port),j+r=K→r<m→r<m'→Way1 S A (c::List.replicate j (If b.level)) (conX S x y j ta ts) L B1→Ab.get L ⟨ta,ts⟩=some t→(A.length:Int)≤ta→tf=Qo r ⟨ta,ts⟩ L.length→
   ∃A2 B2,(∀ (a0:Rewriter) rr,BD m a0 x y tf.agent tf.slot (Ji (A.length+1) K) rr (gro b.level r ⟨ta,ts⟩ L) (j:Int)=some ⟨⟨A2⟩,a0.book,rr⟩)∧DG m' x y b (K:Int) B1 ta ts ((j:Int)+1)=some ⟨B2⟩∧Done S A x y (c::List.replicate K (If b.level)) A2 B2:=by
 have hyl:=Bk hp.hy
 have hxl:=Bk hp.hx
 intro r
 induction r with
 | zero=>
  intro j m m' L B1 ta ts t h hm hm' hw ht hta htf
  obtain⟨m,rfl⟩:∃q,m=q+1:=⟨m - 1,by omega⟩
  obtain⟨m',rfl⟩:∃q,m'=q+1:=⟨m' - 1,by omega⟩
  have hj:j=K:=by omega
  subst hj
  have tl:=Dy ht
  simp only at tl
  obtain⟨u,g1⟩:=hw.old hp.hy (s:=1) (by omega) (by omega)
  have nS:¬S ta:=fun hs=>by grind
  obtain⟨A2,B2,e1,e2,w⟩:=hw.move (o:=⟨y,1⟩) (n:=⟨ta,ts⟩) g1 ht (fun h=>by
    unfold conX at h
    simp only at h
    rcases h with h|h|h|h
    ·exact hp.sy h
    ·omega
    ·omega
    ·omega) (.inr (.inr (.inr ⟨rfl,rfl⟩))) nS (Y:=fun p=>S p.agent∨p.agent=x∨p.agent=y) (fun p q hq=>by
    have hx2:p.agent=x→p.slot≤(j:Int):=fun e=>by
     have:=Bx hq (x:=sh a) (by rw [hw.shp,e]; exact DW (Fy hp.hx))
     grind [sh]
    have hy2:p.agent=y→p.slot=0∨p.slot=1:=fun e=>by
     have:=Bx hq (x:=sh b) (by rw [hw.shp,e]; exact DW (Fy hp.hy))
     grind [sh]
    grind [conX,A5]) fun p hs=>.inl hs
  refine⟨A2,B2,fun a0 rr=>?_,?_,w.ok,w.shp,w.fr⟩
  ·rw [BD,if_neg (by rw [NR]; simp),htf]
   simp only [Qo,gro]
   rw [e1,AA]
  grind [DG,Cq]
 | succ r ih=>
  intro j m m' L B1 ta ts t h hm hm' hw ht hta htf
  obtain⟨m,rfl⟩:∃q,m=q+1:=⟨m - 1,by omega⟩
  obtain⟨m',rfl⟩:∃q,m'=q+1:=⟨m' - 1,by omega⟩
  have hlen:=hw.len
  rw [List.length_cons,List.length_replicate] at hlen
  have tl:=Dy ht
  simp only at tl
  have nS:∀k:Int,(A.length:Int)≤k→¬S k:=fun k hk hs=>by grind
  obtain⟨e1,e2,w1⟩:=hw.add 3 b.level 0 [] 3 (by grind) (by simp) (by grind)
  rw [List.length_cons,List.length_replicate,← hlen] at e1 e2 w1
  have hnew:((c::List.replicate j (If b.level))++[(3,b.level,0,[],3)])[j+1]? =some (If b.level):=by
   rw [List.getElem?_append_right (by simp)]; simp [If]
  have hN:((A.length+(j+1):Nat):Int)=(L.length:Int):=by omega
  obtain⟨u0,g0⟩:=w1.new hnew (s:=0) (by omega) (by simp [If])
  rw [hN] at g0
  have g2:Ab.get (L++[newA 3 b.level 0 [] 3]) ⟨ta,ts⟩=some t:=La ht
  obtain⟨T,BT,k1,k2,k3,k4,w2⟩:=w1.link g0 g2 (fun e=>by rw [A5] at e; grind) (.inr rfl) (.inl (.inr (.inr (.inr ⟨rfl,rfl⟩)))) (nS _ (by grind)) (nS _ hta)
  have hT:T=lk (L++[newA 3 b.level 0 [] 3]) ⟨(L.length:Int),0⟩ ⟨ta,ts⟩:=by
   rw [Kx,H5 g0 g2] at k1
   grind
  obtain⟨u1,g3⟩:=w2.new hnew (s:=1) (by omega) (by simp [If])
  obtain⟨u2,g4⟩:=w2.new hnew (s:=2) (by omega) (by simp [If])
  rw [hN] at g3 g4
  obtain⟨v,g5⟩:=w2.old hp.hx (s:=(j:Int)+1) (by omega) (by omega)
  have xo:¬ ((fun r=>(conX S x y j ta ts r∨r.agent=(L.length:Int))∧r≠⟨(L.length:Int),0⟩∧r≠⟨ta,ts⟩) (⟨x,(j:Int)+1⟩:Port)):=fun h=>by
   unfold conX at h
   simp only at h
   rcases h.1 with (h|h|h|h)|h
   ·exact hp.sx h
   ·omega
   ·omega
   ·omega
   ·omega
  have xn:(fun r=>(conX S x y j ta ts r∨r.agent=(L.length:Int))∧r≠⟨(L.length:Int),0⟩∧r≠⟨ta,ts⟩) (⟨(L.length:Int),1⟩:Port):=⟨.inr rfl,by simp,fun e=>by rw [A5] at e; grind⟩
  have xt:(fun r=>(conX S x y j ta ts r∨r.agent=(L.length:Int))∧r≠⟨(L.length:Int),0⟩∧r≠⟨ta,ts⟩) (⟨(L.length:Int),2⟩:Port):=⟨.inr rfl,by simp,fun e=>by rw [A5] at e; grind⟩
  obtain⟨q1,q2,q3,q4⟩:=kH b.level r T _ ⟨(L.length:Int),2⟩ u2 ⟨x,(j:Int)+1⟩ v ⟨(L.length:Int),1⟩ u1 w2.ok.m g4 xt g5 xo g3 xn (by simp)
  obtain⟨A2,B2,f1,f2,w3⟩:=w2.move g5 g3 xo xn (nS _ (by grind)) (Y:=conX S x y (j+1) (L.length:Int) 2) (fun p q hq=>by
    have hn:p.agent=(L.length:Int)→p.slot=0∨p.slot=1∨p.slot=2:=fun e=>by
     have:=Bx hq (x:=If b.level) (by
      rw [w2.shp,e,← hN]
      have:=HV (l:=A.map sh) hnew
      rwa [List.length_map] at this)
     grind [If]
    unfold conX
    simp only [ne_eq,A5]
    grind) fun p hs=>.inl hs
  have hA2:A2=mv T ⟨x,(j:Int)+1⟩ ⟨(L.length:Int),1⟩:=by
   obtain⟨-,-,h3⟩:=w2.ok.m _ _ g5 xo
   have:=f1 [] []
   rw [VD g5 h3 g3] at this
   grind
  have hl3:A2.length=L.length+1:=by
   have:=w3.len
   simp only [List.length_append,List.length_cons,List.length_replicate,List.length_nil] at this; omega
  obtain⟨u3,g6⟩:=w3.new hnew (s:=2) (by omega) (by simp [If])
  rw [hN] at g6
  obtain⟨A3,B3,r1,r2,r3⟩:=ih (j+1) m m' A2 B2 (L.length:Int) 2 u3 (by omega) (by omega) (by omega) (by
   rw [List.replicate_succ',← List.cons_append]; exact w3) g6 (by omega) (by rw [htf,Qo,hl3])
  refine⟨A3,B3,fun a0 rr=>?_,?_,r3⟩
  ·have hix:at? (Ji (A.length+1) K) (j:Int)=some (L.length:Int):=by
    rw [Ie (XF K (A.length+1) j (by omega))]; congr 2; omega
   rw [BD,if_pos (by rw [NR]; simp; omega),hix,AA,w64 (by omega) (by omega),gro,← hT,VD q1 q2 q3,AA,q4,← hA2,show ((j:Int)+1)=((j+1:Nat):Int) from by omega]
   exact r1 a0 rr
  ·rw [DG,if_pos (by simp; omega)]
   have e2':Cp ⟨B1⟩ 3 b.level 0 [] 3=some ((L.length:Int),⟨B1++[newA 3 b.level 0 [] 3]⟩):=e2
   rw [e2',AA,Cq,AA,k4,AA,Cq,AA,Cq,AA,f2,AA,Cq,AA,w64 (by omega) (by omega),show ((j:Int)+1+1)=((j+1:Nat):Int)+1 from by omega]
   exact r2
theorem eZ (h:Ok S (fun p=>S p.agent) A B) {x y} {a b} (hp:Pr S A x y a b) (gb:agB b=true) (hka:a.kind=9) (hkb:b.kind=10) (K:Nat) (hK:a.ports.length=K+1) (hK3:K≤3) (hb:b.ports.length=2) (hd:b.data.length≤4) (hv:0≤a.value) (hv2:a.value<(b.data.length:Int)) (hA:A.length≤8000000):
  ∃A2 B2 new,(∀bk r,B9 ⟨⟨A⟩,bk,r⟩ x y=some ⟨⟨A2⟩,bk,r⟩)∧Em ⟨B⟩ x y=some ⟨B2⟩∧Done S A x y new A2 B2∧NBs new∧SV new∧new.length=K+1:=by
 obtain⟨h0,hne⟩:=h.start hp
 obtain⟨d,hd1,-⟩:=FF (l:=b.data) (i:=a.value) ⟨hv,hv2⟩
 have hxl:=Bk hp.hx
 have hyl:=Bk hp.hy
 have w0:Way1 S A [] (fun p=>S p.agent∨p=⟨x,0⟩∨p=⟨y,0⟩) A B:=⟨h0,by simp,.refl⟩
 obtain⟨e1,e2,w1⟩:=w0.add 12 b.level d [] 1 (by grind) (by simp) (by grind)
 simp only [List.length_nil,Nat.add_zero,List.nil_append,Int.natCast_one] at e1 e2 w1
 have nS:∀k:Int,(A.length:Int)≤k→¬S k:=fun k hk hs=>by have:=h.s_lt hs; omega
 have w2:Way1 S A ((12,b.level,d,[],1)::List.replicate 0 (If b.level)) (conX S x y 0 (A.length:Int) 0) (A++[newA 12 b.level d [] 1]) (B++[newA 12 b.level d [] 1]):=by
  refine w1.mono (fun p q hq=>?_) fun p hs=>.inl hs
  have h1:p.agent=(A.length:Int)→p.slot=0:=fun e=>by
   have:=Bx hq (x:=(12,b.level,d,[],1)) (by
    rw [w1.shp,e]
    have:=HV (l:=A.map sh) (m:=[(12,b.level,d,[],1)]) (k:=0) rfl
    rwa [List.length_map,Nat.add_zero] at this)
   grind
  have h2:p.agent=x→0≤p.slot:=fun e=>(Bx hq (x:=sh a) (by rw [w1.shp,e]; exact DW (Fy hp.hx))).1
  grind [conX,A5]
 have hF:CR a=some (K:Int):=by
  grind [CR,w64]
 have hg:Ab.get (A++[newA 12 b.level d [] 1]) ⟨(A.length:Int),0⟩=some ⟨0,0⟩:=Mh (by omega) (by omega)
 obtain⟨A2,B2,s1,s2,s3⟩:=eY (fun k hk=>h.s_lt hk) hp hne hb hA K hK (by omega) _ _ K 0 fuel fuel _ _ _ _ _ (by omega) (by rw [BG]; omega) (by rw [BG]; omega) w2 hg (Int.le_refl _) rfl
 rw [List.length_append,List.length_singleton] at s1
 refine⟨A2,B2,_,fun bk r=>?_,?_,s3,⟨fun n hn=>?_,by grind⟩,fun n hn=>?_,by simp⟩
 ·unfold B9 EC
  rw [hp.hx,AA,hp.hy,AA,if_neg (by grind),hd1,AA,e1,AA]
  have:=oH ⟨⟨A⟩,bk,r⟩ x y a b (by omega) r K 0 fuel ⟨(A.length:Int),0⟩ _ [] _ (by omega) (by rw [BG]; omega) (by grind) (by grind) hg
  rw [List.length_append,List.length_singleton,List.nil_append] at this
  grind
 ·unfold Em
  rw [hp.bY h,AA,LZ b (by grind) (by grind),AA,if_neg (by grind),hp.bx h,AA,hF,AA,AA,hd1,AA,e2,AA,Cq,AA]
  exact s2
 ·rcases List.mem_cons.1 hn with e|e
  ·subst e; exact⟨by simp,by simp,by simp⟩
  ·rw [(List.mem_replicate.1 e).2]; exact⟨by simp [If],by simp [If],by simp [If]⟩
 ·have cb:=(NQ gb).2.1
  unfold HT at cb
  rw [if_neg (by omega),if_neg (by omega),if_neg (by omega),if_neg (by omega),if_neg (by omega),if_pos hkb] at cb
  simp only [Bool.and_eq_true,decide_eq_true_eq,List.all_eq_true] at cb
  have m1:=cb.2 d (List.mem_of_getElem? (BW hd1).2)
  rcases List.mem_cons.1 hn with e|e
  ·subst e
   grind [VF,shB,agB,ports,HT]
  ·rw [(List.mem_replicate.1 e).2]
   have lb:=VF (m:=3) (NQ gb).1 (by omega) (by omega)
   simp_all [If,shB,agB,ports,HT]
end
section
variable {S:Int→Prop} {A B:List Agent}
def dupS (lv:Int):Sh:=(4,lv,0,[],3)
def dupX (S:Int→Prop) (x y:Int) (n i:Nat) (p:Port):Prop:=
 S p.agent∨(p.agent=x∧p.slot=0)∨(p.agent=y∧p.slot=0)∨(p.agent=(n:Int)∧(p.slot=0∨(i:Int)≤p.slot))∨(p.agent=(n:Int)+1∧(p.slot=0∨(i:Int)≤p.slot))∨((n:Int)+2≤p.agent∧p.slot=0)
def Yk (S:Int→Prop) (x y:Int) (n t:Nat) (p:Port):Prop:=
 S p.agent∨p.agent=x∨(p.agent=y∧p.slot≤(t:Int))∨((n:Int)+2+(t:Int)≤p.agent∧p.slot=0)
theorem bI (hS:∀k,S k→0≤k∧k<(A.length:Int)) {x y} {a b} (hp:Pr S A x y a b) (hA:A.length≤8000000) (hb:b.ports.length≤4) (u2 u3:Int × Net) (hu2:u2.1 =(A.length:Int)) (hu3:u3.1 =(A.length:Int)+1):
  ∀ (k i m m':Nat) (L B1:List Agent),i+k=b.ports.length→1≤i→k<m→k<m'→Way1 S A (sh b::sh b::List.replicate (i - 1) (dupS a.level)) (dupX S x y A.length i) L B1→
   ∃L' B' m1 m2,(∀ (a0:Rewriter) (v2 v3:Int × Rewriter) rr (apps:List Int),v2.1 =(A.length:Int)→v3.1 =(A.length:Int)+1→apps.length+k≤100→As m a0 x y b v2 v3 rr L apps (i:Int)=As (m1+1) a0 x y b v2 v3 rr L' (apps++Ji (A.length+1+i) k) (b.ports.length:Int))∧
    Bo m' x y a b u2 u3 B1 (i:Int)=Bo (m2+1) x y a b u2 u3 B' (b.ports.length:Int)∧Way1 S A (sh b::sh b::List.replicate (b.ports.length - 1) (dupS a.level)) (dupX S x y A.length b.ports.length) L' B':=by
 have hyl:=Bk hp.hy
 have hxl:=Bk hp.hx
 intro k
 induction k with
 |zero=>
  intro i m m' L B1 h h1 hm hm' hw
  obtain⟨m,rfl⟩:∃q,m=q+1:=⟨m - 1,by omega⟩
  obtain⟨m',rfl⟩:∃q,m'=q+1:=⟨m' - 1,by omega⟩
  have:i=b.ports.length:=by omega
  subst this
  exact⟨L,B1,m,m',fun a0 v2 v3 rr apps _ _ _=>by rw [Ji,List.append_nil],rfl,hw⟩
 | succ k ih=>
  intro i m m' L B1 h h1 hm hm' hw
  obtain⟨m,rfl⟩:∃q,m=q+1:=⟨m - 1,by omega⟩
  obtain⟨m',rfl⟩:∃q,m'=q+1:=⟨m' - 1,by omega⟩
  have hlen:=hw.len
  simp only [List.length_cons,List.length_replicate] at hlen
  have nS:∀k:Int,(A.length:Int)≤k→¬S k:=fun k hk hs=>by grind
  have hsx:at? (L.map sh) x=some (sh a):=by rw [hw.shp]; exact DW (Fy hp.hx)
  obtain⟨a',ha',has⟩:=SY hsx
  have hal:a'.level=a.level:=by grind [sh]
  obtain⟨e1,e2,w1⟩:=hw.add 4 a.level 0 [] 3 (by grind) (by simp) (by grind)
  rw [List.length_cons,List.length_cons,List.length_replicate,show A.length+(i - 1+1+1)=L.length from by omega] at e1 e2 w1
  have n0:((sh b::sh b::List.replicate (i - 1) (dupS a.level))++[(4,a.level,0,[],3)])[0]? =some (sh b):=rfl
  have n1:((sh b::sh b::List.replicate (i - 1) (dupS a.level))++[(4,a.level,0,[],3)])[1]? =some (sh b):=rfl
  have n2:((sh b::sh b::List.replicate (i - 1) (dupS a.level))++[(4,a.level,0,[],3)])[2+(i - 1)]? =some (dupS a.level):=by
   rw [List.getElem?_append_right (by grind)]
   simp only [List.length_cons,List.length_replicate]
   rw [show 2+(i - 1) - (i - 1+1+1)=0 from by omega]; rfl
  have hN:((A.length+(2+(i - 1)):Nat):Int)=(L.length:Int):=by omega
  obtain⟨q1,g1⟩:=w1.new n2 (s:=1) (by omega) (by simp [dupS])
  obtain⟨q2,g2⟩:=w1.new n0 (s:=(i:Int)) (by omega) (by grind [sh])
  rw [hN] at g1
  rw [Nat.add_zero] at g2
  obtain⟨T1,B2,k1,-,k2,-,w2⟩:=w1.link g1 g2 (fun e=>by rw [A5] at e; grind) (.inr rfl) (.inl (.inr (.inr (.inr (.inl ⟨rfl,.inr (Int.le_refl _)⟩))))) (nS _ (by grind)) (nS _ (by grind))
  obtain⟨q3,g3⟩:=w2.new n2 (s:=2) (by omega) (by simp [dupS])
  obtain⟨q4,g4⟩:=w2.new n1 (s:=(i:Int)) (by omega) (by grind [sh])
  rw [hN] at g3
  rw [show ((A.length+1:Nat):Int)=(A.length:Int)+1 from by omega] at g4
  obtain⟨T2,B3,k3,-,k4,-,w3⟩:=w2.link g3 g4 (fun e=>by rw [A5] at e; grind) ⟨.inr rfl,by simp,fun e=>by rw [A5] at e; grind⟩ ⟨.inl (.inr (.inr (.inr (.inr (.inl ⟨rfl,.inr (Int.le_refl _)⟩))))),fun e=>by rw [A5] at e; grind,fun e=>by rw [A5] at e; grind⟩ (nS _ (by grind)) (nS _ (by grind))
  have w4:Way1 S A (sh b::sh b::List.replicate (i+1 - 1) (dupS a.level)) (dupX S x y A.length (i+1)) T2 B3:=by
   have e:sh b::sh b::List.replicate (i+1 - 1) (dupS a.level)=(sh b::sh b::List.replicate (i - 1) (dupS a.level))++[(4,a.level,0,[],3)] :=by
    rw [show i+1 - 1=i - 1+1 from by omega,List.replicate_succ']; rfl
   rw [e]
   refine w3.mono (fun p q hq=>?_) fun p hs=>.inl hs
   have hn:p.agent=(L.length:Int)→p.slot=0∨p.slot=1∨p.slot=2:=fun e=>by
    have:=Bx hq (x:=dupS a.level) (by
     rw [w3.shp,e,← hN]
     have:=HV (l:=A.map sh) n2
     rwa [List.length_map] at this)
    grind [dupS]
   have hlt:p.agent<(L.length:Int)+1:=by
    have:=Dy hq
    have e5:=w3.len
    grind [List.length_replicate]
   unfold dupX
   simp only [ne_eq,A5]
   grind
  obtain⟨L',B',m1,m2,r1,r2,r3⟩:=ih (i+1) m m' T2 B3 (by omega) (by omega) (by omega) (by omega) w4
  refine⟨L',B',m1,m2,fun a0 v2 v3 rr apps hv2 hv3 hap=>?_,?_,r3⟩
  ·have e1':Ak ⟨⟨L⟩,a0.book,rr⟩ 4 a.level 0 [] 3=some ((L.length:Int),⟨⟨L++[newA 4 a.level 0 [] 3]⟩,a0.book,rr⟩):=e1 a0.book rr
   rw [As,if_pos (by grind),ha',AA,hal,e1',AA,hv2,hv3]
   simp only
   rw [k1,AA,k3,AA,CQ (by unfold Big; simp; omega),AA,w64 (by omega) (by omega),show ((i:Int)+1)=((i+1:Nat):Int) from by omega,r1 a0 v2 v3 rr (apps++[(L.length:Int)]) hv2 hv3 (by simp; omega),Ji,List.append_assoc,List.singleton_append,show A.length+1+(i+1)=A.length+1+i+1 from by omega,show (L.length:Int)=((A.length+1+i:Nat):Int) from by omega]
  ·have e2':Cp ⟨B1⟩ 4 a.level 0 [] 3=some ((L.length:Int),⟨B1++[newA 4 a.level 0 [] 3]⟩):=e2
   rw [Bo,if_pos (by grind),e2',AA,hu2,hu3]
   simp only [Cq,AA]
   rw [k2,AA,k4,AA,w64 (by omega) (by omega),show ((i:Int)+1)=((i+1:Nat):Int) from by omega]
   exact r2
theorem bJ (hS:∀k,S k→0≤k∧k<(A.length:Int)) {x y} {a b} (hp:Pr S A x y a b) (hne:x≠y) (hA:A.length≤8000000) (P:Nat) (hP:b.ports.length=P+1) (hb:P≤3) (u3:Int × Net) (hu3:u3.1 =(A.length:Int)+1):
  ∀ (k t m m':Nat) (L B1:List Agent),t+k=P→k<m→k<m'→Way1 S A (sh b::sh b::List.replicate P (dupS a.level)) (Yk S x y A.length t) L B1→
   ∃A2 B2,(∀ (a0:Rewriter) rr,A7 m a0 y (Ji (A.length+2) P) rr L (t:Int)=some ⟨⟨A2⟩,a0.book,rr⟩)∧CA m' y b u3 B1 ((t:Int)+1)=some ⟨B2⟩∧Done S A x y (sh b::sh b::List.replicate P (dupS a.level)) A2 B2:=by
 have hyl:=Bk hp.hy
 have hxl:=Bk hp.hx
 intro k
 induction k with
 | zero=>
  intro t m m' L B1 h hm hm' hw
  obtain⟨m,rfl⟩:∃q,m=q+1:=⟨m - 1,by omega⟩
  obtain⟨m',rfl⟩:∃q,m'=q+1:=⟨m' - 1,by omega⟩
  refine⟨L,B1,fun a0 rr=>?_,?_,hw.done fun p q hq=>?_⟩
  ·rw [A7,if_neg (by rw [NR]; grind)]
  ·rw [CA,if_neg (by grind)]
  ·have hy2:p.agent=y→p.slot≤(t:Int):=fun e=>by
    have:=Bx hq (x:=sh b) (by rw [hw.shp,e]; exact DW (Fy hp.hy))
    grind [sh]
   have hlt:=Dy hq
   have hlen:=hw.len
   grind [Yk]
 | succ k ih=>
  intro t m m' L B1 h hm hm' hw
  obtain⟨m,rfl⟩:∃q,m=q+1:=⟨m - 1,by omega⟩
  obtain⟨m',rfl⟩:∃q,m'=q+1:=⟨m' - 1,by omega⟩
  have nS:∀k:Int,(A.length:Int)≤k→¬S k:=fun k hk hs=>by grind
  have n2:(sh b::sh b::List.replicate P (dupS a.level))[2+t]? =some (dupS a.level):=by
   rw [show 2+t=t+1+1 from by omega,List.getElem?_cons_succ,List.getElem?_cons_succ,List.getElem?_replicate,if_pos (by omega)]
  obtain⟨v,g1⟩:=hw.old hp.hy (s:=(t:Int)+1) (by omega) (by omega)
  obtain⟨u,g2⟩:=hw.new n2 (s:=0) (by omega) (by simp [dupS])
  rw [show ((A.length+(2+t):Nat):Int)=(A.length:Int)+2+(t:Int) from by omega] at g2
  obtain⟨A2,B2,f1,f2,w⟩:=hw.move g1 g2 (fun h=>by
    unfold Yk at h
    simp only at h
    rcases h with h|h|h|h
    ·exact hp.sy h
    ·omega
    ·omega
    ·omega) (.inr (.inr (.inr ⟨Int.le_refl _,rfl⟩))) (nS _ (by grind)) (Y:=Yk S x y A.length (t+1)) (fun p q hq=>by
    unfold Yk
    simp only [ne_eq,A5]
    grind) fun p hs=>.inl hs
  obtain⟨A3,B3,r1,r2,r3⟩:=ih (t+1) m m' A2 B2 (by omega) (by omega) (by omega) w
  refine⟨A3,B3,fun a0 rr=>?_,?_,r3⟩
  ·have hix:at? (Ji (A.length+2) P) (t:Int)=some ((A.length:Int)+2+(t:Int)):=by
    rw [Ie (XF P (A.length+2) t (by omega))]; congr 1
   rw [A7,if_pos (by rw [NR]; grind),hix,AA,w64 (by omega) (by omega),f1,AA,show ((t:Int)+1)=((t+1:Nat):Int) from by omega]
   grind
  ·rw [CA,if_pos (by grind),Cq,AA,hu3,w64 (by omega) (by omega),Cq,AA,show (A.length:Int)+1+((t:Int)+1)=(A.length:Int)+2+(t:Int) from by omega,f2,AA,w64 (by omega) (by omega),show (t:Int)+1+1=((t+1:Nat):Int)+1 from by omega]
   exact r2
theorem kI (h:Ok S (fun p=>S p.agent) A B) {x y} {a b} (hp:Pr S A x y a b) (ga:agB a=true) (gb:agB b=true) (hka:a.kind=4) (hkb:b.kind≠1) (ha:a.ports.length=3) (hb1:1≤b.ports.length) (hb:b.ports.length≤4) (hd:b.data.length≤4) (hbk:b.kind≠0) (hA:A.length≤8000000):
  ∃A2 B2 new,(∀bk r,DE ⟨⟨A⟩,bk,r⟩ x y=some ⟨⟨A2⟩,bk,r⟩)∧Fk ⟨B⟩ x y=some ⟨B2⟩∧Done S A x y new A2 B2∧NBs new∧SV new∧new.length=b.ports.length+1:=by
 obtain⟨h0,hne⟩:=h.start hp
 have hxl:=Bk hp.hx
 have hyl:=Bk hp.hy
 have w0:Way1 S A [] (fun p=>S p.agent∨p=⟨x,0⟩∨p=⟨y,0⟩) A B:=⟨h0,by simp,.refl⟩
 obtain⟨e1,e2,w1⟩:=w0.add b.kind b.level b.value b.data b.ports.length (by grind) (by grind) (by grind)
 simp only [List.length_nil,Nat.add_zero,List.nil_append] at e1 e2 w1
 obtain⟨e3,e4,w2⟩:=w1.add b.kind b.level b.value b.data b.ports.length (by rw [List.length_append,List.length_singleton]; grind) (by grind) (by grind)
 simp only [List.length_singleton] at e3 e4 w2
 have nS:∀k:Int,(A.length:Int)≤k→¬S k:=fun k hk hs=>by have:=h.s_lt hs; omega
 have w3:Way1 S A (sh b::sh b::List.replicate (1 - 1) (dupS a.level)) (dupX S x y A.length 1) (A++[newA b.kind b.level b.value b.data b.ports.length] ++[newA b.kind b.level b.value b.data b.ports.length]) (B++[newA b.kind b.level b.value b.data b.ports.length] ++[newA b.kind b.level b.value b.data b.ports.length]):=by
  refine w2.mono (fun p q hq=>?_) fun p hs=>.inl hs
  have hlt:=Dy hq
  simp only [List.length_append,List.length_singleton] at hlt
  have hs0:0≤p.slot:=by
   obtain⟨a,h1,h2⟩:=AZ.1 hq
   exact(Bk h2).1
  grind [dupX,A5]
 obtain⟨P,hP⟩:∃P,b.ports.length=P+1:=⟨b.ports.length - 1,by omega⟩
 obtain⟨L1,B1,m1,m2,r1,r2,w4⟩:=bI (fun k hk=>h.s_lt hk) hp hA hb ((A.length:Int),⟨B++[newA b.kind b.level b.value b.data b.ports.length]⟩) (((A.length+1:Nat):Int),⟨B++[newA b.kind b.level b.value b.data b.ports.length] ++[newA b.kind b.level b.value b.data b.ports.length]⟩) rfl (by rfl) P 1 fuel fuel _ _ (by omega) (by omega) (by rw [BG]; omega) (by rw [BG]; omega) w3
 obtain⟨v1,g1⟩:=w4.old hp.hx (s:=1) (by omega) (by omega)
 obtain⟨q1,g2⟩:=w4.new (k:=0) (s:=0) rfl (by omega) (by grind [sh])
 rw [Nat.add_zero] at g2
 obtain⟨L2,B2,f1,f2,w5⟩:=w4.move g1 g2 (fun h=>by
   unfold dupX at h
   simp only at h
   rcases h with h|h|h|h|h|h
   ·exact hp.sx h
   all_goals omega) (.inr (.inr (.inr (.inl ⟨rfl,.inl rfl⟩)))) (nS _ (by grind)) (Y:=fun p=>S p.agent∨(p.agent=x∧p.slot≤1)∨(p.agent=y∧p.slot=0)∨(p.agent=(A.length:Int)+1∧p.slot=0)∨((A.length:Int)+2≤p.agent∧p.slot=0)) (fun p q hq=>by
   have hs0:0≤p.slot:=by
    obtain⟨a,h1,h2⟩:=AZ.1 hq
    exact(Bk h2).1
   have hc1:p.agent=(A.length:Int)→p.slot<(b.ports.length:Int):=fun e=>by
    have:=Bx hq (x:=sh b) (by
     rw [w4.shp,e]
     have:=HV (l:=A.map sh) (m:=sh b::sh b::List.replicate (b.ports.length - 1) (dupS a.level)) (k:=0) rfl
     rwa [List.length_map,Nat.add_zero] at this)
    grind [sh]
   have hc2:p.agent=(A.length:Int)+1→p.slot<(b.ports.length:Int):=fun e=>by
    have:=Bx hq (x:=sh b) (by
     rw [w4.shp,e]
     have:=HV (l:=A.map sh) (m:=sh b::sh b::List.replicate (b.ports.length - 1) (dupS a.level)) (k:=1) rfl
     rwa [List.length_map] at this)
    grind [sh]
   grind [dupX,A5]) fun p hs=>.inl hs
 obtain⟨v2,g3⟩:=w5.old hp.hx (s:=2) (by omega) (by omega)
 obtain⟨q2,g4⟩:=w5.new (k:=1) (s:=0) rfl (by omega) (by grind [sh])
 obtain⟨L3,B3,f3,f4,w6⟩:=w5.move g3 g4 (fun h=>by
   simp only at h
   rcases h with h|h|h|h|h
   ·exact hp.sx h
   all_goals omega) (.inr (.inr (.inr (.inl ⟨by rfl,rfl⟩)))) (nS _ (by grind)) (Y:=Yk S x y A.length 0) (fun p q hq=>by
   have hs0:0≤p.slot:=by
    obtain⟨a,h1,h2⟩:=AZ.1 hq
    exact(Bk h2).1
   have hx2:p.agent=x→p.slot<3:=fun e=>by
    have:=Bx hq (x:=sh a) (by rw [w5.shp,e]; exact DW (Fy hp.hx))
    grind [sh]
   grind [Yk,A5]) fun p hs=>.inl hs
 rw [show b.ports.length - 1=P from by omega] at w6
 obtain⟨A4,B4,t1,t2,t3⟩:=bJ (fun k hk=>h.s_lt hk) hp hne hA P hP (by omega) (((A.length+1:Nat):Int),⟨B++[newA b.kind b.level b.value b.data b.ports.length] ++[newA b.kind b.level b.value b.data b.ports.length]⟩) (by rfl) P 0 fuel fuel _ _ (by omega) (by rw [BG]; omega) (by rw [BG]; omega) w6
 refine⟨A4,B4,_,fun bk r=>?_,?_,t3,⟨fun n hn=>?_,by grind⟩,fun n hn=>?_,by grind⟩
 ·unfold DE
  rw [hp.hy,AA,e1,AA,e3,AA]
  grind [As]
 ·unfold Fk
  rw [hp.bx h,AA,hp.bY h,AA,LZ b (by grind) (by grind),AA,e2,AA,e4,AA]
  rw [Int.natCast_one] at r2
  rw [r2,Bo,if_neg (by simp)]
  simp_all [Cq]
 ·rcases List.mem_cons.1 hn with e|e
  ·subst e; exact⟨by grind [sh],by grind [sh],hbk⟩
  ·rcases List.mem_cons.1 e with e|e
   ·subst e; exact⟨by grind [sh],by grind [sh],hbk⟩
   ·rw [(List.mem_replicate.1 e).2]; exact⟨by simp [dupS],by simp [dupS],by simp [dupS]⟩
 ·have hbb:(sh b).1 ≠1∧shB (sh b)=true:=⟨hkb,by rw [eX]; exact gb⟩
  rcases List.mem_cons.1 hn with e|e
  ·grind
  ·rcases List.mem_cons.1 e with e|e
   ·grind
   grind [dupS,shB,agB,ports,HT]
end
end Go.Proofs.YteckcjgpnegkjaaGreat.Ab
