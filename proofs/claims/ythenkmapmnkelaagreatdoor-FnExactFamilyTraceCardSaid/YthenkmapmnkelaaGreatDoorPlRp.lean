/- Nets that are rewritten. -/
import Derived.Test.YthenkmapmnkelaaGreatDoorModG
import Derived.Test.YthenkmapmnkelaaGreatDoorPlNet
namespace Go.Proofs.YthenkmapmnkelaaGreatDoor.Ab
set_option linter.unusedVariables false
set_option maxHeartbeats 1000000
set_option linter.unusedSimpArgs false
open Go.RowKit
theorem Co {p q:Port} (h1:p.agent=q.agent) (h2:p.slot=q.slot):p=q:=by cases p; simp_all
instance:DecidableEq Port:=fun p q=>if h:p.agent=q.agent∧p.slot=q.slot then isTrue (Co h.1 h.2) else isFalse fun e=>h ⟨by rw [e],by rw [e]⟩
theorem My {α:Type} {l:List α} {k:Nat} {x:α} (h:l[k]? =some x):at? l (k:Int)=some x:=by
 grind [at?]
theorem DN {α:Type} {l:List α} {i:Int} {x:α} (h:at? l i=some x):0≤i∧i<(l.length:Int):=by
 obtain⟨h1,h2⟩:=Au h
 grind
theorem XG {α:Type} {l:List α} {i j:Int} {x y:α} (h:at? l i=some x):at? (l.set i.toNat y) j=if j=i then some y else at? l j:=by
 grind [at?]
abbrev get (l:List Agent) (p:Port):Option Port:=Fu l p
theorem Aj {l} {p q}:get l p=some q↔∃a,at? l p.agent=some a∧at? a.ports p.slot=some q:=by
 grind [Fu,Option.bind_eq_some_iff]
def upd (l:List Agent) (p q:Port):List Agent:=match at? l p.agent with
 |some a=>l.set p.agent.toNat ⟨a.kind,a.level,a.value,a.data,a.ports.set p.slot.toNat q⟩
 |none=>l
theorem Lj {l} {p q} {a} (h:at? l p.agent=some a):upd l p q=l.set p.agent.toNat ⟨a.kind,a.level,a.value,a.data,a.ports.set p.slot.toNat q⟩:=by unfold upd; rw [h]
theorem ct {l} {p q}:(upd l p q).length =l.length:=by
 unfold upd; split <;> simp
theorem Oh {l:List Agent} {p q:Port} {a:Agent} (h:at? l p.agent=some a) {k:Int}:at? (upd l p q) k=if k=p.agent then some ⟨a.kind,a.level,a.value,a.data,a.ports.set p.slot.toNat q⟩ else at? l k:=by
 rw [Lj h,XG h]
theorem P5 {l:List Agent} {p q r:Port} {v:Port} (h:get l p=some v):get (upd l p q) r=if r=p then some q else get l r:=by
 obtain⟨a,h1,h2⟩:=Aj.1 h
 unfold get Fu
 rw [Oh h1]
 grind [XG,Co]
def sh (a:Agent):Int × Int × Int × List Int × Nat:=(a.kind,a.level,a.value,a.data,a.ports.length)
theorem ir {l} {p q}:(upd l p q).map sh=l.map sh:=by
 unfold upd
 split
 ·rename_i a h
  obtain⟨h1,h2⟩:=Au h
  rw [List.map_set]
  have:sh ⟨a.kind,a.level,a.value,a.data,a.ports.set p.slot.toNat q⟩=sh a:=by simp [sh]
  rw [this]
  refine List.ext_getElem? fun i=>?_
  rw [List.getElem?_set]
  grind
 ·rfl
def lk (l:List Agent) (p q:Port):List Agent:=upd (upd l p q) q p
theorem Oi {l} {p q}:(lk l p q).length =l.length:=by unfold lk; rw [ct,ct]
theorem ZF {l} {p q}:(lk l p q).map sh=l.map sh:=by unfold lk; rw [ir,ir]
theorem XH {l} {p q r u v} (hp:get l p=some u) (hq:get l q=some v):get (lk l p q) r=if r=q then some p else if r=p then some q else get l r:=by
 grind [lk,P5]
theorem H5 {l} {p q u v} (hp:get l p=some u) (hq:get l q=some v):s_l11Link ⟨l⟩ p q=some ⟨lk l p q⟩:=by
 obtain⟨a,h1,h2⟩:=Aj.1 hp
 have h3:∃C,get (upd l p q) q=some C:=by
  rw [P5 hp]; grind
 obtain⟨C,h3⟩:=h3
 obtain⟨b,j,F⟩:=Aj.1 h3
 unfold s_l11Link Br aV
 simp only
 rw [h1,AA,h2,AA,AA,AA,← Lj h1,j,AA,F,AA,AA,AA,← Lj j]
 rfl
theorem K3 (n:Net) (p q:Port):CV n p q=s_l11Link n p q:=rfl
theorem M6 {l:List Agent} {p q a b u v:Port} (hne:p≠q) (hp:get l p=some u) (hq:get l q=some v):upd (upd l p a) q b=upd (upd l q b) p a:=by
 obtain⟨x,h1,h2⟩:=Aj.1 hp
 obtain⟨y,h3,F⟩:=Aj.1 hq
 obtain⟨I,-⟩:=Au h1
 obtain⟨O,-⟩:=Au h3
 obtain⟨J,-⟩:=Au h2
 obtain⟨G,-⟩:=Au F
 by_cases e:q.agent=p.agent
 ·have j:y=x:=by rw [e,h1] at h3; grind
  subst j
  have hs:p.slot≠q.slot:=fun C=>hne (Co e.symm C)
  have k1:at? (upd l p a) q.agent=some ⟨y.kind,y.level,y.value,y.data,y.ports.set p.slot.toNat a⟩:=by rw [Oh h1,if_pos e]
  have k2:at? (upd l q b) p.agent=some ⟨y.kind,y.level,y.value,y.data,y.ports.set q.slot.toNat b⟩:=by rw [Oh h3,if_pos e.symm]
  rw [Lj k1,Lj k2,Lj h1,Lj h3,e,List.set_set,List.set_set]
  simp only
  rw [List.set_comm _ _ (by omega)]
 grind [upd,Oh,List.set_comm]
theorem XI {l} {p q u v} (hp:get l p=some u) (hq:get l q=some v):lk l p q=lk l q p:=by
 by_cases e:p=q
 ·grind
 ·exact M6 e hp hq
theorem P6 {l} {p q} (h:get l p=some q):Gw ⟨l⟩ p=some q:=by
 grind [Aj,Gw]
theorem UL (n:Net) (p:Port):Bf n p=Gw n p:=rfl
def mv (l:List Agent) (old now:Port):List Agent:=match get l old with
 |some v=>lk l now v
 |none=>l
theorem lW {l} {o n v u u'} (ho:get l o=some v) (hv:get l v=some u) (hn:get l n=some u'):B0 ⟨l⟩ o n=some ⟨mv l o n⟩:=by
 grind [B0,mv,P6,H5]
theorem XJ {l} {b} {r} {o n v u u'} (ho:get l o=some v) (hv:get l v=some u) (hn:get l n=some u'):AR ⟨⟨l⟩,b,r⟩ o n=some ⟨⟨mv l o n⟩,b,r⟩:=by
 unfold AR mv
 simp only
 rw [UL,P6 ho,AA,K3,H5 hv hn,AA,ho,XI hv hn]
def jn (l:List Agent) (p q:Port):List Agent:=match get l p,get l q with
 |some a,some b=>if a=q then l else lk l a b
 |_,_=>l
theorem ZG (a q:Port):(decide (a.agent=q.agent)&&decide (a.slot=q.slot))=decide (a=q):=by
 grind [Co]
theorem lX {l} {p q a b u v} (hp:get l p=some a) (hq:get l q=some b) (ha:get l a=some u) (hb:get l b=some v):GI ⟨l⟩ p q=some ⟨jn l p q⟩:=by
 grind [GI,jn,P6,ZG,H5]
theorem it {l} {bk} {r} {p q a b u v} (hp:get l p=some a) (hq:get l q=some b) (ha:get l a=some u) (hb:get l b=some v):CI ⟨⟨l⟩,bk,r⟩ p q=some ⟨⟨jn l p q⟩,bk,r⟩:=by
 grind [CI,jn,UL,P6,ZG,K3,H5]
def M (l:List Agent) (X:Port→Prop):Prop:=∀p q,get l p=some q→¬X p→¬X q∧q≠p∧get l q=some p
theorem M.mono {l} {X Y} (h:M l X) (hxy:∀p,X p↔Y p):M l Y:=fun p q hp hx=>by
 obtain⟨h1,h2,h3⟩:=h p q hp fun h=>hx ((hxy p).1 h)
 grind
theorem M.drop {l} {X} (h:M l X) {p q} (hp:get l p=some q) (hx:¬X p):M l fun r=>X r∨r=p∨r=q:=fun r s j u=>by
 obtain⟨h1,h2,h3⟩:=h r s j fun h=>u (.inl h)
 obtain⟨k1,k2,k3⟩:=h p q hp hx
 grind
theorem J8 {l} {p q r u v} (hp:get l p=some u) (hq:get l q=some v) (h1:r≠p) (h2:r≠q):get (lk l p q) r=get l r:=by rw [XH hp hq,if_neg h2,if_neg h1]
theorem M.link {l} {X} (h:M l X) {p q u v} (hp:get l p=some u) (hq:get l q=some v) (hne:p≠q) (xp:X p) (xq:X q):M (lk l p q) fun r=>X r∧r≠p∧r≠q:=fun r s j F=>by
 rw [XH hp hq] at j
 by_cases e1:r=q
 ·grind [XH]
 ·rw [if_neg e1] at j
  by_cases e2:r=p
  ·grind [XH]
  ·rw [if_neg e2] at j
   have C:¬X r:=fun h=>F ⟨h,e2,e1⟩
   obtain⟨h1,h2,h3⟩:=h r s j C
   have G:s≠p:=fun e=>h1 (e ▸ xp)
   grind [J8]
theorem M.move {l} {X} (h:M l X) {o n v u'} (ho:get l o=some v) (xo:¬X o) (hn:get l n=some u') (xn:X n):M (mv l o n) fun r=>(X r∨r=o)∧r≠n:=by
 obtain⟨k1,k2,k3⟩:=h o v ho xo
 have j:n≠v:=fun e=>k1 (e ▸ xn)
 have:=(h.drop ho xo).link hn k3 j (.inl xn) (.inr (.inr rfl))
 grind [mv]
theorem M.join {l} {X} (h:M l X) {p q a b} (hp:get l p=some a) (hq:get l q=some b) (xp:¬X p) (xq:¬X q) (hne:p≠q):M (jn l p q) fun r=>X r∨r=p∨r=q:=by
 obtain⟨k1,k2,k3⟩:=h p a hp xp
 obtain⟨G,F,v⟩:=h q b hq xq
 unfold jn
 rw [hp,hq]
 by_cases e:a=q
 ·subst e
  simp only [if_pos rfl]
  exact h.drop hp xp
 ·simp only [if_neg e]
  have u:a≠b:=fun C=>by rw [C,v] at k3; grind
  have j:¬ (X q∨q=p∨q=a):=fun hx=>by
   grind
  have h2:=((h.drop hp xp).drop hq j).link k3 v u (.inl (.inr (.inr rfl))) (.inr (.inr rfl))
  grind
theorem Aw {p:Port} {a s:Int}:p=⟨a,s⟩↔p.agent=a∧p.slot=s:=⟨fun h=>by grind,fun h=>Co h.1 h.2⟩
def iu:Agent:=⟨0,0,0,[],[]⟩
structure Ok (S:Int→Prop) (X:Port→Prop) (A B:List Agent):Prop where
 len:A.length=B.length
 ag:∀k,¬S k→at? A k=at? B k
 hl:∀k,S k→at? B k=some iu
 m:M A X
 sx:∀p,S p.agent→X p
section
variable {S:Int→Prop} {X:Port→Prop} {A B:List Agent}
theorem Ok.mono {Y} (h:Ok S X A B) (hxy:∀p,X p↔Y p):Ok S Y A B:=⟨h.len,h.ag,h.hl,h.m.mono hxy,fun p hp=>(hxy p).1 (h.sx p hp)⟩
theorem Ok.get (h:Ok S X A B) {p} (hp:¬S p.agent):get B p=get A p:=by
 unfold Ab.get Fu; rw [h.ag _ hp]
theorem Ok.live (h:Ok S X A B) {p} (hp:¬X p):¬S p.agent:=fun hs=>hp (h.sx p hs)
theorem Ok.s_lt (h:Ok S X A B) {k} (hk:S k):0≤k∧k<(A.length:Int):=by
 have:=DN (h.hl k hk); rw [h.len]; omega
theorem sA {l} {p q u v} (hp:Ab.get l p=some u) (hq:Ab.get l q=some v) {k} (h1:k≠p.agent) (h2:k≠q.agent):at? (lk l p q) k=at? l k:=by
 unfold lk
 have j:∃C,Ab.get (upd l p q) q=some C:=by
  rw [P5 hp]; grind
 obtain⟨C,h3⟩:=j
 obtain⟨a,F,-⟩:=Aj.1 hp
 obtain⟨b,G,-⟩:=Aj.1 h3
 rw [Oh G,if_neg h2,Oh F,if_neg h1]
theorem iw {A B} {p q} {k} (hp:at? A p.agent=at? B p.agent) (hk:at? A k=at? B k):at? (upd A p q) k=at? (upd B p q) k:=by
 grind [upd,Oh]
theorem lY {A B} {p q} {k} (hp:at? A p.agent=at? B p.agent) (hq:at? A q.agent=at? B q.agent) (hk:at? A k=at? B k):at? (lk A p q) k=at? (lk B p q) k:=by
 grind [lk,iw]
theorem Ok.lk' (h:Ok S X A B) {p q u v} (hp:Ab.get A p=some u) (hq:Ab.get A q=some v) (sp:¬S p.agent) (sq:¬S q.agent) {Y} (hm:M (lk A p q) Y) (hy:∀r,S r.agent→Y r):Ok S Y (lk A p q) (lk B p q):=by
 refine⟨by rw [Oi,Oi]; exact h.len,fun k hk=>lY (h.ag _ sp) (h.ag _ sq) (h.ag k hk),fun k hk=>?_,hm,hy⟩
 rw [sA ((h.get sp).trans hp) ((h.get sq).trans hq) (fun e=>sp (e ▸ hk)) (fun e=>sq (e ▸ hk))]
 exact h.hl k hk
theorem Ok.link (h:Ok S X A B) {p q u v} (hp:Ab.get A p=some u) (hq:Ab.get A q=some v) (hne:p≠q) (xp:X p) (xq:X q) (sp:¬S p.agent) (sq:¬S q.agent):
  CV ⟨A⟩ p q=some ⟨lk A p q⟩∧CV ⟨A⟩ q p=some ⟨lk A p q⟩∧s_l11Link ⟨B⟩ p q=some ⟨lk B p q⟩∧s_l11Link ⟨B⟩ q p=some ⟨lk B p q⟩∧Ok S (fun r=>X r∧r≠p∧r≠q) (lk A p q) (lk B p q):=by
 have j:=(h.get sp).trans hp
 have C:=(h.get sq).trans hq
 refine⟨by rw [K3,H5 hp hq],by rw [K3,H5 hq hp,XI hq hp],H5 j C,by rw [H5 C j,XI C j],h.lk' hp hq sp sq (h.m.link hp hq hne xp xq) fun r F=>⟨h.sx r F,fun e=>sp (e ▸ F),fun e=>sq (e ▸ F)⟩⟩
theorem Ok.move (h:Ok S X A B) {o n v u} (ho:Ab.get A o=some v) (xo:¬X o) (hn:Ab.get A n=some u) (xn:X n) (sn:¬S n.agent):
  (∀b r,AR ⟨⟨A⟩,b,r⟩ o n=some ⟨⟨mv A o n⟩,b,r⟩)∧B0 ⟨B⟩ o n=some ⟨mv B o n⟩∧Ok S (fun r=>(X r∨r=o)∧r≠n) (mv A o n) (mv B o n)∧(mv A o n).length =A.length∧(mv A o n).map sh=A.map sh:=by
 obtain⟨k1,k2,k3⟩:=h.m o v ho xo
 have J:=h.live xo
 have F:=h.live k1
 have hm:=h.m.move ho xo hn xn
 have j:=(h.get J).trans ho
 have p:=(h.get F).trans k3
 have q:=(h.get sn).trans hn
 refine⟨fun b r=>XJ ho k3 hn,lW j p q,?_,?_,?_⟩
 ·have G:mv A o n=lk A n v:=by unfold mv; rw [ho]
  have I:mv B o n=lk B n v:=by unfold mv; rw [j]
  rw [G] at hm ⊢
  rw [I]
  exact h.lk' hn k3 sn F hm fun r C=>⟨.inl (h.sx r C),fun e=>sn (e ▸ C)⟩
 ·grind [mv,Oi]
 grind [mv,ZF]
theorem Ok.join (h:Ok S X A B) {p q a b} (hp:Ab.get A p=some a) (hq:Ab.get A q=some b) (xp:¬X p) (xq:¬X q) (hne:p≠q):
  (∀bk r,CI ⟨⟨A⟩,bk,r⟩ p q=some ⟨⟨jn A p q⟩,bk,r⟩)∧GI ⟨B⟩ p q=some ⟨jn B p q⟩∧Ok S (fun r=>X r∨r=p∨r=q) (jn A p q) (jn B p q)∧(jn A p q).length =A.length∧(jn A p q).map sh=A.map sh:=by
 obtain⟨k1,k2,k3⟩:=h.m p a hp xp
 obtain⟨O,U,C⟩:=h.m q b hq xq
 have sp:=h.live xp
 have sq:=h.live xq
 have G:=h.live k1
 have F:=h.live O
 have hm:=h.m.join hp hq xp xq hne
 have u:=(h.get sp).trans hp
 have j:=(h.get sq).trans hq
 refine⟨fun bk r=>it hp hq k3 C,lX u j ((h.get G).trans k3) ((h.get F).trans C),?_,?_,?_⟩
 ·have I:jn A p q=if a=q then A else lk A a b:=by unfold jn; rw [hp,hq]
  have J:jn B p q=if a=q then B else lk B a b:=by unfold jn; rw [u,j]
  rw [I] at hm ⊢
  rw [J]
  by_cases e:a=q
  ·rw [if_pos e] at hm ⊢
   rw [if_pos e]
   exact⟨h.len,h.ag,h.hl,hm,fun r v=>.inl (h.sx r v)⟩
  ·rw [if_neg e] at hm ⊢
   rw [if_neg e]
   exact h.lk' k3 C G F hm fun r v=>.inl (h.sx r v)
 ·grind [jn,Oi]
 grind [jn,ZF]
theorem P7 {α:Type} {l:List α} {x:α} {k:Int}:at? (l++[x]) k=if k=(l.length:Int) then some x else at? l k:=by
 grind [at?]
theorem K4 {l:List Agent} {x:Agent} {p:Port}:Ab.get (l++[x]) p=if p.agent=(l.length:Int) then at? x.ports p.slot else Ab.get l p:=by
 unfold Ab.get Fu
 rw [P7]
 split <;> rfl
def newA (k lv v:Int) (d:List Int) (n:Nat):Agent:=⟨k,lv,v,d,List.replicate n ⟨0,0⟩⟩
theorem Ok.add (h:Ok S X A B) (a:Agent):Ok S (fun p=>X p∨p.agent=(A.length:Int)) (A++[a]) (B++[a]):=by
 refine⟨by rw [List.length_append,List.length_append,h.len],fun k hk=>by rw [P7,P7,h.len,h.ag k hk],fun k hk=>?_,fun p q hp hx=>?_,fun p hp=>.inl (h.sx p hp)⟩
 ·have:=h.s_lt hk
  rw [P7,if_neg (by rw [← h.len]; omega)]; exact h.hl k hk
 ·have h1:p.agent≠(A.length:Int):=fun e=>hx (.inr e)
  rw [K4,if_neg h1] at hp
  obtain⟨k1,k2,k3⟩:=h.m p q hp fun e=>hx (.inl e)
  obtain⟨b,j,-⟩:=Aj.1 k3
  have:=DN j
  grind [K4]
theorem iy (d:List Int) (hd:d.length≤Big):FZ d=some d:=by
 grind [FZ,A8]
theorem WU (d:List Int) (hd:d.length≤Big):Ds d=some d:=by
 grind [Ds,A8]
theorem WV (d:List Port) (hd:d.length≤Big):Cu d=some d:=by
 grind [Cu,A8]
theorem cu (l:List Agent) (b:List Net) (r:List (Int × Bool)) (k lv v:Int) (d:List Int) (n:Nat) (hl:l.length+1≤Big) (hd:d.length≤Big) (hn:n≤Big):Af ⟨⟨l⟩,b,r⟩ k lv v d (n:Int)=some ((l.length:Int),⟨⟨l++[newA k lv v d n]⟩,b,r⟩):=by
 unfold Af newA
 grind [WU,Q3,A8,w64]
theorem fE (net:Net) (k lv v:Int) (d:List Int) (hl:net.agents.length+1≤Big):∀ (n m:Nat) (acc:List Port),acc.length+n≤Big→n<m→E7 m net k lv v d acc (n:Int)=some ((net.agents.length:Int),⟨net.agents++[⟨k,lv,v,d,acc++List.replicate n ⟨0,0⟩⟩]⟩):=by
 intro n
 induction n with
 |zero=>
  intro m acc j hm
  obtain⟨m,rfl⟩:∃k,m=k+1:=⟨m - 1,by omega⟩
  rw [E7,if_neg (by simp),A8 (by omega),AA,List.length_append,List.length_singleton,w64 (by omega) (by grind)]
  simp
 |succ n ih=>
  intro m acc j hm
  obtain⟨m,rfl⟩:∃k,m=k+1:=⟨m - 1,by omega⟩
  rw [E7,if_pos (by simp),A8 (by grind),AA,w64 (by omega) (by grind),show (((n+1:Nat):Int) - 1)=(n:Int) from by omega,ih m _ (by grind) (by omega),List.append_assoc,List.replicate_succ]
  rfl
theorem lZ (l:List Agent) (k lv v:Int) (d:List Int) (n:Nat) (hl:l.length+1≤Big) (hd:d.length≤Big) (hn:n≤Big):Cn ⟨l⟩ k lv v d (n:Int)=some ((l.length:Int),⟨l++[newA k lv v d n]⟩):=by
 grind [Cn,newA,iy,fE,AY]
theorem Q6 {l} {k s} {x} (h:at? (l.map sh) k=some x) (h0:0≤s) (hs:s<(x.2.2.2.2 :Int)):∃u,Ab.get l ⟨k,s⟩=some u:=by
 obtain⟨h1,h2⟩:=Au h
 rw [List.getElem?_map] at h2
 cases ha:l[k.toNat]? with
 |none=>rw [ha] at h2; cases h2
 |some a=>
  rw [ha] at h2
  simp only [Option.map_some,Option.some.injEq] at h2
  subst h2
  obtain⟨u,j,-⟩:=EZ (l:=a.ports) (i:=s) ⟨h0,hs⟩
  grind [Aj,at?]
theorem Em {l} {k} {a} (h:at? l k=some a):at? (l.map sh) k=some (sh a):=by
 grind [at?]
theorem Pv {l} {k} {x} (h:at? (l.map sh) k=some x):∃a,at? l k=some a∧sh a=x:=by
 grind [at?]
end
def UM (k:Int):Bool:=decide (1≤k∧k≤12)&& !(decide (k=1)||decide (k=5)||decide (k=6))
theorem cw (k:Int):FD k=some (UM k):=by
 rcases kind_cases k with h|h|h|h|h|h|h|h|h|h|h|h|h
 all_goals first|(subst h; simp [FD,I5,UM,AA]; done)|skip
 have h2:¬ (1≤k∧k≤12):=by omega
 grind [FD,I5,UM]
theorem cy (k:Int):Ee k=some (UM k):=by
 rcases kind_cases k with h|h|h|h|h|h|h|h|h|h|h|h|h
 all_goals first|(subst h; simp [Ee,BF,UM]; done)|skip
 grind [Q5,Ee,BF,UM]
def iz (b k l:Int):Bool:=decide (0≤b∧b≤8)&&levB k l&&(decide (k=6)||decide (k=12)||(UM k&&decide (b<l)))
theorem lc (b k l:Int):HD b k l=some (iz b k l):=by
 have j:Hv b=some (decide (0≤b∧b≤8)):=by
  unfold Hv
  by_cases h:0≤b <;> simp [h]
 unfold HD iz
 rw [j,AA,J7,AA]
 grind [FV,cw]
theorem ld (b k l:Int):HJ b k l=some (iz b k l):=by
 unfold HJ iz
 rw [FT,AA,Nl,AA]
 grind [FY,FX,cy]
def ZH (k:Int):Bool:=decide (k=3)||decide (k=7)||decide (k=8)||decide (k=10)||decide (k=11)
theorem i1 (k:Int):HE k=some (ZH k):=by
 unfold HE ZH
 by_cases h3:k=3 <;> by_cases h7:k=7 <;> by_cases h8:k=8 <;> by_cases h10:k=10 <;> simp [h3,h7,h8,h10]
theorem i6 (k:Int):HK k=some (ZH k):=by
 unfold HK Ch ZH
 by_cases h3:k=3 <;> by_cases h7:k=7 <;> by_cases h8:k=8 <;> by_cases h10:k=10 <;> by_cases h11:k=11 <;> simp [h3,h7,h8,h10,h11]
def ru (k1 l1 k2 l2:Int):Int:=
 if k1=5 then 4 else if k1=4 then (if k2=4∧l1=l2 then 2 else if iz l1 k2 l2=true then 3 else 0)
 else if k1=2 then (if k2=3∧l1=l2 then 1 else 0) else if k1=6 then (if k2=7∨k2=8 then 5 else if k2=11 then 6 else 0)
 else if k1=9 then (if k2=10 then 6 else 0) else if k1=12 then (if ZH k2=true then 7 else 0) else 0
theorem i7 (k1 l1 k2 l2:Int):Iu k1 l1 k2 l2=some (ru k1 l1 k2 l2):=by
 grind [Iu,ru,HF,lc,HG,HH,i1]
theorem XK (k1 l1 k2 l2:Int):Gx k1 l1 k2 l2=some (ru k1 l1 k2 l2):=by
 grind [Gx,ru,HL,ld,HM,HN,i6]
def pcl (a b:Agent):Int:=if ru a.kind a.level b.kind b.level≠0 then ru a.kind a.level b.kind b.level else if ru b.kind b.level a.kind a.level≠0 then ru b.kind b.level a.kind a.level else 8
def pfi (a b:Agent):Int:=if ru a.kind a.level b.kind b.level≠0 then 1 else if ru b.kind b.level a.kind a.level≠0 then 2 else 0
structure Two (a b:Agent):Prop where
 la:levB a.kind a.level=true
 lb:levB b.kind b.level=true
 ra:a.kind≠1
 rb:b.kind≠1
theorem a6 {a b} (h:Two a b):Mq a.kind a.level b.kind b.level=some (pcl a b,pfi a b):=by
 unfold Mq F1 pcl pfi
 rw [J7,AA,J7,AA,i7,AA,i7,AA,h.la,h.lb]
 simp only [h.ra,h.rb,decide_false,Bool.false_eq_true,if_false,Bool.not_true]
 by_cases h1:ru a.kind a.level b.kind b.level=0 <;> by_cases h2:ru b.kind b.level a.kind a.level=0 <;> simp [h1,h2]
theorem ZI {a b} (h:Two a b):Ix a.kind a.level b.kind b.level=some true:=by
 unfold Ix
 rw [Nl,AA,Nl,AA,h.la,h.lb]
 simp [h.ra,h.rb]
theorem fF {a b} (h:Two a b):IK a.kind a.level b.kind b.level=some (pcl a b):=by
 unfold IK F4 pcl
 rw [ZI h,AA,XK,AA,XK,AA]
 by_cases h1:ru a.kind a.level b.kind b.level=0 <;> by_cases h2:ru b.kind b.level a.kind a.level=0 <;> simp [h1,h2]
theorem WQ {a b} (h:Two a b):GZ a.kind a.level b.kind b.level=some (pfi a b):=by
 unfold GZ pfi
 rw [ZI h,AA,XK,AA,XK,AA]
 by_cases h1:ru a.kind a.level b.kind b.level=0 <;> by_cases h2:ru b.kind b.level a.kind a.level=0 <;> simp [h1,h2]
def DT (x y:Agent):Bool:=decide (x.kind=9)&&decide (y.kind=10)&&decide ((y.data.length:Int)≤x.value)
def kcl (a b:Agent):Int:=if DT a b=true∨DT b a=true then 8 else pcl a b
theorem J6 {a b} (h:Two a b):Gk a b=some (kcl a b):=by
 grind [Gk,Fp,Fo,kcl,DT,fF]
theorem Two.symm {a b} (h:Two a b):Two b a:=⟨h.lb,h.la,h.rb,h.ra⟩
theorem R5 {l} {i j} {a b} (ha:at? l i=some a) (hb:at? l j=some b) (h:Two a b):∃sw,Fi ⟨l⟩ ⟨i,j⟩=some (kcl a b,sw)∧(kcl a b≠8→sw=decide (pfi a b=2)):=by
 have key:∀ (x y:Agent) (f:Int),(DT x y=true∨DT y x=true↔(pcl a b=6∧y.kind=10∧(y.data.length:Int)≤x.value))→(DT x y=true∨DT y x=true↔DT a b=true∨DT b a=true)→
   ∃sw,Dr (pcl a b,f) x.kind x.level x.value x.data x.ports y.kind y.level y.value y.data y.ports=some (kcl a b,sw)∧(kcl a b≠8→sw=decide (f=2)):=by
  intro x y f h1 h2
  unfold Dr Dq kcl
  by_cases p:DT a b=true∨DT b a=true
  ·simp_all
  ·have u:=fun h=>p (h2.1 (h1.2 h))
   rw [if_neg p]
   refine⟨decide (f=2),?_,fun _=>rfl⟩
   grind
 unfold Fi
 simp only
 rw [ha,AA,hb,AA,a6 h,AA]
 have C:DT a b=true→ru a.kind a.level b.kind b.level=6∧b.kind=10:=fun p=>by
  grind [DT,ru]
 have v:DT b a=true→ru b.kind b.level a.kind a.level=6∧ru a.kind a.level b.kind b.level=0∧a.kind=10:=fun p=>by
  simp_all [DT,ru]
 by_cases hf:pfi a b=2
 ·have q:ru a.kind a.level b.kind b.level=0∧ru b.kind b.level a.kind a.level≠0:=by
   unfold pfi at hf
   by_cases h1:ru a.kind a.level b.kind b.level=0 <;> by_cases h2:ru b.kind b.level a.kind a.level=0 <;> simp_all
  have hp:pcl a b=ru b.kind b.level a.kind a.level:=by simp [pcl,q]
  simp only [hf,decide_true,if_true]
  have:=key b a 2 ?_ (by rw [or_comm])
  ·grind
  grind [DT,ru]
 ·simp only [hf,decide_false,Bool.false_eq_true,if_false]
  have:=key a b (pfi a b) ?_ Iff.rfl
  ·grind
  ·constructor
   ·grind [DT,pcl,pfi]
   grind [ru,pcl,pfi,DT]
def grow (c n:Int):Int:=if c=1∨c=2 then (if n=0 then -2 else 0) else if c=3 then (if 0≤n∧n≤3 then n else 0) else if c=4 then (if 0≤n∧n≤3 then n - 2 else 0)
 else if c=5 then (if n=0 then -1 else 0) else if c=6 then (if 0≤n∧n≤3 then n - 1 else 0) else if c=7 then (if 2≤n∧n≤600 then n - 2 else 0) else 0
theorem a7 (c n:Int):∃e,Mr c n=some (grow c n,e):=by
 have u:∀p q j:Int,-10≤j→j≤10→0≤p→q≤1000→∃e,Dj n p q j=some (if p≤n∧n≤q then n+j else 0,e):=by
  intro p q j h1 h2 h3 v
  unfold Dj IF
  by_cases h5:n<p
  ·exact⟨2,by grind⟩
  ·by_cases h6:q<n
   ·exact⟨2,by grind⟩
   ·refine⟨0,?_⟩
    simp only [h5,h6,decide_false,Bool.false_eq_true,if_false]
    rw [if_pos ⟨by omega,by omega⟩,w64 (by omega) (by omega)]
 unfold Mr IG grow
 by_cases c1:c=1
 ·obtain⟨e,h⟩:=u 0 0 (-2) (by omega) (by omega) (by omega) (by omega)
  grind
 by_cases c2:c=2
 ·obtain⟨e,h⟩:=u 0 0 (-2) (by omega) (by omega) (by omega) (by omega)
  grind
 by_cases c3:c=3
 ·obtain⟨e,h⟩:=u 0 3 0 (by omega) (by omega) (by omega) (by omega)
  grind
 by_cases c4:c=4
 ·simp_all [Int.sub_eq_add_neg]
 by_cases c5:c=5
 ·obtain⟨e,h⟩:=u 0 0 (-1) (by omega) (by omega) (by omega) (by omega)
  grind
 by_cases c6:c=6
 ·simp_all [Int.sub_eq_add_neg]
 by_cases c7:c=7
 ·simp_all [Int.sub_eq_add_neg]
 simp_all
theorem a8 (c n:Int) (h0: -1000000000000≤n∧n≤1000000000000):∃e,Mw c n=some (grow c n,e):=by
 have q:∀p j v:Int,∃e,Dl n p j v=some (if p≤n∧n≤j then v else 0,e):=by
  intro p j v
  unfold Dl
  rw [FT,AA]
  by_cases h5:p≤n∧n≤j
  ·simp_all
  ·exact⟨2,by grind⟩
 have w1:IntKind.i64.wrap (n - 1)=n - 1:=w64 (by omega) (by omega)
 have u:IntKind.i64.wrap (n - 2)=n - 2:=w64 (by omega) (by omega)
 unfold Mw IL grow
 by_cases c1:c=1
 ·obtain⟨e,h⟩:=q 0 0 (-2)
  grind
 by_cases c2:c=2
 ·obtain⟨e,h⟩:=q 0 0 (-2)
  grind
 by_cases c3:c=3
 ·simp_all
 by_cases c4:c=4
 ·simp_all
 by_cases c5:c=5
 ·obtain⟨e,h⟩:=q 0 0 (-1)
  grind
 by_cases c6:c=6
 ·simp_all
 by_cases c7:c=7
 ·simp_all
 simp_all
abbrev Sh:=Int × Int × Int × List Int × Nat
theorem M.mono' {l} {X Y} (h:M l X) (hxy:∀p q,get l p=some q→(X p↔Y p)):M l Y:=fun p q hp hy=>by
 obtain⟨h1,h2,h3⟩:=h p q hp fun hx=>hy ((hxy p q hp).1 hx)
 grind
theorem Bw {l} {p q} {x} (h:get l p=some q) (hx:at? (l.map sh) p.agent=some x):0≤p.slot∧p.slot<(x.2.2.2.2 :Int):=by
 obtain⟨a,h1,h2⟩:=Aj.1 h
 rw [Em h1] at hx
 cases hx
 exact DN h2
theorem EF {l} {p q} (h:get l p=some q):0≤p.agent∧p.agent<(l.length:Int):=by
 obtain⟨a,h1,-⟩:=Aj.1 h
 exact DN h1
theorem Lc {l:List Agent} {l':List Sh} (h:l.map sh=l'):l.length=l'.length:=by rw [← h,List.length_map]
section
variable {S:Int→Prop} {X:Port→Prop} {A B:List Agent}
theorem Ok.mono' {Y} (h:Ok S X A B) (hxy:∀p q,Ab.get A p=some q→(X p↔Y p)) (hs:∀p,S p.agent→Y p):Ok S Y A B:=⟨h.len,h.ag,h.hl,h.m.mono' hxy,hs⟩
def Fr (A A':List Agent) (X:Port→Prop):Prop:=∀p q,Ab.get A p=some q→Ab.get A q=some p→¬X p→¬X q→Ab.get A' p=some q
theorem mL {p q a b r s} (hm:M A X) (hp:Ab.get A p=some a) (hq:Ab.get A q=some b) (xp:¬X p) (xq:¬X q) (hr:Ab.get A r=some s) (h1:s≠p) (h2:s≠q):Ab.get (jn A p q) r=some s:=by
 obtain⟨-,-,k3⟩:=hm p a hp xp
 obtain⟨-,-,j⟩:=hm q b hq xq
 unfold jn
 rw [hp,hq]
 simp only
 split
 ·exact hr
 ·rw [J8 k3 j (fun e=>by rw [e,k3] at hr; grind) (fun e=>by rw [e,j] at hr; grind)]
  exact hr
structure Pr (S:Int→Prop) (A:List Agent) (x y:Int) (a b:Agent):Prop where
 hx:at? A x=some a
 hy:at? A y=some b
 w:Ab.get A ⟨x,0⟩=some ⟨y,0⟩
 sx:¬S x
 sy:¬S y
structure Done (S:Int→Prop) (A:List Agent) (x y:Int) (new:List Sh) (A' B':List Agent):Prop where
 ok:Ok S (fun p=>S p.agent∨p.agent=x∨p.agent=y) A' B'
 shp:A'.map sh=A.map sh++new
 fr:Fr A A' fun p=>S p.agent∨p.agent=x∨p.agent=y
theorem Ok.start (h:Ok S (fun p=>S p.agent) A B) {x y} {a b} (hp:Pr S A x y a b):Ok S (fun p=>S p.agent∨p=⟨x,0⟩∨p=⟨y,0⟩) A B∧x≠y:=by
 refine⟨⟨h.len,h.ag,h.hl,h.m.drop hp.w hp.sx,fun p hs=>.inl hs⟩,fun e=>?_⟩
 obtain⟨-,h2,-⟩:=h.m _ _ hp.w hp.sx
 grind
theorem lf (h:Ok S (fun p=>S p.agent) A B) {x y} {a b} (hp:Pr S A x y a b) (ha:a.ports.length=3) (hb:b.ports.length=3):
  ∃A1 A2 B1 B2,(∀bk r,CI ⟨⟨A⟩,bk,r⟩ ⟨x,1⟩ ⟨y,1⟩=some ⟨⟨A1⟩,bk,r⟩)∧(∀bk r,CI ⟨⟨A1⟩,bk,r⟩ ⟨x,2⟩ ⟨y,2⟩=some ⟨⟨A2⟩,bk,r⟩)∧
   GI ⟨B⟩ ⟨x,1⟩ ⟨y,1⟩=some ⟨B1⟩∧GI ⟨B1⟩ ⟨x,2⟩ ⟨y,2⟩=some ⟨B2⟩∧Done S A x y [] A2 B2:=by
 obtain⟨h0,hne⟩:=h.start hp
 have u:=Em hp.hx
 have j:=Em hp.hy
 obtain⟨u1,I⟩:=Q6 u (s:=1) (by omega) (by grind [sh])
 obtain⟨v1,O⟩:=Q6 j (s:=1) (by omega) (by grind [sh])
 have U:∀s:Int,s≠0→¬ (S x∨(⟨x,s⟩:Port)=⟨x,0⟩∨(⟨x,s⟩:Port)=⟨y,0⟩):=fun s hs h=>by
  rcases h with h|h|h
  ·exact hp.sx h
  ·rw [Aw] at h; grind
  grind
 have J:∀s:Int,s≠0→¬ (S y∨(⟨y,s⟩:Port)=⟨x,0⟩∨(⟨y,s⟩:Port)=⟨y,0⟩):=fun s hs h=>by
  rcases h with h|h|h
  ·exact hp.sy h
  ·rw [Aw] at h; grind
  grind
 have v:∀s t:Int,(⟨x,s⟩:Port)≠⟨y,t⟩:=fun s t h=>by rw [Aw] at h; grind
 obtain⟨e1,e2,k1,-,k2⟩:=h0.join I O (U 1 (by omega)) (J 1 (by omega)) (v 1 1)
 obtain⟨u2,g3⟩:=Q6 (l:=jn A ⟨x,1⟩ ⟨y,1⟩) (k:=x) (s:=2) (by rw [k2]; exact u) (by omega) (by grind [sh])
 obtain⟨v2,W⟩:=Q6 (l:=jn A ⟨x,1⟩ ⟨y,1⟩) (k:=y) (s:=2) (by rw [k2]; exact j) (by omega) (by grind [sh])
 have C:∀z:Int,((z=x∧¬S x)∨(z=y∧¬S y))→¬ ((S z∨(⟨z,2⟩:Port)=⟨x,0⟩∨(⟨z,2⟩:Port)=⟨y,0⟩)∨(⟨z,2⟩:Port)=⟨x,1⟩∨(⟨z,2⟩:Port)=⟨y,1⟩):=fun z hz h=>by
  grind
 obtain⟨e3,e4,k3,-,k4⟩:=k1.join g3 W (C x (.inl ⟨rfl,hp.sx⟩)) (C y (.inr ⟨rfl,hp.sy⟩)) (v 2 2)
 refine⟨_,_,_,_,e1,e3,e2,e4,k3.mono' (fun p q Y=>?_) fun p hs=>.inl hs,by rw [k4,k2,List.append_nil],fun p q G hp2 n1 n2=>?_⟩
 rotate_left
 ·have F:∀z s:Int,(z=x∨z=y)→q≠⟨z,s⟩:=fun z s hz e=>n2 (by
   rw [Aw] at e
   omega)
  exact mL k1.m g3 W (C x (.inl ⟨rfl,hp.sx⟩)) (C y (.inr ⟨rfl,hp.sy⟩)) (mL h0.m I O (U 1 (by omega)) (J 1 (by omega)) G (F x 1 (.inl rfl)) (F y 1 (.inr rfl))) (F x 2 (.inl rfl)) (F y 2 (.inr rfl))
 simp only [Aw]
 have hs:p.agent=x∨p.agent=y→0≤p.slot∧p.slot<3:=fun e=>by
  rcases e with e|e
  ·have:=Bw Y (by rw [k4,k2,e]; exact u); grind [sh]
  ·have:=Bw Y (by rw [k4,k2,e]; exact j); grind [sh]
 grind
structure Way1 (S:Int→Prop) (A:List Agent) (new:List Sh) (X:Port→Prop) (A' B':List Agent):Prop where
 ok:Ok S X A' B'
 shp:A'.map sh=A.map sh++new
 fr:Fr A A' X
theorem Way1.len {new:List Sh} {A' B':List Agent} (h:Way1 S A new X A' B'):A'.length=A.length+new.length:=by
 rw [Lc h.shp,List.length_append,List.length_map]
theorem Cc {α:Type} {l m:List α} {k:Int} {x:α} (h:at? l k=some x):at? (l++m) k=some x:=by
 grind [at?]
theorem Gd {α:Type} {l m:List α} {k:Nat} {x:α} (h:m[k]? =some x):at? (l++m) ((l.length+k:Nat):Int)=some x:=by
 grind [at?]
theorem Way1.old {new:List Sh} {A' B':List Agent} (h:Way1 S A new X A' B') {k:Int} {a:Agent} (ha:at? A k=some a) {s:Int} (h0:0≤s) (hs:s<(a.ports.length:Int)):∃u,Ab.get A' ⟨k,s⟩=some u:=
 Q6 (x:=sh a) (by rw [h.shp]; exact Cc (Em ha)) h0 hs
theorem Way1.new {new:List Sh} {A' B':List Agent} (h:Way1 S A new X A' B') {k:Nat} {x:Sh} (ha:new[k]? =some x) {s:Int} (h0:0≤s) (hs:s<(x.2.2.2.2 :Int)):∃u,Ab.get A' ⟨((A.length+k:Nat):Int),s⟩=some u:=
 Q6 (x:=x) (by rw [h.shp]; have:=Gd (l:=A.map sh) ha; rwa [List.length_map] at this) h0 hs
theorem Way1.ex {new} {A' B'} (h:Way1 S A new X A' B') {p q} (hp:Ab.get A p=some q):∃u,Ab.get A' p=some u:=by
 obtain⟨a,h1,h2⟩:=Aj.1 hp
 have:=DN h2
 obtain⟨u,j⟩:=h.old h1 (s:=p.slot) this.1 this.2
 simp_all
theorem Way1.move {new} {A' B'} (h:Way1 S A new X A' B') {o n u u'} (ho:Ab.get A' o=some u) (hn:Ab.get A' n=some u') (xo:¬X o) (xn:X n) (sn:¬S n.agent) {Y} (hY:∀p q,Ab.get A' p=some q→((X p∨p=o)∧p≠n↔Y p)) (hs:∀p,S p.agent→Y p) (nn:(A.length:Int)≤n.agent:=by first|omega|(simp only; omega)):
  ∃A2 B2,(∀bk r,AR ⟨⟨A'⟩,bk,r⟩ o n=some ⟨⟨A2⟩,bk,r⟩)∧B0 ⟨B'⟩ o n=some ⟨B2⟩∧Way1 S A new Y A2 B2:=by
 obtain⟨e1,O,k1,k2,k3⟩:=h.ok.move ho xo hn xn sn
 have ex:∀p q,Ab.get (mv A' o n) p=some q→∃j,Ab.get A' p=some j:=fun p q G=>by
  obtain⟨a,h1,h2⟩:=Aj.1 G
  obtain⟨F,h3,h4⟩:=Pv (k3 ▸ Em h1)
  have U:F.ports.length=a.ports.length:=by grind [sh]
  have h6:=DN h2
  obtain⟨j,h7,-⟩:=EZ (l:=F.ports) (i:=p.slot) (by rw [U]; exact h6)
  grind [Aj]
 refine⟨_,_,e1,O,k1.mono' (fun p q G=>?_) hs,k3.trans h.shp,fun p q h1 h2 J n2=>?_⟩
 rotate_left
 ·have l1:=EF h1
  have l2:=EF h2
  obtain⟨p',C⟩:=h.ex h1
  obtain⟨j,v⟩:=h.ex h2
  have pn:p≠n:=fun e=>by rw [e] at l1; omega
  have qn:q≠n:=fun e=>by rw [e] at l2; omega
  have I:¬ (X p∨p=o):=fun e=>J ((hY p p' C).1 ⟨e,pn⟩)
  have W:¬ (X q∨q=o):=fun e=>n2 ((hY q j v).1 ⟨e,qn⟩)
  have g:=h.fr p q h1 h2 (fun e=>I (.inl e)) fun e=>W (.inl e)
  obtain⟨-,-,m3⟩:=h.ok.m o u ho xo
  grind [mv,J8]
 grind
theorem Way1.add {new} {A' B'} (h:Way1 S A new X A' B') (k lv v:Int) (d:List Int) (n:Nat) (hl:A'.length+1≤Big) (hd:d.length≤Big) (hn:n≤Big):
  (∀bk r,Af ⟨⟨A'⟩,bk,r⟩ k lv v d (n:Int)=some (((A.length+new.length:Nat):Int),⟨⟨A'++[newA k lv v d n]⟩,bk,r⟩))∧Cn ⟨B'⟩ k lv v d (n:Int)=some (((A.length+new.length:Nat):Int),⟨B'++[newA k lv v d n]⟩)∧
   Way1 S A (new++[(k,lv,v,d,n)]) (fun p=>X p∨p.agent=((A.length+new.length:Nat):Int)) (A'++[newA k lv v d n]) (B'++[newA k lv v d n]):=by
 have e:=h.len
 have j:=h.ok.len
 refine⟨fun bk r=>by rw [cu A' bk r k lv v d n hl hd hn,e],by rw [lZ B' k lv v d n (by omega) hd hn,← j,e],?_,?_,fun p q h1 h2 u C=>?_⟩
 ·have:=h.ok.add (newA k lv v d n)
  rw [e] at this; omega
 ·rw [List.map_append,h.shp,List.append_assoc]
  simp [sh,newA]
 ·have g:=h.fr p q h1 h2 (fun e=>u (.inl e)) fun e=>C (.inl e)
  grind [K4]
theorem Way1.link {new} {A' B'} (h:Way1 S A new X A' B') {p q u v} (hp:Ab.get A' p=some u) (hq:Ab.get A' q=some v) (hne:p≠q) (xp:X p) (xq:X q) (sp:¬S p.agent) (sq:¬S q.agent) (np:(A.length:Int)≤p.agent:=by first|omega|(simp only; omega)) (nq:(A.length:Int)≤q.agent:=by first|omega|(simp only; omega)):
  ∃A2 B2,CV ⟨A'⟩ p q=some ⟨A2⟩∧CV ⟨A'⟩ q p=some ⟨A2⟩∧s_l11Link ⟨B'⟩ p q=some ⟨B2⟩∧s_l11Link ⟨B'⟩ q p=some ⟨B2⟩∧Way1 S A new (fun r=>X r∧r≠p∧r≠q) A2 B2:=by
 obtain⟨I,U,Y,W,k⟩:=h.ok.link hp hq hne xp xq sp sq
 refine⟨_,_,I,U,Y,W,k,by rw [ZF]; exact h.shp,fun r s h1 h2 J O=>?_⟩
 have l1:=EF h1
 have l2:=EF h2
 have F:r≠p:=fun e=>by rw [e] at l1; omega
 have G:r≠q:=fun e=>by rw [e] at l1; omega
 have j:s≠p:=fun e=>by rw [e] at l2; omega
 have C:s≠q:=fun e=>by rw [e] at l2; omega
 rw [J8 hp hq F G]
 exact h.fr r s h1 h2 (fun e=>J ⟨e,F,G⟩) fun e=>O ⟨e,j,C⟩
theorem Way1.mono {new} {A' B'} (h:Way1 S A new X A' B') {Y} (hY:∀p q,Ab.get A' p=some q→(X p↔Y p)) (hs:∀p,S p.agent→Y p):Way1 S A new Y A' B':=⟨h.ok.mono' hY hs,h.shp,fun p q h1 h2 C F=>by
 obtain⟨G,u⟩:=h.ex h1
 obtain⟨v,j⟩:=h.ex h2
 exact h.fr p q h1 h2 (fun e=>C ((hY p G u).1 e)) fun e=>F ((hY q v j).1 e)⟩
theorem Way1.done {new} {A' B'} (h:Way1 S A new X A' B') {x y} (hY:∀p q,Ab.get A' p=some q→(X p↔S p.agent∨p.agent=x∨p.agent=y)):Done S A x y new A' B':=
 have w:=h.mono hY fun p hs=>.inl hs
 ⟨w.ok,w.shp,w.fr⟩
theorem Fr.refl:Fr A A X:=fun p q h _ _ _=>h
end
section
variable {S:Int→Prop} {A B:List Agent}
theorem DI (a s:Int):AZ a s=some ⟨a,s⟩:=rfl
def Jb:Sh:=(5,0,0,[],1)
theorem bA {x y} {a b} (hp:Pr S A x y a b) (hne:x≠y) (ha:a.ports.length=1) (hbb:b.ports.length≤100) (hA:A.length≤8000000) (a0:Rewriter) (v:Int × Int × Int × Int) (hv:v.2.2.1 =y) (r:List (Int × Bool)) (z:Int × Int) (hz:z.2 =y) (c:Int):
  ∀ (k i m:Nat) (C G:List Agent),i+k=b.ports.length→1≤i→k<m→Way1 S A (List.replicate (i - 1) Jb) (fun p=>S p.agent∨p.agent=x∨(p.agent=y∧p.slot<(i:Int))) C G→
   ∃I J U,Ag m a0 v r C (i:Int)=Ag (U+1) a0 v r I (b.ports.length:Int)∧Ef m z c b G (i:Int)=Ef (U+1) z c b J (b.ports.length:Int)∧
    Way1 S A (List.replicate (b.ports.length - 1) Jb) (fun p=>S p.agent∨p.agent=x∨(p.agent=y∧p.slot<(b.ports.length:Int))) I J:=by
 intro k
 induction k with
 |zero=>
  intro i m C G h h1 hm j
  obtain⟨m,rfl⟩:∃q,m=q+1:=⟨m - 1,by omega⟩
  have:i=b.ports.length:=by omega
  subst this
  grind
 | succ k ih=>
  intro i m C G h h1 hm j
  obtain⟨m,rfl⟩:∃q,m=q+1:=⟨m - 1,by omega⟩
  have F:=j.len
  rw [List.length_replicate] at F
  obtain⟨e1,e2,w1⟩:=j.add 5 0 0 [] 1 (by grind) (by simp) (by grind)
  rw [List.length_replicate] at e1 e2 w1
  have O:at? (C.map sh) y=some (sh b):=by rw [j.shp]; exact Cc (Em hp.hy)
  obtain⟨b',hb',hbs⟩:=Pv O
  have hbl:b'.ports.length=b.ports.length:=by grind [sh]
  have hyl:=DN hp.hy
  have hxl:=DN hp.hx
  obtain⟨u,W⟩:=w1.old hp.hy (s:=(i:Int)) (by omega) (by omega)
  obtain⟨u',g2⟩:=w1.new (k:=i - 1) (x:=Jb) (s:=0) (by
   rw [List.getElem?_append_right (by simp),List.length_replicate,Nat.sub_self]; rfl) (by omega) (by simp [Jb])
  obtain⟨I,J,e3,e4,w2⟩:=w1.move W g2 (fun h=>by
    rcases h with (h|h|h)|h
    ·exact hp.sy h
    ·grind
    ·grind
    grind) (.inr rfl) (fun hs=>by
    have:=j.ok.s_lt hs
    grind) (Y:=fun p=>S p.agent∨p.agent=x∨(p.agent=y∧p.slot<((i+1:Nat):Int))) (fun p q hq=>by
    have hn:p.agent=((A.length+(i - 1):Nat):Int)→p.slot=0:=fun e=>by
     have:=Bw hq (x:=Jb) (by
      rw [w1.shp,e]
      have:=Gd (l:=A.map sh) (m:=List.replicate (i - 1) Jb++[Jb]) (k:=i - 1) (x:=Jb) (by rw [List.getElem?_append_right (by simp),List.length_replicate,Nat.sub_self]; rfl)
      rwa [List.length_map] at this)
     grind [Jb]
    have hsl:p.agent=((A.length+(i - 1):Nat):Int)→¬S p.agent:=fun e hs=>by
     have:=j.ok.s_lt hs
     omega
    grind [Aw]) fun p hs=>.inl hs
  obtain⟨A3,B3,U,k1,k2,k3⟩:=ih (i+1) m I J (by omega) (by omega) (by omega) (by
   rw [show i+1 - 1=(i - 1)+1 from by omega,List.replicate_succ']; exact w2)
  grind [Ag,w64,Ef,DI]
theorem i8 (h:Ok S (fun p=>S p.agent) A B) {x y} {a b} (hp:Pr S A x y a b) (ha:a.ports.length=1) (hb1:1≤b.ports.length) (hbb:b.ports.length≤100) (hA:A.length≤8000000) (a0:Rewriter) (v:Int × Int × Int × Int) (hv:v.2.2.1 =y) (r:List (Int × Bool)) (z:Int × Int) (hz:z.2 =y) (c:Int):
  ∃j C,Ag fuel a0 v r A 1=Ac a0 v r j∧Ef fuel z c b B 1=Cz z c C∧Done S A x y (List.replicate (b.ports.length - 1) Jb) j C:=by
 obtain⟨W,G⟩:=h.start hp
 have w0:Way1 S A (List.replicate (1 - 1) Jb) (fun p=>S p.agent∨p.agent=x∨(p.agent=y∧p.slot<((1:Nat):Int))) A B:=by
  refine⟨W.mono' (fun p q u=>?_) fun p hs=>.inl hs,by simp,.refl⟩
  have Y:p.agent=x→p.slot=0:=fun e=>by
   have:=Bw u (x:=sh a) (by rw [e]; exact Em hp.hx)
   grind [sh]
  have J:p.agent=y→0≤p.slot:=fun e=>(Bw u (x:=sh b) (by rw [e]; exact Em hp.hy)).1
  grind [Aw]
 obtain⟨j,C,m',k1,k2,k3⟩:=bA hp G ha hbb hA a0 v hv r z hz c (b.ports.length - 1) 1 fuel A B (by omega) (Nat.le_refl _) (by rw [AY]; omega) w0
 have F:at? (j.map sh) y=some (sh b):=by rw [k3.shp]; exact Cc (Em hp.hy)
 obtain⟨U,O,hbs⟩:=Pv F
 have I:U.ports.length=b.ports.length:=by grind [sh]
 refine⟨j,C,?_,?_,k3.done fun p q u=>?_⟩
 ·rw [Int.natCast_one] at k1
  rw [k1,Ag,hv,O,AA,I,if_neg (by simp)]
 ·rw [Int.natCast_one] at k2
  rw [k2,Ef,if_neg (by simp)]
 ·have J:p.agent=y→p.slot<(b.ports.length:Int):=fun e=>by
   have:=Bw u (x:=sh b) (by rw [e]; omega)
   grind [sh]
  grind
theorem Ok.start1 (h:Ok S (fun p=>S p.agent) A B) {x y} {a b} (hp:Pr S A x y a b) (ha:a.ports.length=1):Way1 S A [] (fun p=>S p.agent∨p.agent=x∨p=⟨y,0⟩) A B∧x≠y:=by
 obtain⟨u,j⟩:=h.start hp
 refine⟨⟨u.mono' (fun p q v=>?_) fun p hs=>.inl hs,by simp,.refl⟩,j⟩
 have C:p.agent=x→p.slot=0:=fun e=>by
  have:=Bw v (x:=sh a) (by rw [e]; exact Em hp.hx)
  grind [sh]
 grind [Aw]
theorem ZJ (h:Ok S (fun p=>S p.agent) A B) {x y} {a b} (hp:Pr S A x y a b) (ha:a.ports.length=1) (hb:b.ports.length=2) (hA:A.length≤8000000) (k lv v:Int) (d:List Int) (hd:d.length≤Big):
  ∃A1 j B1 C,(∀bk r,Af ⟨⟨A⟩,bk,r⟩ k lv v d 1=some ((A.length:Int),⟨⟨A1⟩,bk,r⟩))∧(∀bk r,AR ⟨⟨A1⟩,bk,r⟩ ⟨y,1⟩ ⟨(A.length:Int),0⟩=some ⟨⟨j⟩,bk,r⟩)∧
   Cn ⟨B⟩ k lv v d 1=some ((A.length:Int),⟨B1⟩)∧B0 ⟨B1⟩ ⟨y,1⟩ ⟨(A.length:Int),0⟩=some ⟨C⟩∧Done S A x y [(k,lv,v,d,1)] j C:=by
 obtain⟨w0,hne⟩:=h.start1 hp ha
 obtain⟨G,J,w1⟩:=w0.add k lv v d 1 (by grind) hd (by grind)
 simp only [List.length_nil,Nat.add_zero,List.nil_append,Int.natCast_one] at G J w1
 have hyl:=DN hp.hy
 have hxl:=DN hp.hx
 obtain⟨u,W⟩:=w1.old hp.hy (s:=1) (by omega) (by omega)
 obtain⟨u',O⟩:=w1.new (k:=0) (s:=0) rfl (by omega) (by simp)
 rw [Nat.add_zero] at O
 obtain⟨j,C,e3,e4,F⟩:=w1.move W O (fun h=>by
   simp only [Aw] at h
   rcases h with (h|h|h)|h
   ·exact hp.sy h
   ·omega
   ·omega
   ·omega) (.inr rfl) (fun hs=>by have:=h.s_lt hs; grind) (Y:=fun p=>S p.agent∨p.agent=x∨p.agent=y) (fun p q I=>by
   have hn:p.agent=(A.length:Int)→p.slot=0:=fun e=>by
    have:=Bw I (x:=(k,lv,v,d,1)) (by
     rw [w1.shp,e]
     have:=Gd (l:=A.map sh) (m:=[(k,lv,v,d,1)]) (k:=0) rfl
     rwa [List.length_map,Nat.add_zero] at this)
    grind
   have U:p.agent=y→p.slot=0∨p.slot=1:=fun e=>by
    have:=Bw I (x:=sh b) (by rw [w1.shp,e]; exact Cc (Em hp.hy))
    grind [sh]
   have hsl:p.agent=(A.length:Int)→¬S p.agent:=fun e hs=>by have:=h.s_lt hs; omega
   grind [Aw]) fun p hs=>.inl hs
 exact⟨_,j,_,C,G,e3,J,e4,F.ok,F.shp,F.fr⟩
theorem fG (h:Ok S (fun p=>S p.agent) A B) {x y} {a b} (hp:Pr S A x y a b) (ha:a.ports.length=1) (hb:b.ports.length=3) (hA:A.length≤8000000) (k lv v:Int) (d:List Int) (hd:d.length≤Big):
  ∃A1 I C B1 O G,(∀bk r,Af ⟨⟨A⟩,bk,r⟩ k lv v d 2=some ((A.length:Int),⟨⟨A1⟩,bk,r⟩))∧(∀bk r,AR ⟨⟨A1⟩,bk,r⟩ ⟨y,1⟩ ⟨(A.length:Int),0⟩=some ⟨⟨I⟩,bk,r⟩)∧(∀bk r,AR ⟨⟨I⟩,bk,r⟩ ⟨y,2⟩ ⟨(A.length:Int),1⟩=some ⟨⟨C⟩,bk,r⟩)∧
   Cn ⟨B⟩ k lv v d 2=some ((A.length:Int),⟨B1⟩)∧B0 ⟨B1⟩ ⟨y,1⟩ ⟨(A.length:Int),0⟩=some ⟨O⟩∧B0 ⟨O⟩ ⟨y,2⟩ ⟨(A.length:Int),1⟩=some ⟨G⟩∧Done S A x y [(k,lv,v,d,2)] C G:=by
 obtain⟨w0,hne⟩:=h.start1 hp ha
 obtain⟨e1,W,w1⟩:=w0.add k lv v d 2 (by grind) hd (by grind)
 simp only [List.length_nil,Nat.add_zero,List.nil_append] at e1 W w1
 have hyl:=DN hp.hy
 have hxl:=DN hp.hx
 have j:∀p:Port,p.agent=(A.length:Int)→¬S p.agent:=fun p e hs=>by have:=h.s_lt hs; omega
 obtain⟨u,g1⟩:=w1.old hp.hy (s:=1) (by omega) (by omega)
 obtain⟨u',g2⟩:=w1.new (k:=0) (s:=0) rfl (by omega) (by simp)
 rw [Nat.add_zero] at g2
 obtain⟨I,O,e3,e4,J⟩:=w1.move g1 g2 (fun h=>by
   simp only [Aw] at h
   rcases h with (h|h|h)|h
   ·exact hp.sy h
   ·omega
   ·omega
   ·omega) (.inr rfl) (j ⟨_,0⟩ rfl) (Y:=fun p=>S p.agent∨p.agent=x∨(p.agent=y∧p.slot≤1)∨p=⟨(A.length:Int),1⟩) (fun p q F=>by
   have hn:p.agent=(A.length:Int)→p.slot=0∨p.slot=1:=fun e=>by
    have:=Bw F (x:=(k,lv,v,d,2)) (by
     rw [w1.shp,e]
     have:=Gd (l:=A.map sh) (m:=[(k,lv,v,d,2)]) (k:=0) rfl
     rwa [List.length_map,Nat.add_zero] at this)
    grind
   have U:p.agent=y→p.slot=0∨p.slot=1∨p.slot=2:=fun e=>by
    have:=Bw F (x:=sh b) (by rw [w1.shp,e]; exact Cc (Em hp.hy))
    grind [sh]
   grind [Aw]) fun p hs=>.inl hs
 obtain⟨u2,g3⟩:=J.old hp.hy (s:=2) (by omega) (by omega)
 obtain⟨u3,g4⟩:=J.new (k:=0) (s:=1) rfl (by omega) (by simp)
 rw [Nat.add_zero] at g4
 obtain⟨C,G,e5,e6,w3⟩:=J.move g3 g4 (fun h=>by
   simp only [Aw] at h
   rcases h with h|h|h|h
   ·exact hp.sy h
   ·omega
   ·omega
   ·omega) (.inr (.inr (.inr rfl))) (j ⟨_,1⟩ rfl) (Y:=fun p=>S p.agent∨p.agent=x∨p.agent=y) (fun p q F=>by
   have U:p.agent=y→p.slot=0∨p.slot=1∨p.slot=2:=fun e=>by
    have:=Bw F (x:=sh b) (by rw [J.shp,e]; exact Cc (Em hp.hy))
    grind [sh]
   grind [Aw]) fun p hs=>.inl hs
 exact⟨_,I,C,_,O,G,e1,e3,e5,W,e4,e6,w3.ok,w3.shp,w3.fr⟩
end
theorem oF (x:Int):IntKind.i32.wrap (IntKind.u32.wrap (IntKind.u64.wrap x))=IntKind.i32.wrap x:=by
 have e:∀y,IntKind.i32.wrap y=if 2147483648≤y % 4294967296 then y % 4294967296 - 4294967296 else y % 4294967296:=fun y=>by
  simp [IntKind.wrap,IntKind.bits,IntKind.signed]
 have j:∀y,IntKind.u32.wrap y=y % 4294967296:=fun y=>by rfl
 have p:∀y,IntKind.u64.wrap y=y % 18446744073709551616:=fun y=>by rfl
 rw [e,e,j,p]
 have:x % 18446744073709551616 % 4294967296 % 4294967296=x % 4294967296:=by omega
 rw [this]
theorem jA (x:Int):Ga x=EP x:=by unfold Ga EP; rw [oF]
theorem jB (b:Bool):Kn b=H4 b:=rfl
theorem oG (o a b:Int):Ko o a b=GH o a b:=by
 grind [Ko,GH,jA,jB]
theorem ZL (b:Bool):H4 b=some (if b=true then 1 else 0):=by unfold H4; split <;> rfl
theorem jC (x:Int):∃y,EP x=some y:=⟨_,rfl⟩
theorem oH (o a b:Int):∃y,GH o a b=some y:=by
 unfold GH
 obtain⟨u,j⟩:=jC a
 grind [EP,nz?,ZL]
theorem J4 (a:Agent) (hd:a.data.length≤Big) (hp:a.ports.length≤Big):CE a=some a:=by
 simp_all [CE,iy,A8]
def NB (x:Sh):Prop:=x.2.2.2.1.length ≤4∧x.2.2.2.2 ≤4∧x.1 ≠0
def shB (x:Sh):Bool:=agB ⟨x.1,x.2.1,x.2.2.1,x.2.2.2.1,List.replicate x.2.2.2.2 ⟨0,0⟩⟩
theorem UG {a b} (h:sh a=sh b):agB a=agB b∧a.kind=b.kind:=by
 simp only [sh,Prod.mk.injEq] at h
 obtain⟨h1,h2,h3,j,p⟩:=h
 refine⟨?_,h1⟩
 unfold agB Gy
 rw [h1,h2,h3,j,p]
theorem ah (a:Agent):shB (sh a)=agB a:=(UG (by simp [sh])).1
def SV (new:List Sh):Prop:=∀n ∈ new,n.1 ≠1∧shB n=true
theorem Nm {a} (h:agB a=true):levB a.kind a.level=true∧Gy a=true∧0<a.ports.length∧ports a.kind (if a.kind=9 then (a.ports.length:Int) - 1 else 0)=(a.ports.length:Int):=by
 grind [agB]
theorem XL {k l m} (h:levB k l=true) (hk:k≠1∧k≠5∧k≠6) (hm:1≤m∧m≤12∧m≠1∧m≠5∧m≠6):levB m l=true:=by
 grind [levB]
theorem ZM {x y} (h:EP x=some y): -2147483648≤y∧y≤2147483647:=by
 grind [IntKind.wrap,IntKind.bits,IntKind.signed,EP]
theorem oI {o a b y} (h:GH o a b=some y): -2147483648≤y∧y≤2147483647:=by
 have p:∀ {c:Bool} {z:Int},H4 c=some z→ -2147483648≤z∧z≤2147483647:=fun {c z} hz=>by
  unfold H4 at hz
  split at hz <;> cases hz <;> omega
 have j:∀ {α β:Type} {x:Option α} {f:α→Option β} {r:β},Option.bind x f=some r→∃v,x=some v∧f v=some r:=fun {α β x f r} hx=>by
  cases x with
  |none=>cases hx
  |some v=>grind
 unfold GH at h
 obtain⟨u,-,h⟩:=j h
 obtain⟨v,-,h⟩:=j h
 repeat' split at h
 all_goals first
  |(obtain⟨z,hz,h⟩:=j h; cases h; first|exact ZM hz|exact p hz)
  |(obtain⟨z,-,h⟩:=j h; obtain⟨w,q,h⟩:=j h; cases h; exact ZM q)
  |(cases h; omega)
def NBs (new:List Sh):Prop:=(∀n ∈ new,NB n)∧new.length≤600
section
variable {S:Int→Prop} {X:Port→Prop} {A B:List Agent}
theorem Pr.bx (h:Ok S X A B) {x y} {a b} (hp:Pr S A x y a b):at? B x=some a:=(h.ag x hp.sx).symm.trans hp.hx
theorem Pr.bY (h:Ok S X A B) {x y} {a b} (hp:Pr S A x y a b):at? B y=some b:=(h.ag y hp.sy).symm.trans hp.hy
theorem bB (h:Ok S (fun p=>S p.agent) A B) {x y} {a b} (hp:Pr S A x y a b) (ga:agB a=true) (gb:agB b=true) (hka:a.kind=6) (ha:a.ports.length=1) (hk:(b.kind=7∧b.ports.length=3∧b.data.length=0)∨(b.kind=8∧b.ports.length=2∧b.data.length=1)) (hA:A.length≤8000000):
  ∃q C new,(∀bk r,Cw ⟨⟨A⟩,bk,r⟩ x y=some ⟨⟨q⟩,bk,r⟩)∧GJ ⟨B⟩ x y=some ⟨C⟩∧Done S A x y new q C∧NBs new∧SV new∧new.length=1:=by
 have G:b.data.length≤Big∧b.ports.length≤Big:=by grind
 rcases hk with ⟨k1,k2,k3⟩|⟨k1,k2,k3⟩
 ·obtain⟨A1,q,Y,W,C,B3,I,U,e3,O,f2,f3,d⟩:=fG h hp ha k2 hA 8 b.level b.value [a.value] (by grind)
  refine⟨Y,B3,_,fun bk r=>?_,?_,d,?_⟩
  ·unfold Cw
   rw [hp.hx,AA,hp.hy,AA,if_pos (by grind),I,AA,U,AA,e3,AA]
  ·unfold GJ
   rw [hp.bY h,AA,J4 b G.1 G.2,AA,hp.bx h,AA,if_neg (by grind),O,AA]
   simp_all [DI]
  ·refine⟨⟨fun n j=>?_,by simp⟩,fun n j=>?_,rfl⟩
   ·rw [List.mem_singleton] at j; subst j
    exact⟨by simp,by simp,by simp⟩
   ·rw [List.mem_singleton] at j; subst j
    have lb:=XL (m:=8) (Nm gb).1 (by omega) (by omega)
    simp_all [Gy,shB,agB,ports]
 ·obtain⟨J,F⟩:∃J,at? b.data 0=some J:=by
   obtain⟨u,hu,-⟩:=EZ (l:=b.data) (i:=0) (by omega)
   grind
  obtain⟨v,hv⟩:=oH b.value J a.value
  obtain⟨A1,q,W,C,I,U,O,f2,d⟩:=ZJ h hp ha k2 hA 6 0 v [] (by simp)
  refine⟨q,C,_,fun bk r=>?_,?_,d,?_⟩
  ·unfold Cw
   rw [hp.hx,AA,hp.hy,AA,if_neg (by grind),F,AA,hv,AA,I,AA,U,AA]
  ·unfold GJ
   rw [hp.bY h,AA,J4 b G.1 G.2,AA,hp.bx h,AA,if_pos (by grind),F,AA,oG,hv,AA,O,AA]
   grind [DI]
  ·refine⟨⟨fun n j=>?_,by simp⟩,fun n j=>?_,rfl⟩
   ·rw [List.mem_singleton] at j; subst j
    exact⟨by simp,by simp,by simp⟩
   grind [oI,shB,agB,Gy,levB]
theorem fH (h:Ok S (fun p=>S p.agent) A B) {x y} {a b} (hp:Pr S A x y a b) (gb:agB b=true) (ha:a.ports.length=1) (hka:a.kind=6) (hkb:b.kind=11) (hb:b.ports.length=2) (hd:b.data.length=2) (hA:A.length≤8000000):
  ∃C F new,(∀bk r,B7 ⟨⟨A⟩,bk,r⟩ x y=some ⟨⟨C⟩,bk,r⟩)∧E8 ⟨B⟩ x y=some ⟨F⟩∧Done S A x y new C F∧NBs new∧SV new∧new.length=1:=by
 have v:b.data.length≤Big∧b.ports.length≤Big:=by grind
 obtain⟨J,G,-⟩:=EZ (l:=b.data) (i:=0) (by omega)
 obtain⟨I,u,-⟩:=EZ (l:=b.data) (i:=1) (by omega)
 obtain⟨A1,C,O,F,W,e2,f1,f2,d⟩:=ZJ h hp ha hb hA 12 b.level (if a.value=0 then I else J) [] (by simp)
 refine⟨C,F,_,fun bk r=>?_,?_,d,?_⟩
 ·unfold B7
  rw [hp.hx,AA,hp.hy,AA,if_pos (by grind),ZL,AA]
  grind
 ·unfold E8 F7
  rw [hp.bY h,AA,J4 b v.1 v.2,AA,if_pos (by grind),u,AA,hp.bx h,AA]
  grind [DI]
 ·refine⟨⟨fun n j=>?_,by simp⟩,fun n j=>?_,rfl⟩
  ·rw [List.mem_singleton] at j; subst j
   exact⟨by simp,by simp,by simp⟩
  ·rw [List.mem_singleton] at j; subst j
   have U:=XL (m:=12) (Nm gb).1 (by omega) (by omega)
   have q:=(Nm gb).2.1
   unfold Gy at q
   rw [if_neg (by omega),if_neg (by omega),if_neg (by omega),if_neg (by omega),if_neg (by omega),if_neg (by omega),if_pos hkb] at q
   simp only [Bool.and_eq_true,decide_eq_true_eq,List.all_eq_true] at q
   have Y:=q.2 J (List.mem_of_getElem? (Au G).2)
   have m1:=q.2 I (List.mem_of_getElem? (Au u).2)
   grind [shB,agB,ports,Gy]
end
theorem cz {l} {p q u} {x} (h:Ab.get l p=some u):upd (l++[x]) p q=upd l p q++[x] :=by
 obtain⟨a,h1,-⟩:=Aj.1 h
 obtain⟨h2,h3⟩:=Au h1
 have v:=DN h1
 have j:at? (l++[x]) p.agent=some a:=by rw [P7,if_neg (by omega)]; exact h1
 rw [Lj h1,Lj j,List.set_append_left]
 omega
theorem oJ {l} {p q u v} {x} (hp:Ab.get l p=some u) (hq:Ab.get l q=some v):lk (l++[x]) p q=lk l p q++[x] :=by
 unfold lk
 have:∃w,Ab.get (upd l p q) q=some w:=by
  rw [P5 hp]; grind
 obtain⟨w,j⟩:=this
 rw [cz hp,cz j]
theorem GE {l} {p q r u v} (hp:Ab.get l p=some u) (hr:Ab.get l r=some v) (h:r≠p):Ab.get (upd l p q) r=some v:=by rw [P5 hp,if_neg h]; exact hr
theorem sB {l} {p q n v a b c d} (hp:Ab.get l p=some a) (hq:Ab.get l q=some b) (hn:Ab.get l n=some c) (hv:Ab.get l v=some d) (pq:p≠q) (nv:n≠v) (h1:p≠n) (h2:p≠v) (h3:q≠n) (h4:q≠v):lk (lk l p q) n v=lk (lk l n v) p q:=by
 unfold lk
 have J:=fun x=>GE (q:=x) hp hq pq.symm
 have F:=fun x=>GE (q:=x) hp hn h1.symm
 have O:=fun x=>GE (q:=x) hp hv h2.symm
 have j:=fun x=>GE (q:=x) hn hp h1
 have G:=fun x=>GE (q:=x) hn hq h3
 have u:=fun x=>GE (q:=x) hn hv nv.symm
 rw [M6 h3 (J q) (F q),M6 h1 hp hn]
 have C:Ab.get (upd (upd l n v) p q) q=some b:=GE (j v) (G v) pq.symm
 have I:Ab.get (upd (upd l n v) p q) v=some d:=GE (j v) (u v) h2.symm
 rw [M6 h4 C I,M6 h2 (j v) (u v)]
def If (lv:Int):Sh:=(3,lv,0,[],3)
def gro (lv:Int):Nat→Port→List Agent→List Agent
 |0,_,l=>l
 |k+1,top,l=>gro lv k ⟨(l.length:Int),2⟩ (lk (l++[newA 3 lv 0 [] 3]) ⟨(l.length:Int),0⟩ top)
def R6:Nat→Port→Nat→Port
 |0,top,_=>top
 |k+1,_,n=>R6 k ⟨(n:Int),2⟩ (n+1)
def Jc (n:Nat):Nat→List Int
 |0=>[]
 |k+1=>(n:Int)::Jc (n+1) k
theorem Nn (k:Nat):∀n,(Jc n k).length =k:=by
 induction k with
 |zero=>intro n; rfl
 |succ k ih=>intro n; rw [Jc,List.length_cons,ih]
theorem ZN (k:Nat):∀n j,j<k→(Jc n k)[j]? =some ((n+j:Nat):Int):=by
 induction k with
 |zero=>omega
 |succ k ih=>
  grind [Jc]
theorem M7 {l:List Agent} {k lv v:Int} {d:List Int} {n:Nat} {s:Int} (h0:0≤s) (hs:s<(n:Int)):Ab.get (l++[newA k lv v d n]) ⟨(l.length:Int),s⟩=some ⟨0,0⟩:=by
 rw [K4,if_pos rfl]
 unfold newA at?
 simp only
 rw [if_pos h0,List.getElem?_replicate,if_pos (by omega)]
theorem Lk {l} {x} {p u} (h:Ab.get l p=some u):Ab.get (l++[x]) p=some u:=by
 have:=EF h
 rw [K4,if_neg (by omega)]; exact h
theorem sC (a0:Rewriter) (x y:Int) (a b:Agent) (hf:a.ports.length≤5) (r:List (Int × Bool)):∀ (k i m:Nat) (j:Port) (l:List Agent) (p:List Int) (t:Port),i+k+1=a.ports.length→k<m→l.length+k≤16000000→p.length+k≤100→Ab.get l j=some t→
  BS m a0 x y a b r l j.agent j.slot p (i:Int)=BB fuel a0 x y (R6 k j l.length).agent (R6 k j l.length).slot (p++Jc l.length k) r (gro b.level k j l) 0:=by
 intro k
 induction k with
 |zero=>
  intro i m j l p t h hm J u v
  obtain⟨m,rfl⟩:∃q,m=q+1:=⟨m - 1,by omega⟩
  rw [BS,if_neg (by rw [w64 (by omega) (by omega)]; grind)]
  grind [R6,gro,Jc]
 | succ k ih=>
  intro i m j l p t h hm J u v
  obtain⟨m,rfl⟩:∃q,m=q+1:=⟨m - 1,by omega⟩
  rw [BS,if_pos (by rw [w64 (by omega) (by omega)]; grind)]
  have e:Af ⟨⟨l⟩,a0.book,r⟩ 3 b.level 0 [] 3=some ((l.length:Int),⟨⟨l++[newA 3 b.level 0 [] 3]⟩,a0.book,r⟩):=cu l a0.book r 3 b.level 0 [] 3 (by grind) (by simp) (by grind)
  have C:Ab.get (l++[newA 3 b.level 0 [] 3]) ⟨(l.length:Int),0⟩=some ⟨0,0⟩:=M7 (by omega) (by omega)
  have F:Ab.get (l++[newA 3 b.level 0 [] 3]) j=some t:=Lk v
  have I:Ab.get (l++[newA 3 b.level 0 [] 3]) ⟨(l.length:Int),2⟩=some ⟨0,0⟩:=M7 (by omega) (by omega)
  have O:=EF v
  have G:Ab.get (lk (l++[newA 3 b.level 0 [] 3]) ⟨(l.length:Int),0⟩ j) ⟨(l.length:Int),2⟩=some ⟨0,0⟩:=by
   rw [J8 C F (by simp) (fun e=>by grind)]; exact I
  rw [e,AA]
  simp only
  rw [K3,H5 C F,AA,A8 (by grind),AA]
  rw [w64 (by omega) (by omega),show ((i:Int)+1)=((i+1:Nat):Int) from by omega]
  have:=ih (i+1) m ⟨(l.length:Int),2⟩ (lk (l++[newA 3 b.level 0 [] 3]) ⟨(l.length:Int),0⟩ j) (p++[(l.length:Int)]) ⟨0,0⟩ (by omega) (by omega) (by rw [Oi]; grind) (by grind) G
  rw [Oi,List.length_append,List.length_singleton] at this
  grind [R6,gro,Jc]
theorem oK (lv:Int):∀ (r:Nat) (T:List Agent) (X:Port→Prop) (j t o v n u:Port),M T X→Ab.get T j=some t→X j→Ab.get T o=some v→¬X o→Ab.get T n=some u→X n→j≠n→
  Ab.get (gro lv r j T) o=some v∧Ab.get (gro lv r j T) v=some o∧Ab.get (gro lv r j T) n=some u∧mv (gro lv r j T) o n=gro lv r j (mv T o n):=by
 intro r
 induction r with
 |zero=>
  intro T X j t o v n u hm ht O ho I G Y F
  obtain⟨-,-,h3⟩:=hm o v ho I
  exact⟨ho,h3,G,rfl⟩
 | succ r ih=>
  intro T X j t o v n u hm ht O ho I G Y F
  obtain⟨h1,h2,h3⟩:=hm o v ho I
  have lt:=EF ht
  have lo:=EF ho
  have lv':=EF h3
  have ln:=EF G
  have J:Ab.get (T++[newA 3 lv 0 [] 3]) ⟨(T.length:Int),0⟩=some ⟨0,0⟩:=M7 (by omega) (by omega)
  have U:Ab.get (T++[newA 3 lv 0 [] 3]) j=some t:=Lk ht
  have g3:Ab.get (T++[newA 3 lv 0 [] 3]) ⟨(T.length:Int),2⟩=some ⟨0,0⟩:=M7 (by omega) (by omega)
  have C:∀ (p:Port) (s:Int),p.agent<(T.length:Int)→p≠⟨(T.length:Int),s⟩:=fun p s hp e=>by rw [Aw] at e; omega
  have ot:o≠j:=fun e=>I (e ▸ O)
  have vt:v≠j:=fun e=>h1 (e ▸ O)
  have nv:n≠v:=fun e=>h1 (e ▸ Y)
  have no:n≠o:=fun e=>I (e ▸ Y)
  have hM:M (lk (T++[newA 3 lv 0 [] 3]) ⟨(T.length:Int),0⟩ j) fun p=>(X p∨p.agent=(T.length:Int))∧p≠⟨(T.length:Int),0⟩∧p≠j:=by
   refine M.link (X:=fun p=>X p∨p.agent=(T.length:Int)) (fun p q hp hx=>?_) J U (C j 0 lt.2).symm (.inr rfl) (.inl O)
   have W:p.agent≠(T.length:Int):=fun e=>hx (.inr e)
   rw [K4,if_neg W] at hp
   obtain⟨k1,k2,k3⟩:=hm p q hp fun e=>hx (.inl e)
   have:=EF k3
   refine⟨fun hq=>?_,k2,Lk k3⟩
   grind
  have gg:∀ (p w:Port),p≠j→Ab.get T p=some w→Ab.get (lk (T++[newA 3 lv 0 [] 3]) ⟨(T.length:Int),0⟩ j) p=some w:=fun p w hpt hp=>by
   rw [J8 J U (C p 0 (EF hp).2) hpt]; exact Lk hp
  have g4:Ab.get (lk (T++[newA 3 lv 0 [] 3]) ⟨(T.length:Int),0⟩ j) ⟨(T.length:Int),2⟩=some ⟨0,0⟩:=by
   rw [J8 J U (by simp) (C j 2 lt.2).symm]; exact g3
  obtain⟨k1,k2,k3,k4⟩:=ih _ _ ⟨(T.length:Int),2⟩ _ o v n u hM g4 ⟨.inr rfl,by simp,(C j 2 lt.2).symm⟩ (gg o v ot ho)
   (fun e=>by
    grind) (gg n u F.symm G) ⟨.inl Y,C n 0 ln.2,F.symm⟩ (C n 2 ln.2).symm
  refine⟨k1,k2,k3,?_⟩
  have W:mv T o n=lk T n v:=by unfold mv; rw [ho]
  have e2:mv (lk (T++[newA 3 lv 0 [] 3]) ⟨(T.length:Int),0⟩ j) o n=lk (lk (T++[newA 3 lv 0 [] 3]) ⟨(T.length:Int),0⟩ j) n v:=by unfold mv; rw [gg o v ot ho]
  have e3:(mv T o n).length =T.length:=by rw [W,Oi]
  rw [gro,k4,gro,e3,e2,W,sB J U (Lk G) (Lk h3) (C j 0 lt.2).symm nv (C n 0 ln.2).symm (C v 0 lv'.2).symm F vt.symm,oJ G h3]
section
variable {S:Int→Prop} {A B:List Agent}
def conX (S:Int→Prop) (x y:Int) (j:Nat) (ta ts:Int) (p:Port):Prop:=S p.agent∨(p.agent=x∧p.slot≤(j:Int))∨(p.agent=y∧p.slot=0)∨(p.agent=ta∧p.slot=ts)
theorem jD (hS:∀k,S k→0≤k∧k<(A.length:Int)) {x y} {a b} (hp:Pr S A x y a b) (hne:x≠y) (hb:b.ports.length=2) (hA:A.length≤8000000) (K:Nat) (hK:a.ports.length=K+1) (hK5:K≤4) (c:Sh) (tf:Port):
  ∀ (r j m F:Nat) (L W:List Agent) (ta ts:Int) (t:Port),j+r=K→r<m→r<F→Way1 S A (c::List.replicate j (If b.level)) (conX S x y j ta ts) L W→Ab.get L ⟨ta,ts⟩=some t→(A.length:Int)≤ta→tf=R6 r ⟨ta,ts⟩ L.length→
   ∃I B2,(∀ (a0:Rewriter) rr,BB m a0 x y tf.agent tf.slot (Jc (A.length+1) K) rr (gro b.level r ⟨ta,ts⟩ L) (j:Int)=some ⟨⟨I⟩,a0.book,rr⟩)∧DF F x y b (K:Int) W ta ts ((j:Int)+1)=some ⟨B2⟩∧Done S A x y (c::List.replicate K (If b.level)) I B2:=by
 have hyl:=DN hp.hy
 have hxl:=DN hp.hx
 intro r
 induction r with
 | zero=>
  intro j m F L W ta ts t h hm hm' J ht hta O
  obtain⟨m,rfl⟩:∃q,m=q+1:=⟨m - 1,by omega⟩
  obtain⟨F,rfl⟩:∃q,F=q+1:=⟨F - 1,by omega⟩
  have hj:j=K:=by omega
  subst hj
  have tl:=EF ht
  simp only at tl
  obtain⟨u,g1⟩:=J.old hp.hy (s:=1) (by omega) (by omega)
  have nS:¬S ta:=fun hs=>by grind
  obtain⟨I,B2,e1,e2,w⟩:=J.move (o:=⟨y,1⟩) (n:=⟨ta,ts⟩) g1 ht (fun h=>by
    unfold conX at h
    simp only at h
    rcases h with h|h|h|h
    ·exact hp.sy h
    ·omega
    ·omega
    ·omega) (.inr (.inr (.inr ⟨rfl,rfl⟩))) nS (Y:=fun p=>S p.agent∨p.agent=x∨p.agent=y) (fun p q hq=>by
    have hx2:p.agent=x→p.slot≤(j:Int):=fun e=>by
     have:=Bw hq (x:=sh a) (by rw [J.shp,e]; exact Cc (Em hp.hx))
     grind [sh]
    have hy2:p.agent=y→p.slot=0∨p.slot=1:=fun e=>by
     have:=Bw hq (x:=sh b) (by rw [J.shp,e]; exact Cc (Em hp.hy))
     grind [sh]
    grind [conX,Aw]) fun p hs=>.inl hs
  refine⟨I,B2,fun a0 rr=>?_,?_,w.ok,w.shp,w.fr⟩
  ·rw [BB,if_neg (by rw [Nn]; simp),O]
   simp only [R6,gro]
   rw [e1,AA]
  grind [DF,DI]
 | succ r ih=>
  intro j m F L W ta ts t h hm hm' J ht hta O
  obtain⟨m,rfl⟩:∃q,m=q+1:=⟨m - 1,by omega⟩
  obtain⟨F,rfl⟩:∃q,F=q+1:=⟨F - 1,by omega⟩
  have G:=J.len
  rw [List.length_cons,List.length_replicate] at G
  have tl:=EF ht
  simp only at tl
  have nS:∀k:Int,(A.length:Int)≤k→¬S k:=fun k hk hs=>by grind
  obtain⟨e1,e2,w1⟩:=J.add 3 b.level 0 [] 3 (by grind) (by simp) (by grind)
  rw [List.length_cons,List.length_replicate,← G] at e1 e2 w1
  have C:((c::List.replicate j (If b.level))++[(3,b.level,0,[],3)])[j+1]? =some (If b.level):=by
   rw [List.getElem?_append_right (by simp)]; simp [If]
  have hN:((A.length+(j+1):Nat):Int)=(L.length:Int):=by omega
  obtain⟨u0,g0⟩:=w1.new C (s:=0) (by omega) (by simp [If])
  rw [hN] at g0
  have g2:Ab.get (L++[newA 3 b.level 0 [] 3]) ⟨ta,ts⟩=some t:=Lk ht
  obtain⟨T,BT,k1,k2,k3,k4,U⟩:=w1.link g0 g2 (fun e=>by rw [Aw] at e; grind) (.inr rfl) (.inl (.inr (.inr (.inr ⟨rfl,rfl⟩)))) (nS _ (by grind)) (nS _ hta)
  have hT:T=lk (L++[newA 3 b.level 0 [] 3]) ⟨(L.length:Int),0⟩ ⟨ta,ts⟩:=by
   rw [K3,H5 g0 g2] at k1
   grind
  obtain⟨u1,g3⟩:=U.new C (s:=1) (by omega) (by simp [If])
  obtain⟨u2,g4⟩:=U.new C (s:=2) (by omega) (by simp [If])
  rw [hN] at g3 g4
  obtain⟨v,g5⟩:=U.old hp.hx (s:=(j:Int)+1) (by omega) (by omega)
  have xo:¬ ((fun r=>(conX S x y j ta ts r∨r.agent=(L.length:Int))∧r≠⟨(L.length:Int),0⟩∧r≠⟨ta,ts⟩) (⟨x,(j:Int)+1⟩:Port)):=fun h=>by
   unfold conX at h
   simp only at h
   rcases h.1 with (h|h|h|h)|h
   ·exact hp.sx h
   ·omega
   ·omega
   ·omega
   ·omega
  have xn:(fun r=>(conX S x y j ta ts r∨r.agent=(L.length:Int))∧r≠⟨(L.length:Int),0⟩∧r≠⟨ta,ts⟩) (⟨(L.length:Int),1⟩:Port):=⟨.inr rfl,by simp,fun e=>by rw [Aw] at e; grind⟩
  have xt:(fun r=>(conX S x y j ta ts r∨r.agent=(L.length:Int))∧r≠⟨(L.length:Int),0⟩∧r≠⟨ta,ts⟩) (⟨(L.length:Int),2⟩:Port):=⟨.inr rfl,by simp,fun e=>by rw [Aw] at e; grind⟩
  obtain⟨q1,q2,q3,q4⟩:=oK b.level r T _ ⟨(L.length:Int),2⟩ u2 ⟨x,(j:Int)+1⟩ v ⟨(L.length:Int),1⟩ u1 U.ok.m g4 xt g5 xo g3 xn (by simp)
  obtain⟨I,B2,f1,f2,w3⟩:=U.move g5 g3 xo xn (nS _ (by grind)) (Y:=conX S x y (j+1) (L.length:Int) 2) (fun p q hq=>by
    have hn:p.agent=(L.length:Int)→p.slot=0∨p.slot=1∨p.slot=2:=fun e=>by
     have:=Bw hq (x:=If b.level) (by
      rw [U.shp,e,← hN]
      have:=Gd (l:=A.map sh) C
      rwa [List.length_map] at this)
     grind [If]
    unfold conX
    simp only [ne_eq,Aw]
    grind) fun p hs=>.inl hs
  have hA2:I=mv T ⟨x,(j:Int)+1⟩ ⟨(L.length:Int),1⟩:=by
   obtain⟨-,-,h3⟩:=U.ok.m _ _ g5 xo
   have:=f1 [] []
   rw [XJ g5 h3 g3] at this
   grind
  have hl3:I.length=L.length+1:=by
   have:=w3.len
   simp only [List.length_append,List.length_cons,List.length_replicate,List.length_nil] at this; omega
  obtain⟨u3,g6⟩:=w3.new C (s:=2) (by omega) (by simp [If])
  rw [hN] at g6
  obtain⟨A3,B3,r1,r2,r3⟩:=ih (j+1) m F I B2 (L.length:Int) 2 u3 (by omega) (by omega) (by omega) (by
   rw [List.replicate_succ',← List.cons_append]; exact w3) g6 (by omega) (by rw [O,R6,hl3])
  refine⟨A3,B3,fun a0 rr=>?_,?_,r3⟩
  ·have hix:at? (Jc (A.length+1) K) (j:Int)=some (L.length:Int):=by
    rw [My (ZN K (A.length+1) j (by omega))]; congr 2; omega
   rw [BB,if_pos (by rw [Nn]; simp; omega),hix,AA,w64 (by omega) (by omega),gro,← hT,XJ q1 q2 q3,AA,q4,← hA2,show ((j:Int)+1)=((j+1:Nat):Int) from by omega]
   exact r1 a0 rr
  ·rw [DF,if_pos (by simp; omega)]
   have e2':Cn ⟨W⟩ 3 b.level 0 [] 3=some ((L.length:Int),⟨W++[newA 3 b.level 0 [] 3]⟩):=e2
   rw [e2',AA,DI,AA,k4,AA,DI,AA,DI,AA,f2,AA,DI,AA,w64 (by omega) (by omega),show ((j:Int)+1+1)=((j+1:Nat):Int)+1 from by omega]
   exact r2
theorem jE (h:Ok S (fun p=>S p.agent) A B) {x y} {a b} (hp:Pr S A x y a b) (gb:agB b=true) (hka:a.kind=9) (hkb:b.kind=10) (K:Nat) (hK:a.ports.length=K+1) (hK3:K≤3) (hb:b.ports.length=2) (hd:b.data.length≤4) (hv:0≤a.value) (hv2:a.value<(b.data.length:Int)) (hA:A.length≤8000000):
  ∃u C new,(∀bk r,B7 ⟨⟨A⟩,bk,r⟩ x y=some ⟨⟨u⟩,bk,r⟩)∧E8 ⟨B⟩ x y=some ⟨C⟩∧Done S A x y new u C∧NBs new∧SV new∧new.length=K+1:=by
 obtain⟨h0,G⟩:=h.start hp
 obtain⟨d,j,-⟩:=EZ (l:=b.data) (i:=a.value) ⟨hv,hv2⟩
 have hxl:=DN hp.hx
 have hyl:=DN hp.hy
 have w0:Way1 S A [] (fun p=>S p.agent∨p=⟨x,0⟩∨p=⟨y,0⟩) A B:=⟨h0,by simp,.refl⟩
 obtain⟨J,I,w1⟩:=w0.add 12 b.level d [] 1 (by grind) (by simp) (by grind)
 simp only [List.length_nil,Nat.add_zero,List.nil_append,Int.natCast_one] at J I w1
 have nS:∀k:Int,(A.length:Int)≤k→¬S k:=fun k hk hs=>by have:=h.s_lt hs; omega
 have w2:Way1 S A ((12,b.level,d,[],1)::List.replicate 0 (If b.level)) (conX S x y 0 (A.length:Int) 0) (A++[newA 12 b.level d [] 1]) (B++[newA 12 b.level d [] 1]):=by
  refine w1.mono (fun p q O=>?_) fun p hs=>.inl hs
  have h1:p.agent=(A.length:Int)→p.slot=0:=fun e=>by
   have:=Bw O (x:=(12,b.level,d,[],1)) (by
    rw [w1.shp,e]
    have:=Gd (l:=A.map sh) (m:=[(12,b.level,d,[],1)]) (k:=0) rfl
    rwa [List.length_map,Nat.add_zero] at this)
   grind
  have h2:p.agent=x→0≤p.slot:=fun e=>(Bw O (x:=sh a) (by rw [w1.shp,e]; exact Cc (Em hp.hx))).1
  grind [conX,Aw]
 have Y:Dm a=some (K:Int):=by
  grind [Dm,w64]
 have hg:Ab.get (A++[newA 12 b.level d [] 1]) ⟨(A.length:Int),0⟩=some ⟨0,0⟩:=M7 (by omega) (by omega)
 obtain⟨u,C,W,s2,U⟩:=jD (fun k hk=>h.s_lt hk) hp G hb hA K hK (by omega) _ _ K 0 fuel fuel _ _ _ _ _ (by omega) (by rw [AY]; omega) (by rw [AY]; omega) w2 hg (Int.le_refl _) rfl
 rw [List.length_append,List.length_singleton] at W
 refine⟨u,C,_,fun bk r=>?_,?_,U,⟨fun n F=>?_,by grind⟩,fun n F=>?_,by simp⟩
 ·unfold B7 EQ
  rw [hp.hx,AA,hp.hy,AA,if_neg (by grind),j,AA,J,AA]
  have:=sC ⟨⟨A⟩,bk,r⟩ x y a b (by omega) r K 0 fuel ⟨(A.length:Int),0⟩ _ [] _ (by omega) (by rw [AY]; omega) (by grind) (by grind) hg
  rw [List.length_append,List.length_singleton,List.nil_append] at this
  grind
 ·unfold E8
  rw [hp.bY h,AA,J4 b (by grind) (by grind),AA,if_neg (by grind),hp.bx h,AA,Y,AA,AA,j,AA,I,AA,DI,AA]
  exact s2
 ·rcases List.mem_cons.1 F with e|e
  ·subst e; exact⟨by simp,by simp,by simp⟩
  ·rw [(List.mem_replicate.1 e).2]; exact⟨by simp [If],by simp [If],by simp [If]⟩
 ·have v:=(Nm gb).2.1
  unfold Gy at v
  rw [if_neg (by omega),if_neg (by omega),if_neg (by omega),if_neg (by omega),if_neg (by omega),if_pos hkb] at v
  simp only [Bool.and_eq_true,decide_eq_true_eq,List.all_eq_true] at v
  have m1:=v.2 d (List.mem_of_getElem? (Au j).2)
  rcases List.mem_cons.1 F with e|e
  ·subst e
   grind [XL,shB,agB,ports,Gy]
  ·rw [(List.mem_replicate.1 e).2]
   have lb:=XL (m:=3) (Nm gb).1 (by omega) (by omega)
   simp_all [If,shB,agB,ports,Gy]
end
section
variable {S:Int→Prop} {A B:List Agent}
def dupS (lv:Int):Sh:=(4,lv,0,[],3)
def dupX (S:Int→Prop) (x y:Int) (n i:Nat) (p:Port):Prop:=
 S p.agent∨(p.agent=x∧p.slot=0)∨(p.agent=y∧p.slot=0)∨(p.agent=(n:Int)∧(p.slot=0∨(i:Int)≤p.slot))∨(p.agent=(n:Int)+1∧(p.slot=0∨(i:Int)≤p.slot))∨((n:Int)+2≤p.agent∧p.slot=0)
def bC (S:Int→Prop) (x y:Int) (n t:Nat) (p:Port):Prop:=
 S p.agent∨p.agent=x∨(p.agent=y∧p.slot≤(t:Int))∨((n:Int)+2+(t:Int)≤p.agent∧p.slot=0)
theorem fI (hS:∀k,S k→0≤k∧k<(A.length:Int)) {x y} {a b} (hp:Pr S A x y a b) (hA:A.length≤8000000) (hb:b.ports.length≤4) (u2 u3:Int × Net) (hu2:u2.1 =(A.length:Int)) (hu3:u3.1 =(A.length:Int)+1):
  ∀ (k i m u:Nat) (L F:List Agent),i+k=b.ports.length→1≤i→k<m→k<u→Way1 S A (sh b::sh b::List.replicate (i - 1) (dupS a.level)) (dupX S x y A.length i) L F→
   ∃L' Y m1 m2,(∀ (C:Rewriter) (I G:Int × Rewriter) v (j:List Int),I.1 =(A.length:Int)→G.1 =(A.length:Int)+1→j.length+k≤100→Ak m C x y b I G v L j (i:Int)=Ak (m1+1) C x y b I G v L' (j++Jc (A.length+1+i) k) (b.ports.length:Int))∧
    Bl u x y a b u2 u3 F (i:Int)=Bl (m2+1) x y a b u2 u3 Y (b.ports.length:Int)∧Way1 S A (sh b::sh b::List.replicate (b.ports.length - 1) (dupS a.level)) (dupX S x y A.length b.ports.length) L' Y:=by
 have hyl:=DN hp.hy
 have hxl:=DN hp.hx
 intro k
 induction k with
 |zero=>
  intro i m u L F h h1 hm hm' O
  obtain⟨m,rfl⟩:∃q,m=q+1:=⟨m - 1,by omega⟩
  obtain⟨u,rfl⟩:∃q,u=q+1:=⟨u - 1,by omega⟩
  have:i=b.ports.length:=by omega
  subst this
  exact⟨L,F,m,u,fun C I G v j _ _ _=>by rw [Jc,List.append_nil],rfl,O⟩
 | succ k ih=>
  intro i m u L F h h1 hm hm' O
  obtain⟨m,rfl⟩:∃q,m=q+1:=⟨m - 1,by omega⟩
  obtain⟨u,rfl⟩:∃q,u=q+1:=⟨u - 1,by omega⟩
  have U:=O.len
  simp only [List.length_cons,List.length_replicate] at U
  have nS:∀k:Int,(A.length:Int)≤k→¬S k:=fun k hk hs=>by grind
  have hsx:at? (L.map sh) x=some (sh a):=by rw [O.shp]; exact Cc (Em hp.hx)
  obtain⟨a',ha',has⟩:=Pv hsx
  have hal:a'.level=a.level:=by grind [sh]
  obtain⟨e1,e2,w1⟩:=O.add 4 a.level 0 [] 3 (by grind) (by simp) (by grind)
  rw [List.length_cons,List.length_cons,List.length_replicate,show A.length+(i - 1+1+1)=L.length from by omega] at e1 e2 w1
  have n0:((sh b::sh b::List.replicate (i - 1) (dupS a.level))++[(4,a.level,0,[],3)])[0]? =some (sh b):=rfl
  have n1:((sh b::sh b::List.replicate (i - 1) (dupS a.level))++[(4,a.level,0,[],3)])[1]? =some (sh b):=rfl
  have n2:((sh b::sh b::List.replicate (i - 1) (dupS a.level))++[(4,a.level,0,[],3)])[2+(i - 1)]? =some (dupS a.level):=by
   rw [List.getElem?_append_right (by grind)]
   simp only [List.length_cons,List.length_replicate]
   rw [show 2+(i - 1) - (i - 1+1+1)=0 from by omega]; rfl
  have hN:((A.length+(2+(i - 1)):Nat):Int)=(L.length:Int):=by omega
  obtain⟨q1,g1⟩:=w1.new n2 (s:=1) (by omega) (by simp [dupS])
  obtain⟨q2,g2⟩:=w1.new n0 (s:=(i:Int)) (by omega) (by grind [sh])
  rw [hN] at g1
  rw [Nat.add_zero] at g2
  obtain⟨T1,B2,k1,-,k2,-,w2⟩:=w1.link g1 g2 (fun e=>by rw [Aw] at e; grind) (.inr rfl) (.inl (.inr (.inr (.inr (.inl ⟨rfl,.inr (Int.le_refl _)⟩))))) (nS _ (by grind)) (nS _ (by grind))
  obtain⟨q3,g3⟩:=w2.new n2 (s:=2) (by omega) (by simp [dupS])
  obtain⟨q4,g4⟩:=w2.new n1 (s:=(i:Int)) (by omega) (by grind [sh])
  rw [hN] at g3
  rw [show ((A.length+1:Nat):Int)=(A.length:Int)+1 from by omega] at g4
  obtain⟨T2,B3,k3,-,k4,-,w3⟩:=w2.link g3 g4 (fun e=>by rw [Aw] at e; grind) ⟨.inr rfl,by simp,fun e=>by rw [Aw] at e; grind⟩ ⟨.inl (.inr (.inr (.inr (.inr (.inl ⟨rfl,.inr (Int.le_refl _)⟩))))),fun e=>by rw [Aw] at e; grind,fun e=>by rw [Aw] at e; grind⟩ (nS _ (by grind)) (nS _ (by grind))
  have w4:Way1 S A (sh b::sh b::List.replicate (i+1 - 1) (dupS a.level)) (dupX S x y A.length (i+1)) T2 B3:=by
   have e:sh b::sh b::List.replicate (i+1 - 1) (dupS a.level)=(sh b::sh b::List.replicate (i - 1) (dupS a.level))++[(4,a.level,0,[],3)] :=by
    rw [show i+1 - 1=i - 1+1 from by omega,List.replicate_succ']; rfl
   rw [e]
   refine w3.mono (fun p q hq=>?_) fun p hs=>.inl hs
   have hn:p.agent=(L.length:Int)→p.slot=0∨p.slot=1∨p.slot=2:=fun e=>by
    have:=Bw hq (x:=dupS a.level) (by
     rw [w3.shp,e,← hN]
     have:=Gd (l:=A.map sh) n2
     rwa [List.length_map] at this)
    grind [dupS]
   have hlt:p.agent<(L.length:Int)+1:=by
    have:=EF hq
    have e5:=w3.len
    grind [List.length_replicate]
   unfold dupX
   simp only [ne_eq,Aw]
   grind
  obtain⟨L',Y,m1,m2,r1,r2,r3⟩:=ih (i+1) m u T2 B3 (by omega) (by omega) (by omega) (by omega) w4
  refine⟨L',Y,m1,m2,fun C I G v j J W hap=>?_,?_,r3⟩
  ·have e1':Af ⟨⟨L⟩,C.book,v⟩ 4 a.level 0 [] 3=some ((L.length:Int),⟨⟨L++[newA 4 a.level 0 [] 3]⟩,C.book,v⟩):=e1 C.book v
   rw [Ak,if_pos (by grind),ha',AA,hal,e1',AA,J,W]
   simp only
   rw [k1,AA,k3,AA,A8 (by unfold Big; simp; omega),AA,w64 (by omega) (by omega),show ((i:Int)+1)=((i+1:Nat):Int) from by omega,r1 C I G v (j++[(L.length:Int)]) J W (by simp; omega),Jc,List.append_assoc,List.singleton_append,show A.length+1+(i+1)=A.length+1+i+1 from by omega,show (L.length:Int)=((A.length+1+i:Nat):Int) from by omega]
  ·have e2':Cn ⟨F⟩ 4 a.level 0 [] 3=some ((L.length:Int),⟨F++[newA 4 a.level 0 [] 3]⟩):=e2
   rw [Bl,if_pos (by grind),e2',AA,hu2,hu3]
   simp only [DI,AA]
   rw [k2,AA,k4,AA,w64 (by omega) (by omega),show ((i:Int)+1)=((i+1:Nat):Int) from by omega]
   exact r2
theorem fJ (hS:∀k,S k→0≤k∧k<(A.length:Int)) {x y} {a b} (hp:Pr S A x y a b) (hne:x≠y) (hA:A.length≤8000000) (P:Nat) (hP:b.ports.length=P+1) (hb:P≤3) (u3:Int × Net) (hu3:u3.1 =(A.length:Int)+1):
  ∀ (k t m j:Nat) (L F:List Agent),t+k=P→k<m→k<j→Way1 S A (sh b::sh b::List.replicate P (dupS a.level)) (bC S x y A.length t) L F→
   ∃J O,(∀ (I:Rewriter) G,A5 m I y (Jc (A.length+2) P) G L (t:Int)=some ⟨⟨J⟩,I.book,G⟩)∧CA j y b u3 F ((t:Int)+1)=some ⟨O⟩∧Done S A x y (sh b::sh b::List.replicate P (dupS a.level)) J O:=by
 have hyl:=DN hp.hy
 have hxl:=DN hp.hx
 intro k
 induction k with
 | zero=>
  intro t m j L F h hm W C
  obtain⟨m,rfl⟩:∃q,m=q+1:=⟨m - 1,by omega⟩
  obtain⟨j,rfl⟩:∃q,j=q+1:=⟨j - 1,by omega⟩
  refine⟨L,F,fun I G=>?_,?_,C.done fun p q hq=>?_⟩
  ·rw [A5,if_neg (by rw [Nn]; grind)]
  ·rw [CA,if_neg (by grind)]
  ·have hy2:p.agent=y→p.slot≤(t:Int):=fun e=>by
    have:=Bw hq (x:=sh b) (by rw [C.shp,e]; exact Cc (Em hp.hy))
    grind [sh]
   have hlt:=EF hq
   have hlen:=C.len
   grind [bC]
 | succ k ih=>
  intro t m j L F h hm W C
  obtain⟨m,rfl⟩:∃q,m=q+1:=⟨m - 1,by omega⟩
  obtain⟨j,rfl⟩:∃q,j=q+1:=⟨j - 1,by omega⟩
  have nS:∀k:Int,(A.length:Int)≤k→¬S k:=fun k hk hs=>by grind
  have n2:(sh b::sh b::List.replicate P (dupS a.level))[2+t]? =some (dupS a.level):=by
   rw [show 2+t=t+1+1 from by omega,List.getElem?_cons_succ,List.getElem?_cons_succ,List.getElem?_replicate,if_pos (by omega)]
  obtain⟨v,g1⟩:=C.old hp.hy (s:=(t:Int)+1) (by omega) (by omega)
  obtain⟨u,g2⟩:=C.new n2 (s:=0) (by omega) (by simp [dupS])
  rw [show ((A.length+(2+t):Nat):Int)=(A.length:Int)+2+(t:Int) from by omega] at g2
  obtain⟨J,O,f1,f2,w⟩:=C.move g1 g2 (fun h=>by
    unfold bC at h
    simp only at h
    rcases h with h|h|h|h
    ·exact hp.sy h
    ·omega
    ·omega
    ·omega) (.inr (.inr (.inr ⟨Int.le_refl _,rfl⟩))) (nS _ (by grind)) (Y:=bC S x y A.length (t+1)) (fun p q hq=>by
    unfold bC
    simp only [ne_eq,Aw]
    grind) fun p hs=>.inl hs
  obtain⟨A3,B3,r1,r2,r3⟩:=ih (t+1) m j J O (by omega) (by omega) (by omega) w
  refine⟨A3,B3,fun I G=>?_,?_,r3⟩
  ·have U:at? (Jc (A.length+2) P) (t:Int)=some ((A.length:Int)+2+(t:Int)):=by
    rw [My (ZN P (A.length+2) t (by omega))]; congr 1
   rw [A5,if_pos (by rw [Nn]; grind),U,AA,w64 (by omega) (by omega),f1,AA,show ((t:Int)+1)=((t+1:Nat):Int) from by omega]
   grind
  ·rw [CA,if_pos (by grind),DI,AA,hu3,w64 (by omega) (by omega),DI,AA,show (A.length:Int)+1+((t:Int)+1)=(A.length:Int)+2+(t:Int) from by omega,f2,AA,w64 (by omega) (by omega),show (t:Int)+1+1=((t+1:Nat):Int)+1 from by omega]
   exact r2
theorem oL (h:Ok S (fun p=>S p.agent) A B) {x y} {a b} (hp:Pr S A x y a b) (ga:agB a=true) (gb:agB b=true) (hka:a.kind=4) (hkb:b.kind≠1) (ha:a.ports.length=3) (hb1:1≤b.ports.length) (hb:b.ports.length≤4) (hd:b.data.length≤4) (hbk:b.kind≠0) (hA:A.length≤8000000):
  ∃A2 F new,(∀bk r,DB ⟨⟨A⟩,bk,r⟩ x y=some ⟨⟨A2⟩,bk,r⟩)∧F6 ⟨B⟩ x y=some ⟨F⟩∧Done S A x y new A2 F∧NBs new∧SV new∧new.length=b.ports.length+1:=by
 obtain⟨h0,G⟩:=h.start hp
 have hxl:=DN hp.hx
 have hyl:=DN hp.hy
 have w0:Way1 S A [] (fun p=>S p.agent∨p=⟨x,0⟩∨p=⟨y,0⟩) A B:=⟨h0,by simp,.refl⟩
 obtain⟨e1,J,w1⟩:=w0.add b.kind b.level b.value b.data b.ports.length (by grind) (by grind) (by grind)
 simp only [List.length_nil,Nat.add_zero,List.nil_append] at e1 J w1
 obtain⟨W,I,w2⟩:=w1.add b.kind b.level b.value b.data b.ports.length (by rw [List.length_append,List.length_singleton]; grind) (by grind) (by grind)
 simp only [List.length_singleton] at W I w2
 have O:∀k:Int,(A.length:Int)≤k→¬S k:=fun k hk hs=>by have:=h.s_lt hs; omega
 have w3:Way1 S A (sh b::sh b::List.replicate (1 - 1) (dupS a.level)) (dupX S x y A.length 1) (A++[newA b.kind b.level b.value b.data b.ports.length] ++[newA b.kind b.level b.value b.data b.ports.length]) (B++[newA b.kind b.level b.value b.data b.ports.length] ++[newA b.kind b.level b.value b.data b.ports.length]):=by
  refine w2.mono (fun p q j=>?_) fun p hs=>.inl hs
  have C:=EF j
  simp only [List.length_append,List.length_singleton] at C
  have u:0≤p.slot:=by
   obtain⟨a,h1,h2⟩:=Aj.1 j
   exact(DN h2).1
  grind [dupX,Aw]
 obtain⟨P,hP⟩:∃P,b.ports.length=P+1:=⟨b.ports.length - 1,by omega⟩
 obtain⟨L1,B1,m1,m2,r1,r2,w4⟩:=fI (fun k hk=>h.s_lt hk) hp hA hb ((A.length:Int),⟨B++[newA b.kind b.level b.value b.data b.ports.length]⟩) (((A.length+1:Nat):Int),⟨B++[newA b.kind b.level b.value b.data b.ports.length] ++[newA b.kind b.level b.value b.data b.ports.length]⟩) rfl (by rfl) P 1 fuel fuel _ _ (by omega) (by omega) (by rw [AY]; omega) (by rw [AY]; omega) w3
 obtain⟨v1,g1⟩:=w4.old hp.hx (s:=1) (by omega) (by omega)
 obtain⟨q1,U⟩:=w4.new (k:=0) (s:=0) rfl (by omega) (by grind [sh])
 rw [Nat.add_zero] at U
 obtain⟨L2,F,f1,f2,w5⟩:=w4.move g1 U (fun h=>by
   unfold dupX at h
   simp only at h
   rcases h with h|h|h|h|h|h
   ·exact hp.sx h
   all_goals omega) (.inr (.inr (.inr (.inl ⟨rfl,.inl rfl⟩)))) (O _ (by grind)) (Y:=fun p=>S p.agent∨(p.agent=x∧p.slot≤1)∨(p.agent=y∧p.slot=0)∨(p.agent=(A.length:Int)+1∧p.slot=0)∨((A.length:Int)+2≤p.agent∧p.slot=0)) (fun p q j=>by
   have u:0≤p.slot:=by
    obtain⟨a,h1,h2⟩:=Aj.1 j
    exact(DN h2).1
   have hc1:p.agent=(A.length:Int)→p.slot<(b.ports.length:Int):=fun e=>by
    have:=Bw j (x:=sh b) (by
     rw [w4.shp,e]
     have:=Gd (l:=A.map sh) (m:=sh b::sh b::List.replicate (b.ports.length - 1) (dupS a.level)) (k:=0) rfl
     rwa [List.length_map,Nat.add_zero] at this)
    grind [sh]
   have hc2:p.agent=(A.length:Int)+1→p.slot<(b.ports.length:Int):=fun e=>by
    have:=Bw j (x:=sh b) (by
     rw [w4.shp,e]
     have:=Gd (l:=A.map sh) (m:=sh b::sh b::List.replicate (b.ports.length - 1) (dupS a.level)) (k:=1) rfl
     rwa [List.length_map] at this)
    grind [sh]
   grind [dupX,Aw]) fun p hs=>.inl hs
 obtain⟨v2,g3⟩:=w5.old hp.hx (s:=2) (by omega) (by omega)
 obtain⟨q2,g4⟩:=w5.new (k:=1) (s:=0) rfl (by omega) (by grind [sh])
 obtain⟨L3,B3,f3,f4,w6⟩:=w5.move g3 g4 (fun h=>by
   simp only at h
   rcases h with h|h|h|h|h
   ·exact hp.sx h
   all_goals omega) (.inr (.inr (.inr (.inl ⟨by rfl,rfl⟩)))) (O _ (by grind)) (Y:=bC S x y A.length 0) (fun p q j=>by
   have u:0≤p.slot:=by
    obtain⟨a,h1,h2⟩:=Aj.1 j
    exact(DN h2).1
   have hx2:p.agent=x→p.slot<3:=fun e=>by
    have:=Bw j (x:=sh a) (by rw [w5.shp,e]; exact Cc (Em hp.hx))
    grind [sh]
   grind [bC,Aw]) fun p hs=>.inl hs
 rw [show b.ports.length - 1=P from by omega] at w6
 obtain⟨A4,B4,t1,t2,t3⟩:=fJ (fun k hk=>h.s_lt hk) hp G hA P hP (by omega) (((A.length+1:Nat):Int),⟨B++[newA b.kind b.level b.value b.data b.ports.length] ++[newA b.kind b.level b.value b.data b.ports.length]⟩) (by rfl) P 0 fuel fuel _ _ (by omega) (by rw [AY]; omega) (by rw [AY]; omega) w6
 refine⟨A4,B4,_,fun bk r=>?_,?_,t3,⟨fun n v=>?_,by grind⟩,fun n v=>?_,by grind⟩
 ·unfold DB
  rw [hp.hy,AA,e1,AA,W,AA]
  grind [Ak]
 ·unfold F6
  rw [hp.bx h,AA,hp.bY h,AA,J4 b (by grind) (by grind),AA,J,AA,I,AA]
  rw [Int.natCast_one] at r2
  rw [r2,Bl,if_neg (by simp)]
  simp_all [DI]
 ·rcases List.mem_cons.1 v with e|e
  ·subst e; exact⟨by grind [sh],by grind [sh],hbk⟩
  ·rcases List.mem_cons.1 e with e|e
   ·subst e; exact⟨by grind [sh],by grind [sh],hbk⟩
   ·rw [(List.mem_replicate.1 e).2]; exact⟨by simp [dupS],by simp [dupS],by simp [dupS]⟩
 ·have hbb:(sh b).1 ≠1∧shB (sh b)=true:=⟨hkb,by rw [ah]; exact gb⟩
  rcases List.mem_cons.1 v with e|e
  ·grind
  ·rcases List.mem_cons.1 e with e|e
   ·grind
   grind [dupS,shB,agB,ports,Gy]
end
theorem bD {α:Type} (L:Nat→List α→Int→Option (List α)) (f:α→Option α) (l:List α) (hl:l.length≤Big) (hf:∀x ∈ l,f x=some x)
  (hL:∀n acc i,L (n+1) acc i=(if (decide (i<(l.length:Int)))=true then ((at? l i).bind fun v=>((f v).bind fun w=>((app? acc [w]).bind fun z=>(L n z (IntKind.i64.wrap (i+1)))))) else (some acc))):L fuel [] 0=some l:=by
 have loop:∀ (post pre:List α) (n:Nat),l=pre++post→post.length<n→L n pre (pre.length:Int)=some l:=by
  intro post
  induction post with
  |nil=>
   intro pre n h p
   obtain⟨n,rfl⟩:∃m,n=m+1:=⟨n - 1,by omega⟩
   rw [hL,C0 h,if_neg (by simp),h,List.append_nil]
  |cons x post ih=>
   intro pre n h p
   rw [List.length_cons] at p
   obtain⟨n,rfl⟩:∃m,n=m+1:=⟨n - 1,by omega⟩
   have hx:x ∈ l:=by rw [h]; simp
   have j:pre.length+ [x].length ≤Big:=by rw [h] at hl; grind
   rw [hL,if_pos (Cb h),BZ h,AA,hf x hx,AA,A8 j,AA,BP h hl]
   grind
 exact loop l [] fuel rfl (by rw [AY]; grind)
theorem jF (d:List Int) (hd:d.length≤Big):CW d=some d:=by
 grind [CW,A8]
theorem U7 (a:Agent) (h:a.Small):Fj a=some a:=by
 unfold Fj
 rw [WU _ h.2,AA,WV _ h.1]; rfl
theorem Pu (a:Agent) (h:a.Small):F2 a=some a:=by
 unfold F2
 rw [jF _ h.2,AA,WV _ h.1]; rfl
theorem ZO (n:Net) (hl:n.agents.length≤Big) (h:∀a ∈ n.agents,a.Small):IE n=some n:=by
 unfold IE
 rw [Q3 hl,AA]
 have p:=bD (fun j acc i=>(D1 j n acc i).map (·.agents)) Fj n.agents hl (fun a q=>U7 a (h a q)) fun j acc i=>by
  rw [D1]
  split
  ·cases at? n.agents i with
   |none=>rfl
   |some v=>simp only [Option.bind]; grind
  ·rfl
 simp only [Option.map_eq_some_iff] at p
 obtain⟨a,h1,h2⟩:=p
 rw [h1]; congr 1
 cases a; simp_all
theorem bE (n:Net) (hl:n.agents.length≤Big) (h:∀a ∈ n.agents,a.Small):Kl n=some n:=by
 unfold Kl
 rw [Q3 hl,AA]
 have p:=bD (fun j acc i=>(FE j n acc i).map (·.agents)) F2 n.agents hl (fun a q=>Pu a (h a q)) fun j acc i=>by
  rw [FE]
  split
  ·cases at? n.agents i with
   |none=>rfl
   |some v=>simp only [Option.bind]; grind
  ·rfl
 simp only [Option.map_eq_some_iff] at p
 obtain⟨a,h1,h2⟩:=p
 rw [h1]; congr 1
 cases a; simp_all
theorem iO (n:Net) (hl:n.agents.length≤Big) (h:∀a ∈ n.agents,a.Small):Ms n=some n:=by
 unfold Ms
 have p:=bD (fun j acc i=>(F8 j n acc i).map (·.agents)) CE n.agents hl (fun a q=>J4 a (h a q).2 (h a q).1) fun j acc i=>by
  rw [F8]
  split
  ·cases at? n.agents i with
   |none=>rfl
   |some v=>simp only [Option.bind]; grind
  ·rfl
 simp only [Option.map_eq_some_iff] at p
 obtain⟨a,h1,h2⟩:=p
 rw [h1]; congr 1
 cases a; simp_all
theorem Yr (b:List Net) (n:Net) (hl:n.agents.length≤Big) (h:∀a ∈ n.agents,a.Small):Fk b n=some ⟨n,b,[]⟩:=by
 grind [Fk,ZO]
theorem ZP:∀ (l:List Agent) (i:Nat),agsB i l=true→∀ (k:Nat) (a:Agent),l[k]? =some a→agB a=true∧(a.kind=1↔i+k=0)
 | [],_,_,k,a,h=>by grind
 |x::l,i,hb,0,a,h=>by
  rw [agsB] at hb
  simp only [Bool.and_eq_true,beq_iff_eq] at hb
  simp only [List.getElem?_cons_zero,Option.some.injEq] at h
  subst h
  refine⟨hb.1.1,?_⟩
  have:=hb.1.2
  by_cases h1:x.kind=1 <;> by_cases h2:i=0 <;> simp_all
 |x::l,i,hb,k+1,a,h=>by
  rw [agsB] at hb
  simp only [Bool.and_eq_true] at hb
  rw [List.getElem?_cons_succ] at h
  obtain⟨h1,h2⟩:=ZP l (i+1) hb.2 k a h
  grind
theorem UN {l} {i}:∀ (ps:List Port) (k:Nat),Et l i k ps=true→∀ (j:Nat) (p:Port),ps[j]? =some p→Mn l i (k+j) p=true
 | [],_,_,j,p,h=>by grind
 |x::ps,k,hb,0,p,h=>by
  rw [Et] at hb
  grind
 |x::ps,k,hb,j+1,p,h=>by
  rw [Et] at hb
  simp only [Bool.and_eq_true] at hb
  rw [List.getElem?_cons_succ] at h
  have:=UN ps (k+1) hb.2 j p h
  rwa [show k+1+j=k+(j+1) from by omega] at this
theorem N7 {l}:∀ (m:List Agent) (i:Nat),Cr l i m=true→∀ (k:Nat) (a:Agent),m[k]? =some a→Et l (i+k) 0 a.ports=true
 | [],_,_,k,a,h=>by grind
 |x::m,i,hb,0,a,h=>by
  rw [Cr] at hb
  grind
 |x::m,i,hb,k+1,a,h=>by
  rw [Cr] at hb
  simp only [Bool.and_eq_true] at hb
  rw [List.getElem?_cons_succ] at h
  have:=N7 m (i+1) hb.2 k a h
  rwa [show i+1+k=i+(k+1) from by omega] at this
structure VnN (N:Nat) (l:List Agent):Prop where
 len:1≤l.length∧l.length≤N
 ag:∀k a,at? l k=some a→agB a=true∧(a.kind=1↔k=0)
 m:M l fun _=>False
abbrev Vn:=VnN 600
theorem Net.valid_vn {n:Net} (h:n.valid=true):Vn n.agents:=by
 unfold Net.valid agentsB at h
 simp only [Bool.and_eq_true,decide_eq_true_eq] at h
 obtain⟨⟨h1,h2⟩,h3⟩:=h
 refine⟨h1,fun k a hk=>?_,fun p q hp _=>?_⟩
 ·obtain⟨k1,k2⟩:=Au hk
  grind [ZP]
 ·obtain⟨a,u,j⟩:=Aj.1 hp
  obtain⟨k1,k2⟩:=Au u
  obtain⟨k3,k4⟩:=Au j
  have:=UN _ 0 (N7 _ 0 h3 _ _ k2) _ _ k4
  rw [Nat.zero_add,Nat.zero_add] at this
  grind [Mn,Co]
theorem P8 {a} (h:agB a=true):levB a.kind a.level=true:=by
 grind [agB]
theorem WW {a} (h:agB a=true):ports a.kind (if a.kind=9 then (a.ports.length:Int) - 1 else 0)=(a.ports.length:Int)∧0<a.ports.length:=by
 grind [agB]
theorem Ca {a} (h:agB a=true):1≤a.ports.length∧a.ports.length≤4:=by
 obtain⟨h1,h2⟩:=WW h
 grind [ports]
theorem M0 {a} (h:agB a=true):a.data.length≤4:=by
 grind [agB,Gy]
theorem fK {a} (h:agB a=true):a.Small:=⟨by grind [Ca],by grind [M0]⟩
theorem Mx {a} (h:agB a=true):1≤a.kind∧a.kind≤12:=by
 grind [P8,levB]
theorem I6 {a} (h:agB a=true):0≤a.level∧a.level≤8:=by
 have:=P8 h; unfold levB at this; simp only [Bool.and_eq_true,decide_eq_true_eq] at this
 have:=this.2
 split at this <;> simp only [decide_eq_true_eq] at this <;> omega
theorem M8 {a} (h:agB a=true):(a.kind=1∨a.kind=5∨a.kind=6∨a.kind=12→a.ports.length=1)∧(a.kind=8∨a.kind=10∨a.kind=11→a.ports.length=2)∧(a.kind=2∨a.kind=3∨a.kind=4∨a.kind=7→a.ports.length=3):=by
 grind [WW,ports]
theorem VnN.mem {N} {l} (h:VnN N l) {a} (ha:a ∈ l):agB a=true:=by
 obtain⟨i,j,rfl⟩:=List.getElem_of_mem ha
 exact(h.ag i _ (My (by rw [List.getElem?_eq_getElem j]))).1
theorem VnN.small {N} {l} (h:VnN N l):∀a ∈ l,a.Small:=fun a j=>fK (h.mem j)
def hiL:Int→List Agent→Int
 |m,[] =>m
 |m,a::l=>hiL (if a.level<m then m else a.level) l
theorem sD (n:Net) (hl:n.agents.length≤Big):Il n=some (hiL 0 n.agents):=by
 have loop:∀ (post pre:List Agent) (m:Int) (k:Nat),n.agents=pre++post→post.length<k→Ci k n m (pre.length:Int)=some (hiL m post):=by
  intro post
  induction post with
  |nil=>
   intro pre m k h hk
   obtain⟨k,rfl⟩:∃q,k=q+1:=⟨k - 1,by omega⟩
   rw [Ci,C0 h,if_neg (by simp),hiL]
  | cons x post ih=>
   intro pre m k h hk
   rw [List.length_cons] at hk
   obtain⟨k,rfl⟩:∃q,k=q+1:=⟨k - 1,by omega⟩
   rw [Ci,if_pos (Cb h),BZ h,AA]
   have:Mv m x.level=some (if x.level<m then m else x.level):=by
    unfold Mv
    by_cases e:x.level<m <;> simp [e]
   rw [this,AA,BP h hl,hiL]
   grind
 exact loop n.agents [] 0 fuel rfl (by rw [AY]; grind)
theorem XM:∀ (l:List Agent) (m c:Int),(hiL m l≤c↔m≤c∧∀a ∈ l,a.level≤c)
 | [],m,c=>by simp [hiL]
 |a::l,m,c=>by
  rw [hiL,XM l]
  grind
theorem Mz {α:Type} {pre post:List α} {x y:α}:Br (pre++x::post) (pre.length:Int) y=some (pre++y::post):=by
 simp [Br,aV]
theorem Hb {α:Type} {pre post:List α} {x:α}:at? (pre++x::post) (pre.length:Int)=some x:=BZ rfl
def lvA (lv:Int) (a:Agent):Agent:=if UM a.kind=true then ⟨a.kind,a.level+lv,a.value,a.data,a.ports⟩ else a
def okL (lv:Int) (l:List Agent):Bool:=l.all fun a=> !UM a.kind||decide (a.level+lv≤8)
theorem UO (T:Net) (lv:Int) (hT:Vn T.agents) (hlv:0≤lv∧lv≤8):Iv T lv=some (if okL lv T.agents=true then (⟨T.agents.map (lvA lv)⟩,true) else (⟨[]⟩,false)):=by
 have p:T.agents.length≤Big:=by have:=hT.len; grind
 unfold Iv
 rw [bE T p hT.small,AA]
 have loop:∀ (post pre:List Agent) (k:Nat),T.agents=pre++post→post.length<k→Db k lv T (pre.map (lvA lv)++post) (pre.length:Int)=some (if okL lv post=true then (⟨(pre++post).map (lvA lv)⟩,true) else (⟨[]⟩,false)):=by
  intro post
  induction post with
  |nil=>
   intro pre k h hk
   obtain⟨k,rfl⟩:∃q,k=q+1:=⟨k - 1,by omega⟩
   rw [Db,C0 h,if_neg (by simp)]
   simp [okL]
  |cons x post ih=>
   intro pre k h hk
   rw [List.length_cons] at hk
   obtain⟨k,rfl⟩:∃q,k=q+1:=⟨k - 1,by omega⟩
   have hx:=I6 (hT.mem (a:=x) (by rw [h]; simp))
   have u:(pre.length:Int)=((List.length (pre.map (lvA lv)):Nat):Int):=by rw [List.length_map]
   have j:=ih (pre++[x]) k (As h) (by omega)
   rw [List.map_append,List.map_singleton,List.append_assoc,List.singleton_append,List.append_assoc,List.singleton_append] at j
   rw [Db,if_pos (Cb h),u,Hb,AA,cw,AA]
   grind [Mz,Hb,w64,lvA,okL]
 have:=loop T.agents [] fuel rfl (by rw [AY]; grind)
 simp_all
theorem oM {l} {lv} (hl:∀a ∈ l,agB a=true) (hlv:0≤lv∧lv≤8):okL lv l=decide (hiL 0 l+lv≤8):=by
 have:(okL lv l=true)↔hiL 0 l+lv≤8:=by
  rw [show (hiL 0 l+lv≤8)↔(hiL 0 l≤8 - lv) from by omega,XM]
  grind [okL,P8,UM,levB]
 grind
def sp (off:Int) (p:Port):Port:=⟨p.agent+off,p.slot⟩
def expA (off lv:Int) (a:Agent):Agent:=⟨a.kind,(lvA lv a).level,a.value,a.data,a.ports.map (sp off)⟩
def Pin (a:Agent):Prop:=∀q ∈ a.ports,0≤q.agent∧q.agent<600
theorem Vn.pin {l} (h:Vn l):∀a ∈ l,Pin a:=fun a v q u=>by
 obtain⟨i,p,rfl⟩:=List.getElem_of_mem v
 obtain⟨j,hj,rfl⟩:=List.getElem_of_mem u
 obtain⟨-,-,h3⟩:=h.m ⟨(i:Int),(j:Int)⟩ _ (Aj.2 ⟨l[i],My (by rw [List.getElem?_eq_getElem p]),My (by rw [List.getElem?_eq_getElem hj])⟩) not_false
 have:=EF h3
 have:=h.len
 omega
theorem ZQ (T Bn:Net) (y i lvl:Int) (a x:Agent) (acc:List Agent) (hB:Bn.agents.length≤8000000) (hB1:1≤Bn.agents.length):∀ (post pre:List Port) (n:Nat),(∀q ∈ post,0≤q.agent∧q.agent<600)→pre.length+post.length≤Big→
  Cj (post.length+1+n) T Bn y acc i lvl a x (pre.map (sp ((Bn.agents.length:Int) - 1))++post) (pre.length:Int)=(app? acc [⟨x.kind,lvl,x.value,x.data,(pre++post).map (sp ((Bn.agents.length:Int) - 1))⟩]).bind fun v=>BN n T Bn y a v (IntKind.i64.wrap (i+1)):=by
 intro post
 induction post with
 |nil=>
  intro pre n j u
  rw [show ([] :List Port).length +1+n=n+1 from by grind,Cj,if_neg (by simp),List.append_nil,List.append_nil]
 |cons q post ih=>
  intro pre n j u
  rw [List.length_cons] at u
  have p:(pre.length:Int)=((List.length (pre.map (sp ((Bn.agents.length:Int) - 1))):Nat):Int):=by rw [List.length_map]
  have C:=j q List.mem_cons_self
  rw [show (q::post).length +1+n=(post.length+1+n)+1 from by grind,Cj,if_pos (by grind),p,Hb,AA,AA,Mz,AA,← p,w64 (n:=(Bn.agents.length:Int) - 1) (by omega) (by omega),w64 (by omega) (by omega),w64 (by omega) (by grind)]
  have:=ih (pre++[q]) n (fun r F=>j r (List.mem_cons_of_mem _ F)) (by grind)
  rw [List.map_append,List.map_singleton,List.append_assoc,List.singleton_append,List.append_assoc,List.singleton_append,List.length_append,List.length_singleton] at this
  rw [show (pre.length:Int)+1=((List.length pre+1:Nat):Int) from by omega]
  exact this
theorem ZR (a0:Rewriter) (y i:Int) (v3:Port) (v4:List Agent) (hs:List HAgent) (x:Agent) (acc:List Agent) (hB:a0.net.agents.length≤8000000) (hB1:1≤a0.net.agents.length):∀ (post pre:List Port) (n:Nat),x.ports=pre++post→(∀q ∈ post,0≤q.agent∧q.agent<600)→pre.length+post.length≤Big→
  BI (post.length+1+n) a0 y acc hs i v3 v4 x (pre.map (sp ((a0.net.agents.length:Int) - 1))++post) (pre.length:Int)=(app? acc [⟨x.kind,x.level,x.value,x.data,(pre++post).map (sp ((a0.net.agents.length:Int) - 1))⟩]).bind fun v=>Al n a0 y v3 v4 v (List.set hs (Int.toNat i) (HAgent.gone x)) (IntKind.i64.wrap (i+1)):=by
 intro post
 induction post with
 |nil=>
  intro pre n hx j u
  rw [show ([] :List Port).length +1+n=n+1 from by grind,BI,if_neg (by rw [hx]; simp),List.append_nil,List.append_nil]
 |cons q post ih=>
  intro pre n hx j u
  rw [List.length_cons] at u
  have p:(pre.length:Int)=((List.length (pre.map (sp ((a0.net.agents.length:Int) - 1))):Nat):Int):=by rw [List.length_map]
  have C:=j q List.mem_cons_self
  rw [show (q::post).length +1+n=(post.length+1+n)+1 from by grind,BI,if_pos (by rw [hx]; grind),p,Hb,AA,AA,Mz,AA,← p,w64 (n:=(a0.net.agents.length:Int) - 1) (by omega) (by omega),w64 (by omega) (by omega),w64 (by omega) (by grind)]
  have:=ih (pre++[q]) n (by rw [hx]; simp) (fun r F=>j r (List.mem_cons_of_mem _ F)) (by grind)
  rw [List.map_append,List.map_singleton,List.append_assoc,List.singleton_append,List.append_assoc,List.singleton_append,List.length_append,List.length_singleton] at this
  rw [show (pre.length:Int)+1=((List.length pre+1:Nat):Int) from by omega]
  exact this
theorem fL (T Bn:Net) (y:Int) (a r:Agent) (v:Port) (hB:Bn.agents.length≤8000000) (hB1:1≤Bn.agents.length) (hT:∀x ∈ T.agents,agB x=true∧Pin x) (hl:T.agents.length≤600) (hr:at? T.agents 0=some r) (hv:at? r.ports 0=some v) (hva:0≤v.agent∧v.agent<600) (ha:0≤a.level∧a.level≤8):∀ (post pre acc:List Agent) (n:Nat),T.agents=pre++post→acc.length+post.length≤Big→10*post.length<n→
  BN n T Bn y a acc (pre.length:Int)=s_l11Link ⟨acc++post.map (expA ((Bn.agents.length:Int) - 1) a.level)⟩ (sp ((Bn.agents.length:Int) - 1) v) ⟨y,0⟩:=by
 intro post
 induction post with
 |nil=>
  intro pre acc n h C u
  obtain⟨n,rfl⟩:∃q,n=q+1:=⟨n - 1,by omega⟩
  rw [BN,C0 h,if_neg (by simp),hr,AA,hv,AA,DI,AA,DI,AA,w64 (n:=(Bn.agents.length:Int) - 1) (by omega) (by omega),w64 (by omega) (by omega),List.map_nil,List.append_nil]
  unfold sp
  rw [show (Bn.agents.length:Int) - 1+v.agent=v.agent+((Bn.agents.length:Int) - 1) from by omega]
  cases s_l11Link ⟨acc⟩ ⟨v.agent+((Bn.agents.length:Int) - 1),v.slot⟩ ⟨y,0⟩ <;> rfl
 | cons x post ih=>
  intro pre acc n h C u
  rw [List.length_cons] at C u
  obtain⟨h1,h2⟩:=hT x (by rw [h]; simp)
  have G:=Ca h1
  have hd:=M0 h1
  have F:=I6 h1
  have p:T.agents.length≤Big:=by grind
  obtain⟨n,rfl⟩:∃q,n=(x.ports.length+1+q)+1+1:=⟨n - x.ports.length - 3,by omega⟩
  have key:∀j,DS ((x.ports.length+1+n)+1) T Bn y acc (pre.length:Int) a x j=(app? acc [⟨x.kind,j,x.value,x.data,x.ports.map (sp ((Bn.agents.length:Int) - 1))⟩]).bind fun v=>BN n T Bn y a v (IntKind.i64.wrap ((pre.length:Int)+1)):=fun j=>by
   rw [DS]
   have:=ZQ T Bn y (pre.length:Int) j a x acc hB hB1 x.ports [] n h2 (by grind)
   grind
  have fin:((app? acc [expA ((Bn.agents.length:Int) - 1) a.level x]).bind fun v=>BN n T Bn y a v (IntKind.i64.wrap ((pre.length:Int)+1)))=s_l11Link ⟨acc++(x::post).map (expA ((Bn.agents.length:Int) - 1) a.level)⟩ (sp ((Bn.agents.length:Int) - 1) v) ⟨y,0⟩:=by
   rw [A8 (by grind),AA,BP h p,ih (pre++[x]) (acc++[expA ((Bn.agents.length:Int) - 1) a.level x]) n (As h) (by grind) (by omega),List.map_cons,List.append_assoc,List.singleton_append]
  rw [BN,if_pos (Cb h),BZ h,AA,J4 x (by grind) (by grind),AA,cy,AA]
  grind [w64,expA,lvA]
theorem WX (lv:Int) (x:Agent):(lvA lv x).ports =x.ports∧(lvA lv x).kind =x.kind∧(lvA lv x).value =x.value∧(lvA lv x).data =x.data:=by
 unfold lvA; split <;> exact⟨rfl,rfl,rfl,rfl⟩
theorem fM (a0:Rewriter) (y:Int) (v:Port) (lv:Int) (tl:List Agent) (hB:a0.net.agents.length≤8000000) (hB1:1≤a0.net.agents.length) (hT:∀x ∈ tl,agB x=true∧Pin x) (hl:tl.length≤600) (hva:0≤v.agent∧v.agent<600):∀ (post pre acc:List Agent) (n:Nat),tl=pre++post→acc.length+post.length≤Big→10*post.length<n→
  Al n a0 y v (tl.map (lvA lv)) acc ((pre.map (lvA lv)).map HAgent.gone++(post.map (lvA lv)).map HAgent.full) (pre.length:Int)=(CV ⟨acc++post.map (expA ((a0.net.agents.length:Int) - 1) lv)⟩ ⟨y,0⟩ (sp ((a0.net.agents.length:Int) - 1) v)).bind fun z=>some ⟨z,a0.book,a0.removed⟩:=by
 intro post
 induction post with
 |nil=>
  intro pre acc n h F C
  obtain⟨n,rfl⟩:∃q,n=q+1:=⟨n - 1,by omega⟩
  rw [Al,if_neg (by rw [h]; simp),w64 (n:=(a0.net.agents.length:Int) - 1) (by omega) (by omega),w64 (by omega) (by omega),List.map_nil,List.append_nil]
  rfl
 | cons x post ih=>
  intro pre acc n h F C
  rw [List.length_cons] at F C
  obtain⟨h1,h2⟩:=hT x (by rw [h]; simp)
  have J:=Ca h1
  obtain⟨j,O,W,U⟩:=WX lv x
  obtain⟨n,rfl⟩:∃q,n=(x.ports.length+1+q)+1:=⟨n - x.ports.length - 2,by omega⟩
  have p:(pre.length:Int)=((List.length ((pre.map (lvA lv)).map HAgent.gone):Nat):Int):=by simp
  have u:pre.length<tl.length:=by rw [h]; simp
  rw [Al,if_pos (by rw [h]; grind),List.map_cons,List.map_cons,p,Hb,AA]
  have G:HAgent.full? (HAgent.full (lvA lv x))=some (lvA lv x):=rfl
  rw [G,AA,← p]
  have:=ZR a0 y (pre.length:Int) v (tl.map (lvA lv)) (((pre.map (lvA lv)).map HAgent.gone)++HAgent.full (lvA lv x)::(post.map (lvA lv)).map HAgent.full) (lvA lv x) acc hB hB1 x.ports [] n (by rw [j]; rfl) h2 (by grind)
  simp only [List.map_nil,List.nil_append,List.length_nil,Int.natCast_zero] at this
  rw [j,this,A8 (by grind),AA,w64 (by omega) (by omega)]
  have I:(((pre.map (lvA lv)).map HAgent.gone)++HAgent.full (lvA lv x)::(post.map (lvA lv)).map HAgent.full).set (Int.toNat (pre.length:Int)) (HAgent.gone (lvA lv x))=((pre++[x]).map (lvA lv)).map HAgent.gone++(post.map (lvA lv)).map HAgent.full:=by
   rw [Int.toNat_natCast,List.set_append_right _ _ (by simp)]
   simp
  have Y:(⟨(lvA lv x).kind,(lvA lv x).level,(lvA lv x).value,(lvA lv x).data,x.ports.map (sp ((a0.net.agents.length:Int) - 1))⟩:Agent)=expA ((a0.net.agents.length:Int) - 1) lv x:=by
   unfold expA; rw [O,W,U]
  rw [I,Y,show (pre.length:Int)+1=((List.length (pre++[x]):Nat):Int) from by simp,ih (pre++[x]) (acc++[expA ((a0.net.agents.length:Int) - 1) lv x]) n (As h) (by grind) (by omega),List.map_cons,List.append_assoc,List.singleton_append]
theorem No {α:Type} {l m:List α} {k:Int}:at? (l++m) k=if k<(l.length:Int) then at? l k else at? m (k - l.length):=by
 grind [at?]
theorem ai {α β:Type} {f:α→β} {l:List α} {k:Int}:at? (l.map f) k=(at? l k).map f:=by
 grind [at?]
theorem H1 {l m:List Agent} {p:Port}:Ab.get (l++m) p=if p.agent<(l.length:Int) then Ab.get l p else Ab.get m ⟨p.agent - l.length,p.slot⟩:=by
 unfold Ab.get Fu
 rw [No]
 split <;> rfl
theorem XN {T:List Agent} {off lv:Int} {k s:Int}:Ab.get ((T.drop 1).map (expA off lv)) ⟨k,s⟩=if 0≤k then (Ab.get T ⟨k+1,s⟩).map (sp off) else none:=by
 grind [Fu,at?,expA]
theorem lg (off lv:Int) (a:Agent):sh (expA off lv a)=(a.kind,(lvA lv a).level,a.value,a.data,a.ports.length):=by
 grind [sh,expA]
section
variable {S:Int→Prop} {X:Port→Prop} {A B:List Agent}
theorem sE {X:Port→Prop} (hm:M A X) {T:List Agent} (hT:Vn T) {v r:Port} (hv:Ab.get T ⟨0,0⟩=some v) (lv:Int) (hA:1≤A.length) (hX:∀p,X p→p.agent<(A.length:Int)):
  M (A++(T.drop 1).map (expA ((A.length:Int) - 1) lv)) fun p=>X p∨p=sp ((A.length:Int) - 1) v:=by
 have I:∀s q,Ab.get T ⟨0,s⟩=some q→s=0:=fun s q h=>by
  obtain⟨a,h1,h2⟩:=Aj.1 h
  obtain⟨U,g2⟩:=hT.ag _ _ h1
  have:=(M8 U).1 (.inl (g2.2 rfl))
  have:=DN h2
  grind
 have hv0:v.agent≠0:=fun e=>by
  obtain⟨-,h2,h3⟩:=hT.m _ _ hv not_false
  have u:v=⟨0,v.slot⟩:=Co e rfl
  grind
 have Y:1≤v.agent:=by
  obtain⟨-,-,h3⟩:=hT.m _ _ hv not_false
  have:=EF h3; omega
 intro p q hp hx
 rw [H1] at hp
 by_cases hlt:p.agent<(A.length:Int)
 ·rw [if_pos hlt] at hp
  obtain⟨h1,h2,h3⟩:=hm p q hp fun h=>hx (.inl h)
  have hq:=EF h3
  grind [H1,sp]
 ·rw [if_neg hlt,XN,if_pos (by omega)] at hp
  simp only [Option.map_eq_some_iff] at hp
  obtain⟨j,G,rfl⟩:=hp
  obtain⟨-,h2,h3⟩:=hT.m _ _ G not_false
  have W:=EF h3
  have O:j.agent≠0:=fun e=>by
   have u:j=⟨0,j.slot⟩:=Co e rfl
   have hs:=I j.slot _ (by rw [← u]; exact h3)
   have J:j=⟨0,0⟩:=Co e hs
   rw [J,hv] at h3
   cases h3
   exact hx (.inr (Co (by grind [sp]) rfl))
  refine⟨?_,fun e=>?_,?_⟩
  ·rintro (h|h)
   ·grind [sp]
   ·have C:=congrArg Port.agent h
    have u:=congrArg Port.slot h
    simp only [sp] at C u
    have J:j=v:=Co (by omega) u
    obtain⟨-,-,h4⟩:=hT.m _ _ hv not_false
    rw [J,h4] at h3
    grind
  ·have C:=congrArg Port.agent e
   have u:=congrArg Port.slot e
   simp only [sp] at C u
   exact h2 (Co (by grind) u)
  ·have F:¬ (sp ((A.length:Int) - 1) j).agent <(A.length:Int):=by grind [sp]
   rw [H1,if_neg F,XN,if_pos (by omega)]
   simp only [sp]
   rw [show (j.agent+((A.length:Int) - 1) - (A.length:Int)+1)=j.agent from by omega]
   have:(⟨j.agent,j.slot⟩:Port)=j:=rfl
   rw [this,h3]
   simp only [Option.map_some,sp]
   grind
theorem Ok.append (h:Ok S X A B) {E:List Agent} {Y:Port→Prop} (hm:M (A++E) Y) (hs:∀p,S p.agent→Y p):Ok S Y (A++E) (B++E):=by
 refine⟨by rw [List.length_append,List.length_append,h.len],fun k hk=>?_,fun k hk=>?_,hm,hs⟩
 ·rw [No,No,h.len,h.ag k hk]
 ·have:=h.s_lt hk
  rw [No,if_pos (by rw [← h.len]; omega)]; exact h.hl k hk
theorem fO (h:Ok S (fun p=>S p.agent) A B) {x y:Int} {a b:Agent} (hp:Pr S A x y a b) (ha:a.ports.length=1) {T:Net} (hT:Vn T.agents) (hlv:0≤a.level∧a.level≤8) (hok:okL a.level T.agents=true) (hA:A.length≤8000000):
  ∃A2 B2 new,(∀bk r,at? bk a.value=some T→ER ⟨⟨A⟩,bk,r⟩ x y=some ⟨⟨A2⟩,bk,r⟩)∧IN T ⟨B⟩ x y=some ⟨B2⟩∧Ok S (fun p=>S p.agent∨p.agent=x) A2 B2∧A2.map sh=A.map sh++new∧((∀n ∈ new,NB n)∧SV new)∧(new.length+1=T.agents.length∧1≤new.length)∧Fr A A2 (fun p=>S p.agent∨p.agent=x):=by
 obtain⟨h0,hne⟩:=h.start hp
 have hxl:=DN hp.hx
 have hyl:=DN hp.hy
 have I:1≤A.length:=by omega
 have C:=hT.len
 obtain⟨rt,j,-⟩:=EZ (l:=T.agents) (i:=0) (by omega)
 have hr1:=(M8 (hT.ag _ _ j).1).1 (.inl ((hT.ag _ _ j).2.2 rfl))
 obtain⟨v,hv,-⟩:=EZ (l:=rt.ports) (i:=0) (by omega)
 have hg:Ab.get T.agents ⟨0,0⟩=some v:=Aj.2 ⟨rt,j,hv⟩
 obtain⟨-,-,G⟩:=hT.m _ _ hg not_false
 have hvl:=EF G
 have hM:=sE (r:=v) h0.m hT hg a.level I (fun p hp'=>by
  rcases hp' with hs|hs|hs
  ·exact(h.s_lt hs).2
  ·rw [Aw] at hs; omega
  grind)
 have hO:=h0.append hM fun p hs=>.inl (.inl hs)
 have hv1:1≤v.agent:=by
  have hq:=hT.m _ _ hg not_false
  by_cases e:v.agent=0
  ·exfalso
   have e2:v=⟨0,v.slot⟩:=Co e rfl
   obtain⟨a',h1,h2⟩:=Aj.1 G
   rw [e] at h1
   rw [j] at h1; cases h1
   have:=DN h2
   grind
  ·omega
 have g1:Ab.get (A++(T.agents.drop 1).map (expA ((A.length:Int) - 1) a.level)) ⟨y,0⟩=some ⟨x,0⟩:=by
  rw [H1,if_pos hyl.2]
  exact(h.m _ _ hp.w hp.sx).2.2
 have g2:Ab.get (A++(T.agents.drop 1).map (expA ((A.length:Int) - 1) a.level)) (sp ((A.length:Int) - 1) v)=some (sp ((A.length:Int) - 1) ⟨0,0⟩):=by
  rw [H1,if_neg (by grind [sp]),XN,if_pos (by grind [sp])]
  simp only [sp]
  rw [show (v.agent+((A.length:Int) - 1) - (A.length:Int)+1)=v.agent from by omega]
  have:(⟨v.agent,v.slot⟩:Port)=v:=rfl
  rw [this,G]; rfl
 have ngt:¬S (sp ((A.length:Int) - 1) v).agent :=fun hs=>by have:=h.s_lt hs; grind [sp]
 obtain⟨e1,e2,e3,e4,hO2⟩:=hO.link g1 g2 (fun e=>by grind [sp]) (.inl (.inr (.inr rfl))) (.inr rfl) hp.sy ngt
 refine⟨_,_,(T.agents.drop 1).map fun t=>(t.kind,(lvA a.level t).level,t.value,t.data,t.ports.length),fun bk r hbk=>?_,?_,hO2.mono' (fun p q hq=>?_) fun p hs=>.inl hs,?_,⟨fun n W=>?_,fun n W=>?_⟩,⟨by grind,by grind⟩,fun p q h1 h2 n1 n2=>?_⟩
 ·unfold ER
  rw [hp.hx,AA,hbk,AA,AA,UO T a.level hT hlv,if_pos hok,AA]
  have hpe:Bf ⟨T.agents.map (lvA a.level)⟩ ⟨0,0⟩=some v:=by
   rw [UL]
   grind [P6,Aj,ai,WX]
  have O:cutL (T.agents.map (lvA a.level)) 1 ((List.length (T.agents.map (lvA a.level)):Nat):Int)=some ((T.agents.drop 1).map (lvA a.level)):=by
   grind [cutL,List.map_drop,List.take_of_length_le]
  simp only
  rw [hpe,AA,O,AA]
  have:=fM ⟨⟨A⟩,bk,r⟩ y v a.level (T.agents.drop 1) hA I (fun t u=>⟨hT.mem (List.mem_of_mem_drop u),hT.pin t (List.mem_of_mem_drop u)⟩) (by grind) (by omega) (T.agents.drop 1) [] A fuel rfl (by grind) (by rw [AY]; grind)
  simp only [List.map_nil,List.nil_append,List.length_nil,Int.natCast_zero] at this
  rw [this,e1,AA]
 ·unfold IN
  rw [hp.bx h,AA]
  obtain⟨U,J,F⟩:∃U J,T.agents=U::J:=by
   cases hh:T.agents with
   |nil=>rw [hh] at C; grind
   |cons U J=>grind
  have hd:T.agents.drop 1=J:=by rw [F]; rfl
  have:=fL T ⟨B⟩ y a rt v (by simp only; rw [← h.len]; exact hA) (by simp only; rw [← h.len]; omega) (fun t u=>⟨hT.mem u,hT.pin t u⟩) C.2 j hv (by omega) hlv J [U] B fuel F (by rw [← h.len]; rw [F] at C; grind) (by rw [AY]; rw [F] at C; grind)
  simp only [List.length_singleton,Int.natCast_one] at this
  rw [this,← hd,← h.len]
  exact e4
 ·have Y:p.agent=x→p.slot=0:=fun e=>by
   have:=Bw hq (x:=sh a) (by rw [ZF,List.map_append,e]; exact Cc (Em hp.hx))
   grind [sh]
  have hr:p=sp ((A.length:Int) - 1) v→(A.length:Int)≤p.agent:=fun e=>by rw [e]; grind [sp]
  constructor
  ·grind
  ·rintro (h1|h1)
   ·refine⟨.inl (.inl h1),fun e=>hp.sy (by rw [e] at h1; exact h1),fun e=>?_⟩
    grind
   ·refine⟨.inl (.inr (.inl (Co h1 (Y h1)))),fun e=>hne ?_,fun e=>?_⟩
    ·rw [← h1,e]
    grind
 ·rw [ZF,List.map_append,List.map_map]
  grind [List.map_congr_left,lg]
 ·obtain⟨t,u,rfl⟩:=List.mem_map.1 W
  have g:=hT.mem (List.mem_of_mem_drop u)
  exact⟨M0 g,(Ca g).2,by have:=Mx g; omega⟩
 ·obtain⟨t,u,rfl⟩:=List.mem_map.1 W
  have hm:=List.mem_of_mem_drop u
  have g:=hT.mem hm
  have hk1:t.kind≠1:=by
   obtain⟨i,hi,e⟩:=List.getElem_of_mem u
   rw [List.getElem_drop] at e
   rw [List.length_drop] at hi
   have:=(hT.ag ((1+i:Nat):Int) t (My (by rw [List.getElem?_eq_getElem (by omega),e]))).2
   omega
  refine⟨hk1,?_⟩
  have hs:(t.kind,(lvA a.level t).level,t.value,t.data,t.ports.length)=sh (lvA a.level t):=by
   unfold lvA sh; split <;> rfl
  rw [hs,ah]
  obtain⟨g1,g2,g3,g4⟩:=Nm g
  have ho:=List.all_eq_true.1 hok t hm
  grind [lvA,levB,UM,agB,Gy]
 ·have l1:=EF h1
  have py:p≠⟨y,0⟩:=fun e=>n2 (.inr (by
   have g3:=(h.m _ _ hp.w hp.sx).2.2
   rw [e,g3] at h1
   rw [← Option.some.inj h1]))
  grind [sp,J8,H1]
end
def AU:List Agent→Nat
 | [] =>0
 |a::l=>(if a.kind=0 then 0 else 1)+AU l
theorem I4 (l m:List Agent):AU (l++m)=AU l+AU m:=by
 induction l with
 |nil=>simp [AU]
 |cons a l ih=>rw [List.cons_append,AU,AU,ih]; omega
theorem Ps (l:List Agent):AU l≤l.length:=by
 induction l with
 |nil=>simp [AU]
 |cons a l ih=>rw [AU,List.length_cons]; split <;> omega
theorem UP {l m} (h:l.map (·.kind)=m.map (·.kind)):AU l=AU m:=by
 induction l generalizing m with
 |nil=>
  simp_all
 | cons a l ih=>
  cases m with
  |nil=>cases h
  |cons b m=>
   simp only [List.map_cons,List.cons.injEq] at h
   rw [AU,AU,h.1,ih h.2]
theorem Nj {l} (h:∀a ∈ l,a.kind≠0):AU l=l.length:=by
 induction l with
 |nil=>rfl
 |cons a l ih=>rw [AU,if_neg (h a List.mem_cons_self),ih fun b j=>h b (List.mem_cons_of_mem _ j),List.length_cons]; omega
theorem lh (n:Net) (hl:n.agents.length≤Big):Nh n=some ((AU n.agents:Nat):Int):=by
 have loop:∀ (post pre:List Agent) (k:Nat),n.agents=pre++post→post.length<k→Dc k n ((AU pre:Nat):Int) (pre.length:Int)=some ((AU n.agents:Nat):Int):=by
  intro post
  induction post with
  |nil=>
   intro pre k h hk
   obtain⟨k,rfl⟩:∃q,k=q+1:=⟨k - 1,by omega⟩
   rw [Dc,C0 h,if_neg (by simp),h,List.append_nil]
  |cons x post ih=>
   intro pre k h hk
   rw [List.length_cons] at hk
   obtain⟨k,rfl⟩:∃q,k=q+1:=⟨k - 1,by omega⟩
   have j:=ih (pre++[x]) k (As h) (by omega)
   have u:=Ps pre
   have p:pre.length≤Big:=by rw [h] at hl; grind
   rw [I4] at j
   rw [Dc,if_pos (Cb h),BZ h,AA]
   grind [AU,w64]
 exact loop n.agents [] fuel rfl (by rw [AY]; grind)
def remM (R:List Int):List (Int × Bool):=R.map fun k=>(k,true)
theorem Y0:∀ (R:List Int) (k:Int),(J0 (remM R) k).getD false=decide (k ∈ R)
 | [],k=>by rfl
 |r::R,k=>by
  have:=Y0 R k
  grind [remM,J0]
theorem ZS:∀ (R:List Int) (k:Int),k ∉ R→Mi (remM R) k true=remM (R++[k])
 | [],k,_=>rfl
 |r::R,k,h=>by
  have:=ZS R k fun e=>h (List.mem_cons_of_mem _ e)
  grind [remM,Mi]
theorem Q7 (R:List Int) (k:Int) (h:k ∉ R) (hl:R.length<Big):Rx (remM R) k true=some (remM (R++[k])):=by
 unfold Rx
 rw [if_pos (by grind [remM]),ZS R k h]
theorem lj (n:Net) (bk:List Net) (R:List Int) (x:Int) (h:x ∉ R) (hl:R.length<Big):BQ ⟨n,bk,remM R⟩ [x] =some ⟨n,bk,remM (R++[x])⟩:=by
 unfold BQ
 obtain⟨f,j⟩:∃f,fuel=f+1+1:=⟨fuel - 2,by rw [AY]⟩
 rw [j,Av,if_pos (by simp)]
 have:at? [x] 0=some x:=rfl
 simp only
 rw [this,AA,Q7 R x h hl,AA,w64 (by omega) (by omega),Av,if_neg (by simp)]
theorem ll (n:Net) (bk:List Net) (R:List Int) (x y:Int) (hx:x ∉ R) (hy:y ∉ R) (hne:x≠y) (hl:R.length+1<Big):BQ ⟨n,bk,remM R⟩ [x,y] =some ⟨n,bk,remM (R++[x] ++[y])⟩:=by
 unfold BQ
 obtain⟨f,p⟩:∃f,fuel=f+1+1+1:=⟨fuel - 3,by rw [AY]⟩
 rw [p,Av,if_pos (by simp)]
 have j:at? [x,y] 0=some x:=rfl
 have h1:at? [x,y] (0+1)=some y:=rfl
 simp only
 rw [j,AA,Q7 R x hx (by omega),AA,w64 (by omega) (by omega),Av,if_pos (by simp),h1,AA,Q7 (R++[x]) y (by grind) (by grind),AA,w64 (by omega) (by omega),Av,if_neg (by simp)]
structure Stt (R:List Int) (A B:List Agent):Prop where
 ok:Ok (fun k=>k ∈ R) (fun p=>p.agent ∈ R) A B
 cnt:AU B+R.length=B.length
 nb:∀a ∈ A,NB (sh a)
theorem ZT {R:List Int} {X Y:Port→Prop} {A B A' B':List Agent} {new:List Sh} (h:Ok (fun k=>k ∈ R) X A B) (h':Ok (fun k=>k ∈ R) Y A' B') (hs:A'.map sh=A.map sh++new):B'.map (·.kind)=B.map (·.kind)++new.map (·.1):=by
 have e:A'.map (·.kind)=A.map (·.kind)++new.map (·.1):=by
  have:=congrArg (List.map (·.1)) hs
  rw [List.map_append,List.map_map,List.map_map] at this
  exact this
 have j:=congrArg List.length e
 simp only [List.length_append,List.length_map] at j
 have l1:=h.len
 have l2:=h'.len
 apply List.ext_getElem?
 intro i
 by_cases hi:i<A'.length
 ·by_cases hr:(i:Int) ∈ R
  ·have k1:=h.hl _ hr
   have k2:=h'.hl _ hr
   have k3:=DN k1
   rw [List.getElem?_append_left (by rw [List.length_map]; omega),List.getElem?_map,List.getElem?_map]
   obtain⟨-,k4⟩:=Au k1
   obtain⟨-,k5⟩:=Au k2
   rw [Int.toNat_natCast] at k4 k5
   rw [k4,k5]
  ·have k1:=h.ag _ hr
   have k2:=h'.ag _ hr
   unfold at? at k1 k2
   rw [if_pos (by omega),Int.toNat_natCast] at k1 k2
   rw [if_pos (by omega)] at k1 k2
   have p:=congrArg (fun l=>l[i]?) e
   grind
 grind
theorem fP {l} {i} {a} (h:l[i]? =some a) (hk:a.kind≠0):AU (l.set i iu)+1=AU l:=by
 induction l generalizing i with
 |nil=>grind
 | cons b l ih=>
  cases i with
  |zero=>
   simp only [List.getElem?_cons_zero,Option.some.injEq] at h
   subst h
   rw [List.set_cons_zero,AU,AU,if_neg hk,if_pos (by rfl)]; omega
  |succ i=>
   rw [List.getElem?_cons_succ] at h
   rw [List.set_cons_succ,AU,AU,← ih h]; omega
theorem Ok.rem {R} {X} {A B} (h:Ok (fun k=>k ∈ R) X A B) {x} {a} (ha:at? A x=some a) (hx:x ∉ R) (hX:∀p:Port,p.agent=x→X p):
  ET ⟨B⟩ x=some ⟨B.set x.toNat iu⟩∧Ok (fun k=>k ∈ R++[x]) X A (B.set x.toNat iu)∧(a.kind≠0→AU (B.set x.toNat iu)+1=AU B):=by
 have q:at? B x=some a:=(h.ag x hx).symm.trans ha
 refine⟨?_,⟨by rw [List.length_set]; exact h.len,fun k hk=>?_,fun k hk=>?_,h.m,fun p hp=>?_⟩,fun hk=>?_⟩
 ·unfold ET Br aV
  rw [q,AA,AA]; rfl
 ·have j:k ∉ R∧k≠x:=by grind
  rw [XG q,if_neg j.2]; exact h.ag k j.1
 ·rw [XG q]
  rcases List.mem_append.1 hk with e|e
  ·rw [if_neg (fun e2:k=x=>hx (e2 ▸ e))]; exact h.hl k e
  grind
 ·rcases List.mem_append.1 hp with e|e
  ·exact h.sx p e
  grind
 simp_all [fP,Au]
theorem Stt.both {R:List Int} {A B:List Agent} (hst:Stt R A B) {x y:Int} {a b:Agent} (hp:Pr (fun k=>k ∈ R) A x y a b) (hne:x≠y) {new:List Sh} {A2 B2:List Agent} (d:Done (fun k=>k ∈ R) A x y new A2 B2) (hn:∀n ∈ new,NB n) (bk:List Net) (hR:R.length+1<Big):
  ∃B3 B4,ET ⟨B2⟩ x=some ⟨B3⟩∧ET ⟨B3⟩ y=some ⟨B4⟩∧BQ ⟨⟨A2⟩,bk,remM R⟩ [x,y] =some ⟨⟨A2⟩,bk,remM (R++[x] ++[y])⟩∧Stt (R++[x] ++[y]) A2 B4:=by
 have j:∀a ∈ A2,NB (sh a):=fun a G=>by
  have:=List.mem_map_of_mem (f:=sh) G
  rw [d.shp] at this
  rcases List.mem_append.1 this with e|e
  ·obtain⟨c,hc,e⟩:=List.mem_map.1 e
   rw [← e]; exact hst.nb c hc
  grind
 have u:=Cc (m:=new) (Em hp.hx)
 have q:=Cc (m:=new) (Em hp.hy)
 rw [← d.shp] at u q
 obtain⟨J,C,-⟩:=Pv u
 obtain⟨I,v,-⟩:=Pv q
 have ka:J.kind≠0:=(j J (List.mem_of_getElem? (Au C).2)).2.2
 have kb:I.kind≠0:=(j I (List.mem_of_getElem? (Au v).2)).2.2
 obtain⟨O,o1,U⟩:=d.ok.rem C hp.sx fun p hp=>.inr (.inl hp)
 obtain⟨Y,F,W⟩:=o1.rem v (by simp only [List.mem_append,List.mem_singleton,not_or]; exact⟨hp.sy,fun e=>hne e.symm⟩) fun p hp=>.inr (.inr hp)
 refine⟨_,_,O,Y,ll _ _ R x y hp.sx hp.sy hne hR,⟨F.len,F.ag,F.hl,F.m.mono fun p=>?_,fun p hp=>hp⟩,?_,j⟩
 ·grind
 ·have hk:=ZT hst.ok d.ok d.shp
  have l1:=congrArg List.length hk
  simp only [List.length_map,List.length_append] at l1
  have c3:AU B2=AU B+new.length:=by
   have:AU B2=AU (B++new.map fun s=>(⟨s.1,0,0,[],[]⟩:Agent)):=UP (by rw [hk,List.map_append,List.map_map]; rfl)
   rw [this,I4,Nj (l:=new.map _),List.length_map]
   intro a G
   obtain⟨s,hs,rfl⟩:=List.mem_map.1 G
   exact(hn s hs).2.2
  have:=U ka
  have:=W kb
  have:=hst.cnt
  grind
theorem Stt.one {R:List Int} {A B:List Agent} (hst:Stt R A B) {x:Int} {a:Agent} (hx:at? A x=some a) (sx:x ∉ R) {new:List Sh} {A2 B2:List Agent} (ok:Ok (fun k=>k ∈ R) (fun p=>p.agent ∈ R∨p.agent=x) A2 B2) (hs:A2.map sh=A.map sh++new) (hn:∀n ∈ new,NB n) (bk:List Net) (hR:R.length<Big):
  ∃B3,ET ⟨B2⟩ x=some ⟨B3⟩∧BQ ⟨⟨A2⟩,bk,remM R⟩ [x] =some ⟨⟨A2⟩,bk,remM (R++[x])⟩∧Stt (R++[x]) A2 B3:=by
 have q:∀a ∈ A2,NB (sh a):=fun a C=>by
  have:=List.mem_map_of_mem (f:=sh) C
  rw [hs] at this
  rcases List.mem_append.1 this with e|e
  ·obtain⟨c,J,e⟩:=List.mem_map.1 e
   rw [← e]; exact hst.nb c J
  grind
 have j:=Cc (m:=new) (Em hx)
 rw [← hs] at j
 obtain⟨F,u,-⟩:=Pv j
 have O:F.kind≠0:=(q F (List.mem_of_getElem? (Au u).2)).2.2
 obtain⟨G,v,I⟩:=ok.rem u sx fun p hp=>.inr hp
 refine⟨_,G,lj _ _ R x sx hR,⟨v.len,v.ag,v.hl,v.m.mono fun p=>by simp,fun p hp=>hp⟩,?_,q⟩
 have hk:=ZT hst.ok ok hs
 have l1:=congrArg List.length hk
 simp only [List.length_map,List.length_append] at l1
 have U:AU B2=AU B+new.length:=by
  have:AU B2=AU (B++new.map fun s=>(⟨s.1,0,0,[],[]⟩:Agent)):=UP (by rw [hk,List.map_append,List.map_map]; rfl)
  rw [this,I4,Nj (l:=new.map _),List.length_map]
  intro a C
  obtain⟨s,hs,rfl⟩:=List.mem_map.1 C
  exact(hn s hs).2.2
 have:=I O
 have:=hst.cnt
 grind
theorem sF {a b} (h:pfi a b=0):kcl a b=8:=by
 grind [pfi,kcl,pcl]
theorem sG {a b} (h:pfi a b=1):ru a.kind a.level b.kind b.level≠0∧pcl a b=ru a.kind a.level b.kind b.level:=by
 grind [pfi,pcl]
theorem sH {a b} (h:pfi a b=2):ru b.kind b.level a.kind a.level≠0∧pcl b a=ru b.kind b.level a.kind a.level∧pcl a b=pcl b a:=by
 grind [pfi,pcl]
theorem fQ (a b:Agent):pfi a b=0∨pfi a b=1∨pfi a b=2:=by
 grind [pfi]
theorem jG {a b} (h:pcl a b=pcl b a):kcl a b=kcl b a:=by
 unfold kcl
 rw [h]
 by_cases h1:DT a b=true <;> by_cases h2:DT b a=true <;> simp [h1,h2]
def G0 (bk:List Net) (c:Int) (a:Agent):Int:=
 if c=8 then 11 else if c=7 then match at? bk a.value with
  |none=>3
  |some T=>if okL a.level T.agents=true then 0 else 9
 else 0
def M9 (bk:List Net) (c:Int) (a b:Agent):Int:=
 if c=3∨c=4 then (b.ports.length:Int) - 1 else if c=6 then (if a.kind=9 then (a.ports.length:Int) - 1 else 0)
 else if c=7 then match at? bk a.value with
  |none=>0
  |some T=>(T.agents.length:Int)
 else 0
section
variable {A B:List Agent} {bk:List Net}
theorem Q8 {x y} {a} (ha:at? A x=some a) (ga:agB a=true) (hbk:∀T ∈ bk,Vn T.agents) (r:List (Int × Bool)) (c:Int) (hv:c=7→0≤a.value) (sw:Bool):
  Cd ⟨⟨A⟩,bk,r⟩ (c,sw) x y=some (if G0 bk c a=0 then (c,x,y,0) else (0,0,0,G0 bk c a)):=by
 unfold Cd DW G0
 by_cases h8:c=8
 ·grind
 ·by_cases h7:c=7
  ·subst h7
   simp only [show ¬ ((7:Int)=8) from by omega,decide_false,Bool.false_eq_true,if_false,decide_true,if_true]
   have hv:=hv rfl
   rw [ha,AA]
   by_cases hlt:(bk.length:Int)≤a.value
   ·rw [if_pos (by grind),Li (by omega)]
    simp
   ·rw [if_neg (by grind)]
    obtain⟨T,j,hm⟩:=EZ (l:=bk) (i:=a.value) (by omega)
    rw [j,AA,UO T a.level (hbk T hm) (I6 ga),AA]
    grind
  grind
theorem jH {x y} {a b} (ha:at? A x=some a) (hb:at? A y=some b) (ga:agB a=true) (gb:agB b=true) (r:List (Int × Bool)) (c:Int) (he:G0 bk c a=0):
  EO ⟨⟨A⟩,bk,r⟩ c x y=some (grow c (M9 bk c a b)):=by
 have hp:=Ca ga
 have j:=Ca gb
 have hj:∀n,BA ⟨⟨A⟩,bk,r⟩ c n=some (grow c n):=fun n=>by
  unfold BA
  obtain⟨e,h⟩:=a7 c n
  rw [h,AA]
 grind [EO,C9,M9,w64,G0]
theorem jI {px py x y} {a b} (hF:Ed ⟨B⟩ px py=some (x,y)) (ha:at? B x=some a) (hb:at? B y=some b) (h2:Two a b) (ga:agB a=true) (gb:agB b=true) (hv:kcl a b=7→0≤a.value) (hbk:∀T ∈ bk,Vn T.agents):
  IM bk ⟨B⟩ px py=some (if G0 bk (kcl a b) a=0 then (grow (kcl a b) (M9 bk (kcl a b) a b),0) else (0,G0 bk (kcl a b) a)):=by
 have hp:=Ca ga
 have I:=Ca gb
 have hj:∀n,-1000000000000≤n∧n≤1000000000000→DE (kcl a b) n=some (grow (kcl a b) n,0):=fun n C=>by
  unfold DE
  obtain⟨e,h⟩:=a8 (kcl a b) n C
  rw [h,AA]
 unfold IM F5
 rw [hF,AA,ha,AA,hb,AA,J6 h2,AA]
 generalize kcl a b=c at*
 unfold G0 M9
 by_cases h8:c=8
 ·grind
 ·rw [if_neg (by grind),if_neg h8]
  by_cases h3:c=3
  ·grind [w64]
  ·by_cases h4:c=4
   ·grind [w64]
   ·by_cases h6:c=6
    ·grind [Dm,w64]
    ·by_cases h7:c=7
     ·subst h7
      simp only [show ¬ ((7:Int)=3) from by omega,show ¬ ((7:Int)=4) from by omega,show ¬ ((7:Int)=6) from by omega,decide_false,decide_true,Bool.false_eq_true,if_true,if_false,or_false]
      have hv:=hv rfl
      by_cases hlt:(bk.length:Int)≤a.value
      ·rw [if_pos (by grind),Li (by omega)]
       simp
      ·rw [if_neg (by grind)]
       obtain⟨T,v,hm⟩:=EZ (l:=bk) (i:=a.value) (by omega)
       have j:=hbk T hm
       have F:=I6 ga
       have u:=j.len
       have G:hiL 0 T.agents≤8:=(XM _ _ _).2 ⟨by omega,fun t p=>(I6 (j.mem p)).2⟩
       have q:0≤hiL 0 T.agents:=by
        by_cases e:hiL 0 T.agents≤ -1
        ·simp_all [XM]
        ·omega
       rw [v,AA,AA,sD T (by grind),AA,w64 (by omega) (by omega)]
       simp only
       rw [oM (fun t p=>j.mem p) F]
       grind
     grind
end
theorem XO (a b:Agent):let c:=ru a.kind a.level b.kind b.level
  (0≤c∧c≤7)∧(c=1→a.kind=2∧b.kind=3)∧(c=2→a.kind=4∧b.kind=4)∧(c=3→a.kind=4)∧(c=4→a.kind=5)∧(c=5→a.kind=6∧(b.kind=7∨b.kind=8))∧(c=6→(a.kind=6∧b.kind=11)∨(a.kind=9∧b.kind=10))∧(c=7→a.kind=12):=by
 intro c
 have j:c=ru a.kind a.level b.kind b.level:=rfl
 clear_value c
 unfold ru at j
 repeat' split at j
 all_goals omega
structure RuInv (c:Int) (a b:Agent):Prop where
 k1:c=1→a.kind=2∧b.kind=3
 k2:c=2→a.kind=4∧b.kind=4
 k3:c=3→a.kind=4
 k4:c=4→a.kind=5
 k5:c=5→a.kind=6∧(b.kind=7∨b.kind=8)
 k6:c=6→(a.kind=6∧b.kind=11)∨(a.kind=9∧b.kind=10)
 k7:c=7→a.kind=12
structure PkInv (a:Agent):Prop where
 p1:a.kind=1∨a.kind=5∨a.kind=6∨a.kind=12→a.ports.length=1
 p2:a.kind=8∨a.kind=10∨a.kind=11→a.ports.length=2
 p3:a.kind=2∨a.kind=3∨a.kind=4∨a.kind=7→a.ports.length=3
theorem sI {a} (h:agB a=true):Gy a=true:=by
 grind [agB]
theorem K5 {a} (h:agB a=true):(a.kind=7→a.data.length=0)∧(a.kind=8→a.data.length=1)∧(a.kind=9→0≤a.value)∧(a.kind=11→a.data.length=2)∧(a.kind=12→0≤a.value):=by
 have h:=sI h
 grind [Gy,Gn]
section
variable {R:List Int} {A B:List Agent}
structure Outc (R:List Int) (A:List Agent) (x y:Int) (R':List Int) (A' B':List Agent) (new:List Sh):Prop where
 st:Stt R' A' B'
 shp:A'.map sh=A.map sh++new
 nl:new.length≤600
 sv:SV new
 fr:∀p q,Ab.get A p=some q→Ab.get A q=some p→p.agent ∉ R'→q.agent ∉ R'→Ab.get A' p=some q
 mem:∀k,k ∈ R'↔k ∈ R∨k=x∨(k=y∧y ∈ R')
theorem NA (hst:Stt R A B) {x y} {a b} (hp:Pr (fun k=>k ∈ R) A x y a b) (hne:x≠y) {new} {A2 B2} (d:Done (fun k=>k ∈ R) A x y new A2 B2) (hn:NBs new) (sv:SV new) (hR:R.length+1<Big) (bk:List Net) (a0:Rewriter) (h0:a0.book=bk) (c:Int) (hc:c≠7) (v:Int × Int × Int × Int) (hv:v.2.1 =x∧v.2.2.1 =y) (z:Int × Int) (hz:z=(x,y)):
  ∃j,Ac a0 v (remM R) A2=some (0,⟨⟨A2⟩,bk,remM (R++[x] ++[y])⟩)∧Cz z c B2=some (0,⟨j⟩)∧Outc R A x y (R++[x] ++[y]) A2 j new:=by
 obtain⟨O,j,u,G,J,I⟩:=hst.both hp hne d hn.1 bk hR
 subst h0 hz
 refine⟨j,?_,?_,I,d.shp,hn.2,sv,fun p q h1 h2 C F=>d.fr p q h1 h2 (fun e=>C (by rcases e with e|e|e <;> simp [e])) (fun e=>F (by rcases e with e|e|e <;> simp [e])),fun k=>?_⟩
 ·unfold Ac
  rw [hv.1,hv.2,J,AA]
 ·unfold Cz
  rw [u,AA,if_pos (by grind),G,AA]
 grind
theorem lm (hst:Stt R A B) {x y} {a b} (hp:Pr (fun k=>k ∈ R) A x y a b) (ga:agB a=true) (gb:agB b=true) (kb:b.kind≠1) (c:Int) (hc:ru a.kind a.level b.kind b.level=c) (hc0:c≠0) (hno:c=6→a.kind=9→a.value<(b.data.length:Int)) (hA:A.length≤8000000) (bk:List Net) (hbk:∀T ∈ bk,Vn T.agents) (he:G0 bk c a=0):
  ∃R' A' B' new,BX ⟨⟨A⟩,bk,remM R⟩ (c,x,y,0) (decide (c=1∨c=2))=some (0,⟨⟨A'⟩,bk,remM R'⟩)∧Gl bk ⟨B⟩ (x,y) c (decide (c=1∨c=2))=some (0,⟨B'⟩)∧Outc R A x y R' A' B' new∧((AU B':Nat):Int)=((AU B:Nat):Int)+grow c (M9 bk c a b)∧R'=(if c=7 then R++[x] else R++[x] ++[y]):=by
 have j:=hst.ok
 have G:=(j.start hp).2
 have F:R.length+1<Big:=by
  have:=hst.cnt
  have:=j.len
  grind
 obtain⟨hcr,K⟩:(0≤c∧c≤7)∧RuInv c a b:=by
  obtain⟨h,k1,k2,k3,k4,k5,k6,k7⟩:=XO a b
  rw [hc] at h k1 k2 k3 k4 k5 k6 k7
  exact⟨h,k1,k2,k3,k4,k5,k6,k7⟩
 have pa:PkInv a:=⟨(M8 ga).1,(M8 ga).2.1,(M8 ga).2.2⟩
 have pb:PkInv b:=⟨(M8 gb).1,(M8 gb).2.1,(M8 gb).2.2⟩
 have hp4:=Ca ga
 have Y:=Ca gb
 have hbd:=M0 gb
 have lv:∀ {R':List Int} {A' B':List Agent} {new:List Sh},Outc R A x y R' A' B' new→((AU B':Nat):Int)=((AU B:Nat):Int)+(new.length:Int) - ((R'.length:Int) - (R.length:Int)):=fun {R' A' B' new} o=>by
  have c1:=o.st.cnt
  have c2:=hst.cnt
  have c3:=o.st.ok.len
  have c4:=j.len
  have c5:=Lc o.shp
  rw [List.length_append,List.length_map] at c5
  omega
 have lv2:∀ {A' B':List Agent} {new:List Sh},Outc R A x y (R++[x] ++[y]) A' B' new→∀g:Int,g=(new.length:Int) - 2→((AU B':Nat):Int)=((AU B:Nat):Int)+g:=fun {A' B' new} o g hg=>by
  grind
 by_cases h12:c=1∨c=2
 ·have ha3:a.ports.length=3:=by
   rcases h12 with e|e
   ·exact pa.p3 (.inl (K.k1 e).1)
   ·exact pa.p3 (.inr (.inr (.inl (K.k2 e).1)))
  have hb3:b.ports.length=3:=by
   rcases h12 with e|e
   ·exact pb.p3 (.inr (.inl (K.k1 e).2))
   ·exact pb.p3 (.inr (.inr (.inl (K.k2 e).2)))
  obtain⟨A1,C,B1,I,v,U,f1,f2,d⟩:=lf j hp ha3 hb3
  obtain⟨B4,O,W,J⟩:=NA hst hp G d (And.intro (fun n u=>by cases u) (by simp)) (fun n u=>by cases u) F bk ⟨⟨A⟩,bk,remM R⟩ rfl c (by omega) (c,x,y,0) ⟨rfl,rfl⟩ (x,y) rfl
  refine⟨_,C,B4,_,?_,?_,J,lv2 J _ (by rcases h12 with e|e <;> simp [grow,M9,e]),by rw [if_neg (by omega)]⟩
  ·grind [BX]
  simp_all [Gl,DI]
 ·have hd:decide (c=1∨c=2)=false:=by grind
  rw [hd]
  unfold BX Gl
  rw [if_neg (show ¬ ((false:Bool)=true) from by simp),if_neg (show ¬ ((false:Bool)=true) from by simp)]
  simp only
  by_cases h3:c=3
  ·obtain⟨C,I,new,v,f1,d,u,sv,nl⟩:=oL j hp ga gb (K.k3 h3) kb (pa.p3 (.inr (.inr (.inl (K.k3 h3))))) Y.1 Y.2 hbd (by have:=Mx gb; omega) hA
   obtain⟨B4,O,W,J⟩:=NA hst hp G d u sv F bk ⟨⟨A⟩,bk,remM R⟩ rfl c (by omega) (c,x,y,0) ⟨rfl,rfl⟩ (x,y) rfl
   grind [grow,M9]
  ·have n3:¬ (decide (c=3)=true):=by grind
   rw [if_neg n3,if_neg n3]
   by_cases h4:c=4
   ·obtain⟨C,I,v,f1,d⟩:=i8 j hp (pa.p1 (.inr (.inl (K.k4 h4)))) Y.1 (by omega) hA ⟨⟨A⟩,bk,remM R⟩ (c,x,y,0) rfl (remM R) (x,y) rfl c
    obtain⟨B4,O,W,J⟩:=NA hst hp G d ⟨fun n u=>by rw [(List.mem_replicate.1 u).2]; exact⟨by simp [Jb],by simp [Jb],by simp [Jb]⟩,by rw [List.length_replicate]; omega⟩ (fun n u=>by rw [(List.mem_replicate.1 u).2]; exact⟨by simp [Jb],by rfl⟩) F bk ⟨⟨A⟩,bk,remM R⟩ rfl c (by omega) (c,x,y,0) ⟨rfl,rfl⟩ (x,y) rfl
    refine⟨_,C,B4,_,?_,?_,J,lv2 J _ (by grind [grow,M9]),by rw [if_neg (by omega)]⟩
    ·rw [if_pos (by grind),v]; exact O
    ·rw [if_pos (by grind),hp.bY j,AA,f1]; exact W
   ·have n4:¬ (decide (c=4)=true):=by grind
    rw [if_neg n4,if_neg n4]
    by_cases h5:c=5
    ·obtain⟨C,I,new,v,f1,d,u,sv,nl⟩:=bB j hp ga gb (K.k5 h5).1 (pa.p1 (.inr (.inr (.inl (K.k5 h5).1)))) (by
      rcases (K.k5 h5).2 with e|e
      ·exact .inl ⟨e,pb.p3 (.inr (.inr (.inr e))),(K5 gb).1 e⟩
      ·exact .inr ⟨e,pb.p2 (.inl e),(K5 gb).2.1 e⟩) hA
     obtain⟨B4,O,W,J⟩:=NA hst hp G d u sv F bk ⟨⟨A⟩,bk,remM R⟩ rfl c (by omega) (c,x,y,0) ⟨rfl,rfl⟩ (x,y) rfl
     grind [grow,M9]
    ·have n5:¬ (decide (c=5)=true):=by grind
     rw [if_neg n5,if_neg n5]
     by_cases h6:c=6
     ·obtain⟨C,I,new,v,f1,d,u,sv,nl⟩:∃C I new,(∀bk r,B7 ⟨⟨A⟩,bk,r⟩ x y=some ⟨⟨C⟩,bk,r⟩)∧E8 ⟨B⟩ x y=some ⟨I⟩∧Done (fun k=>k ∈ R) A x y new C I∧NBs new∧SV new∧(new.length:Int)=M9 bk 6 a b+1:=by
       rcases K.k6 h6 with ⟨v,U⟩|⟨v,U⟩
       ·obtain⟨C,I,new,z1,z2,z3,z4,z5,z6⟩:=fH j hp gb (pa.p1 (.inr (.inr (.inl v)))) v U (pb.p2 (.inr (.inr U))) ((K5 gb).2.2.2.1 U) hA
        grind [M9]
       ·obtain⟨C,I,new,z1,z2,z3,z4,z5,z6⟩:=jE j hp gb v U (a.ports.length - 1) (by omega) (by omega) (pb.p2 (.inr (.inl U))) hbd ((K5 ga).2.2.1 v) (hno h6 v) hA
        grind [M9]
      obtain⟨B4,O,W,J⟩:=NA hst hp G d u sv F bk ⟨⟨A⟩,bk,remM R⟩ rfl c (by omega) (c,x,y,0) ⟨rfl,rfl⟩ (x,y) rfl
      grind [M9,grow]
     ·have h7:c=7:=by omega
      have n6:¬ (decide (c=6)=true):=by grind
      have p7:decide (c=7)=true:=by grind
      rw [if_neg n6,if_neg n6,if_pos p7,if_pos p7]
      unfold G0 at he
      rw [if_neg (by omega),if_pos h7] at he
      cases hT:at? bk a.value with
      |none=>rw [hT] at he; grind
      | some T=>
       rw [hT] at he
       have hok:okL a.level T.agents=true:=by
        grind
       have hm:T ∈ bk:=List.mem_of_getElem? (Au hT).2
       obtain⟨C,I,new,v,f1,o,s,⟨u,sv⟩,⟨hl,hl1⟩,hfr⟩:=fO j hp (pa.p1 (.inr (.inr (.inr (K.k7 h7))))) (hbk T hm) (I6 ga) hok hA
       obtain⟨B3,O,W,J⟩:=hst.one hp.hx hp.sx o s u bk (by omega)
       have hO:Outc R A x y (R++[x]) C B3 new:=⟨J,s,by have:=(hbk T hm).len; omega,sv,fun p q h1 h2 n1 n2=>hfr p q h1 h2 (fun e=>n1 (by grind)) (fun e=>n2 (by grind)),fun k=>by
        grind⟩
       refine⟨_,C,B3,new,?_,?_,hO,?_,by rw [if_pos h7]⟩
       ·rw [v bk (remM R) hT,AA,W,AA]
       ·rw [hp.bx j,AA,hT,AA,f1,AA]
        unfold Cz
        simp only
        rw [O,AA,if_neg (by grind)]
       ·have:=lv hO
        rw [List.length_append,List.length_singleton] at this
        have hTl:=(hbk T hm).len
        grind [grow,M9]
end
theorem lp (c n:Int): -2≤grow c n∧grow c n≤600:=by
 grind [grow]
theorem XP {a b} (h:kcl a b≠8):DT a b=false∧DT b a=false∧kcl a b=pcl a b:=by
 grind [kcl]
section
variable {R:List Int} {A B:List Agent}
theorem step_ord (hst:Stt R A B) {px py x y} {a b} (hp:Pr (fun k=>k ∈ R) A x y a b) (ga:agB a=true) (gb:agB b=true) (h2:Two a b) (bk:List Net) (hbk:∀T ∈ bk,Vn T.agents) (hA:A.length≤8000000)
  (hF:Ed ⟨B⟩ px py=some (x,y)) (hr:kcl a b≠8→ru a.kind a.level b.kind b.level≠0∧pcl a b=ru a.kind a.level b.kind b.level)
  (hC:CR ⟨⟨A⟩,bk,remM R⟩ ⟨px,py⟩=some (if G0 bk (kcl a b) a=0 then (kcl a b,x,y,0) else (0,0,0,G0 bk (kcl a b) a))):
  (∃e,e≠0∧A6 ⟨⟨A⟩,bk,remM R⟩ ⟨px,py⟩=some (e,⟨⟨A⟩,bk,remM R⟩)∧J3 bk ⟨B⟩ px py=some (e,⟨B⟩))∨
   (∃J I C new,(kcl a b≠8∧AU C≤600)∧A6 ⟨⟨A⟩,bk,remM R⟩ ⟨px,py⟩=some (0,⟨⟨I⟩,bk,remM J⟩)∧J3 bk ⟨B⟩ px py=some (0,⟨C⟩)∧Outc R A x y J I C new):=by
 have p:=hst.ok
 have hv:kcl a b=7→0≤a.value:=fun e=>by
  have u:kcl a b≠8:=by omega
  obtain⟨h3,F⟩:=hr u
  obtain⟨-,-,G⟩:=XP u
  have h6:=(XO a b).2.2.2.2.2.2.2
  grind [K5]
 have O:=jI hF (hp.bx p) (hp.bY p) h2 ga gb hv hbk
 unfold A6 J3
 rw [hC,AA,O,AA]
 by_cases he:G0 bk (kcl a b) a=0
 ·rw [if_pos he,if_pos he]
  have u:kcl a b≠8:=fun e=>by rw [e] at he; grind [G0]
  obtain⟨h3,F⟩:=hr u
  obtain⟨n1,n2,G⟩:=XP u
  have W:AU B≤B.length:=Ps B
  have U:=hst.cnt
  have hl3:=p.len
  have Y:=lp (kcl a b) (M9 bk (kcl a b) a b)
  have q:Eu ⟨⟨A⟩,bk,remM R⟩=some ((AU B:Nat):Int):=by
   grind [Eu,remM,w64]
  have j:=lh ⟨B⟩ (by grind)
  simp only at j
  simp only [decide_true,Bool.not_true,Bool.false_eq_true,if_false]
  rw [q,AA,jH hp.hx hp.hy ga gb (remM R) (kcl a b) he,AA,j,AA]
  rw [w64 (by omega) (by omega)]
  by_cases h6:(600:Int)<((AU B:Nat):Int)+grow (kcl a b) (M9 bk (kcl a b) a b)
  ·rw [if_pos (by grind),if_pos (by grind)]
   simp_all
  ·have v:¬ (decide ((600:Int)<((AU B:Nat):Int)+grow (kcl a b) (M9 bk (kcl a b) a b))=true):=by grind
   rw [if_neg v,if_neg v,hF,AA,hp.bx p,AA,hp.bY p,AA,J6 h2,AA]
   obtain⟨J,I,C,new,r1,r2,r3,r4⟩:=lm hst hp ga gb h2.rb (kcl a b) (by rw [G,F]) (by rw [G,F]; exact h3) (fun e1 e2=>by
    have h7:=(XO a b).2.2.2.2.2.2.1 (by rw [← F,← G,e1])
    grind [DT]) hA bk hbk he
   grind
 simp_all
theorem step (hst:Stt R A B) {px py} {a b} (hp:Pr (fun k=>k ∈ R) A px py a b) (ga:agB a=true) (gb:agB b=true) (ka:a.kind≠1) (kb:b.kind≠1) (bk:List Net) (hbk:∀T ∈ bk,Vn T.agents) (hA:A.length≤8000000):
  (∃e,e≠0∧A6 ⟨⟨A⟩,bk,remM R⟩ ⟨px,py⟩=some (e,⟨⟨A⟩,bk,remM R⟩)∧J3 bk ⟨B⟩ px py=some (e,⟨B⟩))∨
   (∃x y R' A' B' new,((x=px∧y=py)∨(x=py∧y=px))∧(kcl a b≠8∧AU B'≤600)∧A6 ⟨⟨A⟩,bk,remM R⟩ ⟨px,py⟩=some (0,⟨⟨A'⟩,bk,remM R'⟩)∧J3 bk ⟨B⟩ px py=some (0,⟨B'⟩)∧Outc R A x y R' A' B' new):=by
 have u:=hst.ok
 have h2:Two a b:=⟨P8 ga,P8 gb,ka,kb⟩
 obtain⟨J,C,F⟩:=R5 (i:=px) (j:=py) hp.hx hp.hy h2
 have q:Ed ⟨B⟩ px py=some (if pfi a b=2 then (py,px) else (px,py)):=by
  unfold Ed
  rw [hp.bx u,AA,hp.bY u,AA,WQ h2,AA]
  by_cases e:pfi a b=2 <;> simp [e]
 have hv:∀ {a b:Agent},agB a=true→kcl a b=7→pcl a b=ru a.kind a.level b.kind b.level→0≤a.value:=fun {a b} ga e h4=>by
  obtain⟨-,-,h5⟩:=XP (a:=a) (b:=b) (by omega)
  have h6:=(XO a b).2.2.2.2.2.2.2
  grind [K5]
 by_cases h22:pfi a b=2
 ·obtain⟨Y,U,q3⟩:=sH h22
  have hk:kcl a b=kcl b a:=jG q3
  rw [if_pos h22] at q
  have I:Pr (fun k=>k ∈ R) A py px b a:=⟨hp.hy,hp.hx,(u.m _ _ hp.w hp.sx).2.2,hp.sy,hp.sx⟩
  have O:CR ⟨⟨A⟩,bk,remM R⟩ ⟨px,py⟩=some (if G0 bk (kcl b a) b=0 then (kcl b a,py,px,0) else (0,0,0,G0 bk (kcl b a) b)):=by
   unfold CR
   rw [C,AA,hk]
   by_cases v:kcl a b=8
   ·have G:kcl b a=8:=hk ▸ v
    rw [G]
    have p:∀z,G0 bk 8 z=11:=fun z=>by rfl
    cases J with
    |true=>rw [if_pos rfl,Q8 hp.hy gb hbk (remM R) 8 (by omega) true]
    |false=>rw [if_neg (by simp),Q8 hp.hx ga hbk (remM R) 8 (by omega) false,p,p]; simp
   ·have:=F v
    rw [this,h22]
    simp only [decide_true,if_true]
    exact Q8 hp.hy gb hbk (remM R) (kcl b a) (fun e=>hv gb e U) true
  rcases step_ord hst I gb ga h2.symm bk hbk hA q (fun _=>⟨Y,U⟩) O with h|⟨R',A',B',new,r0,r1,r2,r3⟩
  ·grind
  grind
 ·rw [if_neg h22] at q
  have W:kcl a b≠8→ru a.kind a.level b.kind b.level≠0∧pcl a b=ru a.kind a.level b.kind b.level:=fun v=>by
   grind [fQ,sF,sG]
  have O:CR ⟨⟨A⟩,bk,remM R⟩ ⟨px,py⟩=some (if G0 bk (kcl a b) a=0 then (kcl a b,px,py,0) else (0,0,0,G0 bk (kcl a b) a)):=by
   unfold CR
   rw [C,AA]
   by_cases v:kcl a b=8
   ·rw [v]
    have p:∀z,G0 bk 8 z=11:=fun z=>by rfl
    cases J with
    |true=>rw [if_pos rfl,Q8 hp.hy gb hbk (remM R) 8 (by omega) true,p,p]; simp
    |false=>rw [if_neg (by simp),Q8 hp.hx ga hbk (remM R) 8 (by omega) false]
   ·have:=F v
    rw [this]
    simp only [h22,decide_false,Bool.false_eq_true,if_false]
    exact Q8 hp.hx ga hbk (remM R) (kcl a b) (fun e=>hv ga e (W v).2) false
  grind [step_ord]
end
end Go.Proofs.YthenkmapmnkelaaGreatDoor.Ab
