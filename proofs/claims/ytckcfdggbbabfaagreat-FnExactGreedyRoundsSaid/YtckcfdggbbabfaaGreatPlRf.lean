/-
  Nets that are rewritten: ports, wires, links. No program is in sight.
-/
import Derived.Test.YtckcfdggbbabfaaGreatModG
import Derived.Test.YtckcfdggbbabfaaGreatPlNet
namespace Go.Proofs.YtckcfdggbbabfaaGreat.Ab
set_option linter.unusedVariables false
set_option linter.unusedSimpArgs false
open Go.RowKit
theorem Bw {p q:Port} (h1:p.agent=q.agent) (h2:p.slot=q.slot):p=q:=by cases p; cases q; simp_all
instance:DecidableEq Port:=fun p q=>if h:p.agent=q.agent∧p.slot=q.slot then isTrue (Bw h.1 h.2) else isFalse fun e=>h ⟨by rw [e],by rw [e]⟩
theorem Kq {α:Type} {l:List α} {k:Nat} {x:α} (h:l[k]? =some x):at? l (k:Int)=some x:=by
 unfold at?; rw [if_pos (by omega)]; simpa using h
theorem Cf {α:Type} {l:List α} {i:Int} {x:α} (h:at? l i=some x):0≤i∧i<(l.length:Int):=by
 obtain⟨h1,h2⟩:=A5 h
 have:=(List.getElem?_eq_some_iff.1 h2).1
 omega
theorem SA {α:Type} {l:List α} {i j:Int} {x y:α} (h:at? l i=some x):at? (l.set i.toNat y) j=if j=i then some y else at? l j:=by
 obtain⟨h1,h2⟩:=A5 h
 have hlt:=(List.getElem?_eq_some_iff.1 h2).1
 unfold at?
 by_cases hj:0≤j
 ·rw [if_pos hj,if_pos hj,List.getElem?_set]
  by_cases e:j=i
  ·subst e; rw [if_pos rfl,if_pos hlt,if_pos rfl]
  ·rw [if_neg (by omega),if_neg e]
 ·rw [if_neg hj,if_neg hj,if_neg (by omega)]
abbrev get (l:List Agent) (p:Port):Option Port:=EZ l p
theorem Aq {l:List Agent} {p q:Port}:get l p=some q↔∃a,at? l p.agent=some a∧at? a.ports p.slot=some q:=by
 unfold get EZ
 exact Option.bind_eq_some_iff
def upd (l:List Agent) (p q:Port):List Agent:=match at? l p.agent with
 |some a=>l.set p.agent.toNat ⟨a.kind,a.level,a.value,a.data,a.ports.set p.slot.toNat q⟩
 |none=>l
theorem GY {l:List Agent} {p q:Port} {a:Agent} (h:at? l p.agent=some a):upd l p q=l.set p.agent.toNat ⟨a.kind,a.level,a.value,a.data,a.ports.set p.slot.toNat q⟩:=by unfold upd; rw [h]
theorem WG {l:List Agent} {p q:Port}:(upd l p q).length =l.length:=by
 unfold upd; split <;> simp
theorem Jn {l:List Agent} {p q:Port} {a:Agent} (h:at? l p.agent=some a) {k:Int}:at? (upd l p q) k=if k=p.agent then some ⟨a.kind,a.level,a.value,a.data,a.ports.set p.slot.toNat q⟩ else at? l k:=by
 rw [GY h,SA h]
theorem Jo {l:List Agent} {p q r:Port} {v:Port} (h:get l p=some v):get (upd l p q) r=if r=p then some q else get l r:=by
 obtain⟨a,h1,h2⟩:=Aq.1 h
 unfold get EZ
 rw [Jn h1]
 by_cases e:r.agent=p.agent
 ·rw [if_pos e,Option.bind_some]
  simp only
  rw [SA h2]
  by_cases e2:r.slot=p.slot
  ·rw [if_pos e2,if_pos (Bw e e2)]
  ·rw [if_neg e2,if_neg (fun h=>e2 (by rw [h])),e,h1]; rfl
 ·rw [if_neg e,if_neg (fun h=>e (by rw [h]))]
def sh (a:Agent):Int × Int × Int × List Int × Nat:=(a.kind,a.level,a.value,a.data,a.ports.length)
theorem ZG {l:List Agent} {p q:Port}:(upd l p q).map sh=l.map sh:=by
 unfold upd
 split
 ·rename_i a h
  obtain⟨h1,h2⟩:=A5 h
  rw [List.map_set]
  have:sh ⟨a.kind,a.level,a.value,a.data,a.ports.set p.slot.toNat q⟩=sh a:=by simp [sh]
  rw [this]
  refine List.ext_getElem? fun i=>?_
  rw [List.getElem?_set]
  split
  ·rename_i e
   subst e
   rw [List.getElem?_map,h2]
   have:=(List.getElem?_eq_some_iff.1 h2).1
   simp [this]
  ·rfl
 ·rfl
def lk (l:List Agent) (p q:Port):List Agent:=upd (upd l p q) q p
theorem MN {l:List Agent} {p q:Port}:(lk l p q).length =l.length:=by unfold lk; rw [WG,WG]
theorem Ts {l:List Agent} {p q:Port}:(lk l p q).map sh=l.map sh:=by unfold lk; rw [ZG,ZG]
theorem SB {l:List Agent} {p q r u v:Port} (hp:get l p=some u) (hq:get l q=some v):get (lk l p q) r=if r=q then some p else if r=p then some q else get l r:=by
 unfold lk
 have h2:∃v',get (upd l p q) q=some v':=by
  rw [Jo hp]; split
  ·exact⟨_,rfl⟩
  ·exact⟨v,hq⟩
 obtain⟨v',h2⟩:=h2
 rw [Jo h2]
 split
 ·rfl
 ·rw [Jo hp]
theorem Gi {l:List Agent} {p q u v:Port} (hp:get l p=some u) (hq:get l q=some v):s_l11Link ⟨l⟩ p q=some ⟨lk l p q⟩:=by
 obtain⟨a,h1,h2⟩:=Aq.1 hp
 have h3:∃v',get (upd l p q) q=some v':=by
  rw [Jo hp]; split
  ·exact⟨_,rfl⟩
  ·exact⟨v,hq⟩
 obtain⟨v',h3⟩:=h3
 obtain⟨b,h4,h5⟩:=Aq.1 h3
 unfold s_l11Link D2 XM
 simp only
 rw [h1,AA,h2,AA,AA,AA,← GY h1,h4,AA,h5,AA,AA,AA,← GY h4]
 rfl
theorem JF (n:Net) (p q:Port):CA n p q=s_l11Link n p q:=rfl
theorem Kr {l:List Agent} {p q a b u v:Port} (hne:p≠q) (hp:get l p=some u) (hq:get l q=some v):upd (upd l p a) q b=upd (upd l q b) p a:=by
 obtain⟨x,h1,h2⟩:=Aq.1 hp
 obtain⟨y,h3,h4⟩:=Aq.1 hq
 obtain⟨n1,-⟩:=A5 h1
 obtain⟨n3,-⟩:=A5 h3
 obtain⟨n2,-⟩:=A5 h2
 obtain⟨n4,-⟩:=A5 h4
 by_cases e:q.agent=p.agent
 ·have hxy:y=x:=by rw [e,h1] at h3; exact(Option.some.inj h3).symm
  subst hxy
  have hs:p.slot≠q.slot:=fun e2=>hne (Bw e.symm e2)
  have k1:at? (upd l p a) q.agent=some ⟨y.kind,y.level,y.value,y.data,y.ports.set p.slot.toNat a⟩:=by rw [Jn h1,if_pos e]
  have k2:at? (upd l q b) p.agent=some ⟨y.kind,y.level,y.value,y.data,y.ports.set q.slot.toNat b⟩:=by rw [Jn h3,if_pos e.symm]
  rw [GY k1,GY k2,GY h1,GY h3,e,List.set_set,List.set_set]
  simp only
  rw [List.set_comm _ _ (by omega)]
 ·have k1:at? (upd l p a) q.agent=some y:=by rw [Jn h1,if_neg e]; exact h3
  have k2:at? (upd l q b) p.agent=some x:=by rw [Jn h3,if_neg (fun h=>e h.symm)]; exact h1
  rw [GY k1,GY k2,GY h1,GY h3,List.set_comm _ _ (by omega)]
theorem SC {l:List Agent} {p q u v:Port} (hp:get l p=some u) (hq:get l q=some v):lk l p q=lk l q p:=by
 by_cases e:p=q
 ·subst e; rfl
 ·exact Kr e hp hq
theorem Jp {l:List Agent} {p q:Port} (h:get l p=some q):Fh ⟨l⟩ p=some q:=by
 obtain⟨a,h1,h2⟩:=Aq.1 h
 unfold Fh
 rw [h1,AA,h2]; rfl
theorem Mz (n:Net) (p:Port):Ci n p=Fh n p:=rfl
def mv (l:List Agent) (old now:Port):List Agent:=match get l old with
 |some v=>lk l now v
 |none=>l
theorem bD {l:List Agent} {o n v u u':Port} (ho:get l o=some v) (hv:get l v=some u) (hn:get l n=some u'):Be ⟨l⟩ o n=some ⟨mv l o n⟩:=by
 unfold Be mv
 rw [Jp ho,AA,Gi hn hv,ho]; rfl
theorem SD {l:List Agent} {b:List Net} {r:List (Int × Bool)} {o n v u u':Port} (ho:get l o=some v) (hv:get l v=some u) (hn:get l n=some u'):AS ⟨⟨l⟩,b,r⟩ o n=some ⟨⟨mv l o n⟩,b,r⟩:=by
 unfold AS mv
 simp only
 rw [Mz,Jp ho,AA,JF,Gi hv hn,AA,ho,SC hv hn]
def jn (l:List Agent) (p q:Port):List Agent:=match get l p,get l q with
 |some a,some b=>if a=q then l else lk l a b
 |_,_=>l
theorem Tt (a q:Port):(decide (a.agent=q.agent)&&decide (a.slot=q.slot))=decide (a=q):=by
 by_cases h:a=q
 ·subst h; simp
 ·rw [decide_eq_false h]
  cases hx:decide (a.agent=q.agent) with
  |false=>rfl
  |true=>
   rw [Bool.true_and]
   exact decide_eq_false fun h2=>h (Bw (of_decide_eq_true hx) h2)
theorem bE {l:List Agent} {p q a b u v:Port} (hp:get l p=some a) (hq:get l q=some b) (ha:get l a=some u) (hb:get l b=some v):E2 ⟨l⟩ p q=some ⟨jn l p q⟩:=by
 unfold E2 jn
 rw [Jp hp,AA,Jp hq,AA,Tt,hp,hq]
 by_cases h:a=q
 ·simp [h]
 ·simp [h,Gi ha hb,AA]
theorem ZH {l:List Agent} {bk:List Net} {r:List (Int × Bool)} {p q a b u v:Port} (hp:get l p=some a) (hq:get l q=some b) (ha:get l a=some u) (hb:get l b=some v):By ⟨⟨l⟩,bk,r⟩ p q=some ⟨⟨jn l p q⟩,bk,r⟩:=by
 unfold By jn
 simp only
 rw [Mz,Mz,Jp hp,AA,Jp hq,AA,Tt,hp,hq]
 by_cases h:a=q
 ·simp [h]
 ·simp [h,JF,Gi ha hb,AA]
def M (l:List Agent) (X:Port→Prop):Prop:=∀p q,get l p=some q→¬X p→¬X q∧q≠p∧get l q=some p
theorem M.mono {l:List Agent} {X Y:Port→Prop} (h:M l X) (hxy:∀p,X p↔Y p):M l Y:=fun p q hp hx=>by
 obtain⟨h1,h2,h3⟩:=h p q hp fun h=>hx ((hxy p).1 h)
 exact⟨fun h=>h1 ((hxy q).2 h),h2,h3⟩
theorem M.drop {l:List Agent} {X:Port→Prop} (h:M l X) {p q:Port} (hp:get l p=some q) (hx:¬X p):M l fun r=>X r∨r=p∨r=q:=fun r s hr hn=>by
 obtain⟨h1,h2,h3⟩:=h r s hr fun h=>hn (.inl h)
 obtain⟨k1,k2,k3⟩:=h p q hp hx
 refine⟨fun hs=>?_,h2,h3⟩
 rcases hs with hs|rfl|rfl
 ·exact h1 hs
 ·rw [hp] at h3; cases h3; exact hn (.inr (.inr rfl))
 ·rw [k3] at h3; cases h3; exact hn (.inr (.inl rfl))
theorem Ib {l:List Agent} {p q r u v:Port} (hp:get l p=some u) (hq:get l q=some v) (h1:r≠p) (h2:r≠q):get (lk l p q) r=get l r:=by rw [SB hp hq,if_neg h2,if_neg h1]
theorem M.link {l:List Agent} {X:Port→Prop} (h:M l X) {p q u v:Port} (hp:get l p=some u) (hq:get l q=some v) (hne:p≠q) (xp:X p) (xq:X q):M (lk l p q) fun r=>X r∧r≠p∧r≠q:=fun r s hr hn=>by
 rw [SB hp hq] at hr
 by_cases e1:r=q
 ·subst e1
  rw [if_pos rfl] at hr; cases hr
  exact⟨fun h=>h.2.1 rfl,hne,by rw [SB hp hq,if_neg hne,if_pos rfl]⟩
 ·rw [if_neg e1] at hr
  by_cases e2:r=p
  ·subst e2
   rw [if_pos rfl] at hr; cases hr
   exact⟨fun h=>h.2.2 rfl,fun h=>hne h.symm,by rw [SB hp hq,if_pos rfl]⟩
  ·rw [if_neg e2] at hr
   have hnx:¬X r:=fun h=>hn ⟨h,e2,e1⟩
   obtain⟨h1,h2,h3⟩:=h r s hr hnx
   have n1:s≠p:=fun e=>h1 (e ▸ xp)
   have n2:s≠q:=fun e=>h1 (e ▸ xq)
   exact⟨fun h=>h1 h.1,h2,by rw [Ib hp hq n1 n2]; exact h3⟩
theorem M.move {l:List Agent} {X:Port→Prop} (h:M l X) {o n v u':Port} (ho:get l o=some v) (xo:¬X o) (hn:get l n=some u') (xn:X n):M (mv l o n) fun r=>(X r∨r=o)∧r≠n:=by
 obtain⟨k1,k2,k3⟩:=h o v ho xo
 have hnv:n≠v:=fun e=>k1 (e ▸ xn)
 have:=(h.drop ho xo).link hn k3 hnv (.inl xn) (.inr (.inr rfl))
 unfold mv
 rw [ho]
 refine this.mono fun r=>?_
 constructor
 ·rintro ⟨h1|h1|h1,h2,h3⟩
  ·exact⟨.inl h1,h2⟩
  ·exact⟨.inr h1,h2⟩
  ·exact absurd h1 h3
 ·rintro ⟨h1|h1,h2⟩
  ·exact⟨.inl h1,h2,fun e=>k1 (e ▸ h1)⟩
  ·exact⟨.inr (.inl h1),h2,fun e=>k2 (by rw [← e,h1])⟩
theorem M.join {l:List Agent} {X:Port→Prop} (h:M l X) {p q a b:Port} (hp:get l p=some a) (hq:get l q=some b) (xp:¬X p) (xq:¬X q) (hne:p≠q):M (jn l p q) fun r=>X r∨r=p∨r=q:=by
 obtain⟨k1,k2,k3⟩:=h p a hp xp
 obtain⟨m1,m2,m3⟩:=h q b hq xq
 unfold jn
 rw [hp,hq]
 by_cases e:a=q
 ·subst e
  simp only [if_pos rfl]
  exact h.drop hp xp
 ·simp only [if_neg e]
  have hab:a≠b:=fun e2=>by rw [e2,m3] at k3; cases k3; exact hne rfl
  have hqa:¬ (X q∨q=p∨q=a):=fun hx=>by
   rcases hx with hx|hx|hx
   ·exact xq hx
   ·exact hne hx.symm
   ·exact e hx.symm
  have h2:=((h.drop hp xp).drop hq hqa).link k3 m3 hab (.inl (.inr (.inr rfl))) (.inr (.inr rfl))
  refine h2.mono fun r=>?_
  constructor
  ·rintro ⟨(h1|h1|h1)|h1|h1,h3,h4⟩
   ·exact .inl h1
   ·exact .inr (.inl h1)
   ·exact absurd h1 h3
   ·exact .inr (.inr h1)
   ·exact absurd h1 h4
  ·intro hr
   have hpb:p≠b:=fun e2=>e (by rw [← e2,hp] at m3; exact Option.some.inj m3)
   rcases hr with h1|h1|h1
   ·exact⟨.inl (.inl h1),fun e=>k1 (e ▸ h1),fun e=>m1 (e ▸ h1)⟩
   ·subst h1; exact⟨.inl (.inr (.inl rfl)),fun e=>k2 e.symm,hpb⟩
   ·subst h1; exact⟨.inr (.inl rfl),fun e2=>e e2.symm,fun e=>m2 e.symm⟩
end Go.Proofs.YtckcfdggbbabfaaGreat.Ab
namespace Go.Proofs.YtckcfdggbbabfaaGreat.Ab
set_option linter.unusedVariables false
set_option linter.unusedSimpArgs false
open Go.RowKit
theorem Af {p:Port} {a s:Int}:p=⟨a,s⟩↔p.agent=a∧p.slot=s:=⟨fun h=>by subst h; exact⟨rfl,rfl⟩,fun h=>Bw h.1 h.2⟩
def ZI:Agent:=⟨0,0,0,[],[]⟩
structure Ok (S:Int→Prop) (X:Port→Prop) (A B:List Agent):Prop where
 len:A.length=B.length
 ag:∀k,¬S k→at? A k=at? B k
 hl:∀k,S k→at? B k=some ZI
 m:M A X
 sx:∀p,S p.agent→X p
section
variable {S:Int→Prop} {X:Port→Prop} {A B:List Agent}
theorem Ok.mono {Y:Port→Prop} (h:Ok S X A B) (hxy:∀p,X p↔Y p):Ok S Y A B:=⟨h.len,h.ag,h.hl,h.m.mono hxy,fun p hp=>(hxy p).1 (h.sx p hp)⟩
theorem Ok.get (h:Ok S X A B) {p:Port} (hp:¬S p.agent):get B p=get A p:=by
 unfold Ab.get EZ; rw [h.ag _ hp]
theorem Ok.live (h:Ok S X A B) {p:Port} (hp:¬X p):¬S p.agent:=fun hs=>hp (h.sx p hs)
theorem Ok.s_lt (h:Ok S X A B) {k:Int} (hk:S k):0≤k∧k<(A.length:Int):=by
 have:=Cf (h.hl k hk); rw [h.len]; exact this
theorem gY {l:List Agent} {p q u v:Port} (hp:Ab.get l p=some u) (hq:Ab.get l q=some v) {k:Int} (h1:k≠p.agent) (h2:k≠q.agent):at? (lk l p q) k=at? l k:=by
 unfold lk
 have h2':∃v',Ab.get (upd l p q) q=some v':=by
  rw [Jo hp]; split
  ·exact⟨_,rfl⟩
  ·exact⟨v,hq⟩
 obtain⟨v',h3⟩:=h2'
 obtain⟨a,h4,-⟩:=Aq.1 hp
 obtain⟨b,h5,-⟩:=Aq.1 h3
 rw [Jn h5,if_neg h2,Jn h4,if_neg h1]
theorem Pq {A B:List Agent} {p q:Port} {k:Int} (hp:at? A p.agent=at? B p.agent) (hk:at? A k=at? B k):at? (upd A p q) k=at? (upd B p q) k:=by
 cases h:at? A p.agent with
 |none=>unfold upd; rw [← hp,h]; exact hk
 |some a=>rw [Jn h,Jn (hp ▸ h),hk]
theorem bF {A B:List Agent} {p q:Port} {k:Int} (hp:at? A p.agent=at? B p.agent) (hq:at? A q.agent=at? B q.agent) (hk:at? A k=at? B k):at? (lk A p q) k=at? (lk B p q) k:=by
 unfold lk
 exact Pq (Pq hp hq) (Pq hp hk)
theorem Ok.lk' (h:Ok S X A B) {p q u v:Port} (hp:Ab.get A p=some u) (hq:Ab.get A q=some v) (sp:¬S p.agent) (sq:¬S q.agent) {Y:Port→Prop} (hm:M (lk A p q) Y) (hy:∀r,S r.agent→Y r):Ok S Y (lk A p q) (lk B p q):=by
 refine⟨by rw [MN,MN]; exact h.len,fun k hk=>bF (h.ag _ sp) (h.ag _ sq) (h.ag k hk),fun k hk=>?_,hm,hy⟩
 rw [gY ((h.get sp).trans hp) ((h.get sq).trans hq) (fun e=>sp (e ▸ hk)) (fun e=>sq (e ▸ hk))]
 exact h.hl k hk
theorem Ok.link (h:Ok S X A B) {p q u v:Port} (hp:Ab.get A p=some u) (hq:Ab.get A q=some v) (hne:p≠q) (xp:X p) (xq:X q) (sp:¬S p.agent) (sq:¬S q.agent):
  CA ⟨A⟩ p q=some ⟨lk A p q⟩∧CA ⟨A⟩ q p=some ⟨lk A p q⟩∧s_l11Link ⟨B⟩ p q=some ⟨lk B p q⟩∧s_l11Link ⟨B⟩ q p=some ⟨lk B p q⟩∧Ok S (fun r=>X r∧r≠p∧r≠q) (lk A p q) (lk B p q):=by
 have hp':=(h.get sp).trans hp
 have hq':=(h.get sq).trans hq
 refine⟨by rw [JF,Gi hp hq],by rw [JF,Gi hq hp,SC hq hp],Gi hp' hq',by rw [Gi hq' hp',SC hq' hp'],h.lk' hp hq sp sq (h.m.link hp hq hne xp xq) fun r hr=>⟨h.sx r hr,fun e=>sp (e ▸ hr),fun e=>sq (e ▸ hr)⟩⟩
theorem Ok.move (h:Ok S X A B) {o n v u:Port} (ho:Ab.get A o=some v) (xo:¬X o) (hn:Ab.get A n=some u) (xn:X n) (sn:¬S n.agent):
  (∀b r,AS ⟨⟨A⟩,b,r⟩ o n=some ⟨⟨mv A o n⟩,b,r⟩)∧Be ⟨B⟩ o n=some ⟨mv B o n⟩∧Ok S (fun r=>(X r∨r=o)∧r≠n) (mv A o n) (mv B o n)∧(mv A o n).length =A.length∧(mv A o n).map sh=A.map sh:=by
 obtain⟨k1,k2,k3⟩:=h.m o v ho xo
 have so:=h.live xo
 have sv:=h.live k1
 have hm:=h.m.move ho xo hn xn
 have ho':=(h.get so).trans ho
 have hv':=(h.get sv).trans k3
 have hn':=(h.get sn).trans hn
 refine⟨fun b r=>SD ho k3 hn,bD ho' hv' hn',?_,?_,?_⟩
 ·have e1:mv A o n=lk A n v:=by unfold mv; rw [ho]
  have e2:mv B o n=lk B n v:=by unfold mv; rw [ho']
  rw [e1] at hm ⊢
  rw [e2]
  exact h.lk' hn k3 sn sv hm fun r hr=>⟨.inl (h.sx r hr),fun e=>sn (e ▸ hr)⟩
 ·unfold mv; rw [ho]; exact MN
 ·unfold mv; rw [ho]; exact Ts
theorem Ok.join (h:Ok S X A B) {p q a b:Port} (hp:Ab.get A p=some a) (hq:Ab.get A q=some b) (xp:¬X p) (xq:¬X q) (hne:p≠q):
  (∀bk r,By ⟨⟨A⟩,bk,r⟩ p q=some ⟨⟨jn A p q⟩,bk,r⟩)∧E2 ⟨B⟩ p q=some ⟨jn B p q⟩∧Ok S (fun r=>X r∨r=p∨r=q) (jn A p q) (jn B p q)∧(jn A p q).length =A.length∧(jn A p q).map sh=A.map sh:=by
 obtain⟨k1,k2,k3⟩:=h.m p a hp xp
 obtain⟨m1,m2,m3⟩:=h.m q b hq xq
 have sp:=h.live xp
 have sq:=h.live xq
 have sa:=h.live k1
 have sb:=h.live m1
 have hm:=h.m.join hp hq xp xq hne
 have hp':=(h.get sp).trans hp
 have hq':=(h.get sq).trans hq
 refine⟨fun bk r=>ZH hp hq k3 m3,bE hp' hq' ((h.get sa).trans k3) ((h.get sb).trans m3),?_,?_,?_⟩
 ·have e1:jn A p q=if a=q then A else lk A a b:=by unfold jn; rw [hp,hq]
  have e2:jn B p q=if a=q then B else lk B a b:=by unfold jn; rw [hp',hq']
  rw [e1] at hm ⊢
  rw [e2]
  by_cases e:a=q
  ·rw [if_pos e] at hm ⊢
   rw [if_pos e]
   exact⟨h.len,h.ag,h.hl,hm,fun r hr=>.inl (h.sx r hr)⟩
  ·rw [if_neg e] at hm ⊢
   rw [if_neg e]
   exact h.lk' k3 m3 sa sb hm fun r hr=>.inl (h.sx r hr)
 ·unfold jn; rw [hp,hq]
  simp only
  split
  ·rfl
  ·exact MN
 ·unfold jn; rw [hp,hq]
  simp only
  split
  ·rfl
  ·exact Ts
theorem M0 {α:Type} {l:List α} {x:α} {k:Int}:at? (l++[x]) k=if k=(l.length:Int) then some x else at? l k:=by
 unfold at?
 by_cases hk:0≤k
 ·rw [if_pos hk,if_pos hk]
  by_cases e:k=(l.length:Int)
  ·rw [if_pos e,List.getElem?_append_right (by omega),show k.toNat - l.length=0 from by omega]; rfl
  ·rw [if_neg e]
   by_cases h2:k.toNat<l.length
   ·rw [List.getElem?_append_left h2]
   ·rw [List.getElem?_eq_none (by rw [List.length_append,List.length_singleton]; omega),List.getElem?_eq_none (by omega)]
 ·rw [if_neg hk,if_neg hk,if_neg (by omega)]
theorem JG {l:List Agent} {x:Agent} {p:Port}:Ab.get (l++[x]) p=if p.agent=(l.length:Int) then at? x.ports p.slot else Ab.get l p:=by
 unfold Ab.get EZ
 rw [M0]
 split <;> rfl
def newA (k lv v:Int) (d:List Int) (n:Nat):Agent:=⟨k,lv,v,d,List.replicate n ⟨0,0⟩⟩
theorem Ok.add (h:Ok S X A B) (a:Agent):Ok S (fun p=>X p∨p.agent=(A.length:Int)) (A++[a]) (B++[a]):=by
 refine⟨by rw [List.length_append,List.length_append,h.len],fun k hk=>by rw [M0,M0,h.len,h.ag k hk],fun k hk=>?_,fun p q hp hx=>?_,fun p hp=>.inl (h.sx p hp)⟩
 ·have:=h.s_lt hk
  rw [M0,if_neg (by rw [← h.len]; omega)]; exact h.hl k hk
 ·have h1:p.agent≠(A.length:Int):=fun e=>hx (.inr e)
  rw [JG,if_neg h1] at hp
  obtain⟨k1,k2,k3⟩:=h.m p q hp fun e=>hx (.inl e)
  obtain⟨b,hb,-⟩:=Aq.1 k3
  have:=Cf hb
  refine⟨fun hq=>?_,k2,by rw [JG,if_neg (by omega)]; exact k3⟩
  rcases hq with hq|hq
  ·exact k1 hq
  ·omega
theorem VE (d:List Int) (hd:d.length≤Big):Gz d=some d:=by
 unfold Gz
 rw [DO (by simpa using hd)]; rfl
theorem Ra (d:List Int) (hd:d.length≤Big):C6 d=some d:=by
 unfold C6
 rw [DO (by simpa using hd)]; rfl
theorem Rb (d:List Port) (hd:d.length≤Big):CQ d=some d:=by
 unfold CQ
 rw [DO (by simpa using hd)]; rfl
theorem WH (l:List Agent) (b:List Net) (r:List (Int × Bool)) (k lv v:Int) (d:List Int) (n:Nat) (hl:l.length+1≤Big) (hd:d.length≤Big) (hn:n≤Big):Ae ⟨⟨l⟩,b,r⟩ k lv v d (n:Int)=some ((l.length:Int),⟨⟨l++[newA k lv v d n]⟩,b,r⟩):=by
 unfold Ae newA
 simp only
 rw [Ra d hd,AA,Po hn,AA,DO (by simpa using hl),AA,List.length_append,List.length_singleton,w64 (by omega) (by unfold Big at hl; omega)]
 simp
theorem XT (net:Net) (k lv v:Int) (d:List Int) (hl:net.agents.length+1≤Big):∀ (n m:Nat) (acc:List Port),acc.length+n≤Big→n<m→D3 m net k lv v d acc (n:Int)=some ((net.agents.length:Int),⟨net.agents++[⟨k,lv,v,d,acc++List.replicate n ⟨0,0⟩⟩]⟩):=by
 intro n
 induction n with
 |zero=>
  intro m acc ha hm
  obtain⟨m,rfl⟩:∃k,m=k+1:=⟨m - 1,by omega⟩
  rw [D3,if_neg (by simp),DO (by simpa using hl),AA,List.length_append,List.length_singleton,w64 (by omega) (by unfold Big at hl; omega)]
  simp
 |succ n ih=>
  intro m acc ha hm
  obtain⟨m,rfl⟩:∃k,m=k+1:=⟨m - 1,by omega⟩
  rw [D3,if_pos (by simp),DO (by simp; omega),AA,w64 (by omega) (by unfold Big at ha; omega),show (((n+1:Nat):Int) - 1)=(n:Int) from by omega,ih m _ (by simp; omega) (by omega),List.append_assoc,List.replicate_succ]
  rfl
theorem bG (l:List Agent) (k lv v:Int) (d:List Int) (n:Nat) (hl:l.length+1≤Big) (hd:d.length≤Big) (hn:n≤Big):CP ⟨l⟩ k lv v d (n:Int)=some ((l.length:Int),⟨l++[newA k lv v d n]⟩):=by
 unfold CP newA
 rw [VE d hd,AA,XT ⟨l⟩ k lv v d hl n fuel [] (by simpa using hn) (by rw [Au]; unfold Big at hn; omega)]
 rfl
theorem Nl {l:List Agent} {k s:Int} {x:Int × Int × Int × List Int × Nat} (h:at? (l.map sh) k=some x) (h0:0≤s) (hs:s<(x.2.2.2.2 :Int)):∃u,Ab.get l ⟨k,s⟩=some u:=by
 obtain⟨h1,h2⟩:=A5 h
 rw [List.getElem?_map] at h2
 cases ha:l[k.toNat]? with
 |none=>rw [ha] at h2; cases h2
 |some a=>
  rw [ha] at h2
  simp only [Option.map_some,Option.some.injEq] at h2
  subst h2
  obtain⟨u,hu,-⟩:=EI (l:=a.ports) (i:=s) ⟨h0,hs⟩
  refine⟨u,Aq.2 ⟨a,?_,hu⟩⟩
  unfold at?; rw [if_pos h1]; exact ha
theorem DM {l:List Agent} {k:Int} {a:Agent} (h:at? l k=some a):at? (l.map sh) k=some (sh a):=by
 obtain⟨h1,h2⟩:=A5 h
 unfold at?
 rw [if_pos h1,List.getElem?_map,h2]; rfl
theorem Ks {l:List Agent} {k:Int} {x:Int × Int × Int × List Int × Nat} (h:at? (l.map sh) k=some x):∃a,at? l k=some a∧sh a=x:=by
 obtain⟨h1,h2⟩:=A5 h
 rw [List.getElem?_map] at h2
 cases ha:l[k.toNat]? with
 |none=>rw [ha] at h2; cases h2
 |some a=>
  rw [ha] at h2
  exact⟨a,by unfold at?; rw [if_pos h1]; exact ha,by simpa using h2⟩
end
end Go.Proofs.YtckcfdggbbabfaaGreat.Ab
namespace Go.Proofs.YtckcfdggbbabfaaGreat.Ab
set_option linter.unusedVariables false
set_option linter.unusedSimpArgs false
open Go.RowKit
def hasL (k:Int):Bool:=decide (1≤k∧k≤12)&& !(decide (k=1)||decide (k=5)||decide (k=6))
theorem WI (k:Int):Dg k=some (hasL k):=by
 rcases kind_cases k with h|h|h|h|h|h|h|h|h|h|h|h|h
 all_goals first|(subst h; simp [Dg,Fl,hasL,AA]; done)|skip
 have h2:¬ (1≤k∧k≤12):=by omega
 simp [Dg,Fl,hasL,AA,h2]
theorem WJ (k:Int):Dh k=some (hasL k):=by
 rcases kind_cases k with h|h|h|h|h|h|h|h|h|h|h|h|h
 all_goals first|(subst h; simp [Dh,BA,hasL]; done)|skip
 have h':=Hi h
 have h2:¬ (1≤k∧k≤12):=by omega
 simp [Dh,BA,hasL,h',h2]
def ZJ (b k l:Int):Bool:=decide (0≤b∧b≤8)&&levB k l&&(decide (k=6)||decide (k=12)||(hasL k&&decide (b<l)))
theorem bH (b k l:Int):Fy b k l=some (ZJ b k l):=by
 have hl:Fg b=some (decide (0≤b∧b≤8)):=by
  unfold Fg
  by_cases h:0≤b <;> simp [h]
 unfold Fy ZJ
 rw [hl,AA,Ia,AA]
 cases decide (0≤b∧b≤8) with
 |false=>rfl
 | true=>
  cases levB k l with
  |false=>rfl
  | true=>
   simp only [Bool.not_true,Bool.false_eq_true,if_false,EL,Bool.true_and]
   by_cases h6:k=6
   ·simp [h6]
   ·by_cases h12:k=12
    ·simp [h12]
    ·rw [WI,AA]
     cases hasL k <;> simp [h6,h12]
theorem bI (b k l:Int):F3 b k l=some (ZJ b k l):=by
 unfold F3 ZJ
 rw [EQ,AA,LY,AA]
 cases decide (0≤b∧b≤8) with
 |false=>rfl
 | true=>
  cases levB k l with
  |false=>rfl
  | true=>
   simp only [Bool.not_true,Bool.false_eq_true,if_false,EN,EM,Bool.true_and]
   by_cases h6:k=6
   ·simp [h6]
   ·by_cases h12:k=12
    ·simp [h12]
    ·rw [WJ,AA]
     cases hasL k <;> simp [h6,h12]
def consB (k:Int):Bool:=decide (k=3)||decide (k=7)||decide (k=8)||decide (k=10)||decide (k=11)
theorem ZK (k:Int):Fz k=some (consB k):=by
 unfold Fz consB
 by_cases h3:k=3 <;> by_cases h7:k=7 <;> by_cases h8:k=8 <;> by_cases h10:k=10 <;> simp [h3,h7,h8,h10]
theorem ZL (k:Int):F4 k=some (consB k):=by
 unfold F4 CK consB
 by_cases h3:k=3 <;> by_cases h7:k=7 <;> by_cases h8:k=8 <;> by_cases h10:k=10 <;> by_cases h11:k=11 <;> simp [h3,h7,h8,h10,h11]
def ru (k1 l1 k2 l2:Int):Int:=
 if k1=5 then 4 else if k1=4 then (if k2=4∧l1=l2 then 2 else if ZJ l1 k2 l2=true then 3 else 0)
 else if k1=2 then (if k2=3∧l1=l2 then 1 else 0) else if k1=6 then (if k2=7∨k2=8 then 5 else if k2=11 then 6 else 0)
 else if k1=9 then (if k2=10 then 6 else 0) else if k1=12 then (if consB k2=true then 7 else 0) else 0
theorem ZM (k1 l1 k2 l2:Int):Hb k1 l1 k2 l2=some (ru k1 l1 k2 l2):=by
 unfold Hb ru
 by_cases h5:k1=5
 ·simp [h5]
 by_cases h4:k1=4
 ·simp only [h4,F0,bH,AA]
  by_cases a:k2=4 <;> by_cases b:l1=l2 <;> simp [a,b] <;> split <;> simp_all
 by_cases h2:k1=2
 ·simp only [h2,F1]
  by_cases a:k2=3 <;> by_cases b:l1=l2 <;> simp [a,b]
 by_cases h6:k1=6
 ·simp only [h6,F2]
  by_cases a:k2=7 <;> by_cases b:k2=8 <;> by_cases c:k2=11 <;> simp_all
 by_cases h9:k1=9
 ·by_cases a:k2=10 <;> simp [h9,a]
 by_cases h12:k1=12
 ·simp only [h12,ZK,AA]
  cases consB k2 <;> simp
 simp [h5,h4,h2,h6,h9,h12]
theorem SE (k1 l1 k2 l2:Int):Fi k1 l1 k2 l2=some (ru k1 l1 k2 l2):=by
 unfold Fi ru
 by_cases h5:k1=5
 ·simp [h5]
 by_cases h4:k1=4
 ·simp only [h4,F5,bI,AA]
  by_cases a:k2=4 <;> by_cases b:l1=l2 <;> simp [a,b] <;> split <;> simp_all
 by_cases h2:k1=2
 ·simp only [h2,F6]
  by_cases a:k2=3 <;> by_cases b:l1=l2 <;> simp [a,b]
 by_cases h6:k1=6
 ·simp only [h6,F7]
  by_cases a:k2=7 <;> by_cases b:k2=8 <;> by_cases c:k2=11 <;> simp_all
 by_cases h9:k1=9
 ·by_cases a:k2=10 <;> simp [h9,a]
 by_cases h12:k1=12
 ·simp only [h12,ZL,AA]
  cases consB k2 <;> simp
 simp [h5,h4,h2,h6,h9,h12]
def pcl (a b:Agent):Int:=if ru a.kind a.level b.kind b.level≠0 then ru a.kind a.level b.kind b.level else if ru b.kind b.level a.kind a.level≠0 then ru b.kind b.level a.kind a.level else 8
def pfi (a b:Agent):Int:=if ru a.kind a.level b.kind b.level≠0 then 1 else if ru b.kind b.level a.kind a.level≠0 then 2 else 0
structure Two (a b:Agent):Prop where
 la:levB a.kind a.level=true
 lb:levB b.kind b.level=true
 ra:a.kind≠1
 rb:b.kind≠1
theorem VF {a b:Agent} (h:Two a b):Kl a.kind a.level b.kind b.level=some (pcl a b,pfi a b):=by
 unfold Kl Eh pcl pfi
 rw [Ia,AA,Ia,AA,ZM,AA,ZM,AA,h.la,h.lb]
 simp only [h.ra,h.rb,decide_false,Bool.false_eq_true,if_false,Bool.not_true]
 by_cases h1:ru a.kind a.level b.kind b.level=0 <;> by_cases h2:ru b.kind b.level a.kind a.level=0 <;> simp [h1,h2]
theorem Tu {a b:Agent} (h:Two a b):Hd a.kind a.level b.kind b.level=some true:=by
 unfold Hd
 rw [LY,AA,LY,AA,h.la,h.lb]
 simp [h.ra,h.rb]
theorem XU {a b:Agent} (h:Two a b):Gw a.kind a.level b.kind b.level=some (pcl a b):=by
 unfold Gw El pcl
 rw [Tu h,AA,SE,AA,SE,AA]
 by_cases h1:ru a.kind a.level b.kind b.level=0 <;> by_cases h2:ru b.kind b.level a.kind a.level=0 <;> simp [h1,h2]
theorem XV {a b:Agent} (h:Two a b):FJ a.kind a.level b.kind b.level=some (pfi a b):=by
 unfold FJ pfi
 rw [Tu h,AA,SE,AA,SE,AA]
 by_cases h1:ru a.kind a.level b.kind b.level=0 <;> by_cases h2:ru b.kind b.level a.kind a.level=0 <;> simp [h1,h2]
def Cl (x y:Agent):Bool:=decide (x.kind=9)&&decide (y.kind=10)&&decide ((y.data.length:Int)≤x.value)
def kcl (a b:Agent):Int:=if Cl a b=true∨Cl b a=true then 8 else pcl a b
theorem Kt {a b:Agent} (h:Two a b):FV a b=some (kcl a b):=by
 unfold FV EU ET kcl Cl
 rw [XU h,AA]
 by_cases a9:a.kind=9
 ·by_cases b10:b.kind=10
  ·by_cases hv:(b.data.length:Int)≤a.value <;> simp [a9,b10,hv]
  ·simp [a9,b10]
 ·by_cases a10:a.kind=10
  ·by_cases b9:b.kind=9
   ·by_cases hv:(a.data.length:Int)≤b.value <;> simp [a10,b9,hv]
   ·simp [a10,b9]
  ·simp [a9,a10]
theorem Two.symm {a b:Agent} (h:Two a b):Two b a:=⟨h.lb,h.la,h.rb,h.ra⟩
theorem Tv {l:List Agent} {i j:Int} {a b:Agent} (ha:at? l i=some a) (hb:at? l j=some b) (h:Two a b):∃sw,FI ⟨l⟩ ⟨i,j⟩=some (kcl a b,sw)∧(kcl a b≠8→sw=decide (pfi a b=2)):=by
 have key:∀ (x y:Agent) (f:Int),(Cl x y=true∨Cl y x=true↔(pcl a b=6∧y.kind=10∧(y.data.length:Int)≤x.value))→(Cl x y=true∨Cl y x=true↔Cl a b=true∨Cl b a=true)→
   ∃sw,C5 (pcl a b,f) x.kind x.level x.value x.data x.ports y.kind y.level y.value y.data y.ports=some (kcl a b,sw)∧(kcl a b≠8→sw=decide (f=2)):=by
  intro x y f h1 h2
  unfold C5 C4 kcl
  by_cases hn:Cl a b=true∨Cl b a=true
  ·obtain⟨c1,c2,c3⟩:=h1.1 (h2.2 hn)
   rw [if_pos hn]
   refine⟨false,?_,fun h=>absurd rfl h⟩
   simp [c1,c2,c3]
  ·have hn1:=fun h=>hn (h2.1 (h1.2 h))
   rw [if_neg hn]
   refine⟨decide (f=2),?_,fun _=>rfl⟩
   by_cases c1:pcl a b=6
   ·by_cases c2:y.kind=10
    ·have c3:¬ (y.data.length:Int)≤x.value:=fun h=>hn1 ⟨c1,c2,h⟩
     simp [c1,c2,c3]
    ·simp [c1,c2]
   ·simp [c1]
 unfold FI
 simp only
 rw [ha,AA,hb,AA,VF h,AA]
 have hab:Cl a b=true→ru a.kind a.level b.kind b.level=6∧b.kind=10:=fun hn=>by
  simp only [Cl,Bool.and_eq_true,decide_eq_true_eq] at hn
  obtain⟨⟨h9,h10⟩,-⟩:=hn
  exact⟨by simp [ru,h9,h10],h10⟩
 have hba:Cl b a=true→ru b.kind b.level a.kind a.level=6∧ru a.kind a.level b.kind b.level=0∧a.kind=10:=fun hn=>by
  simp only [Cl,Bool.and_eq_true,decide_eq_true_eq] at hn
  obtain⟨⟨h9,h10⟩,-⟩:=hn
  exact⟨by simp [ru,h9,h10],by simp [ru,h9,h10],h10⟩
 by_cases hf:pfi a b=2
 ·have hr:ru a.kind a.level b.kind b.level=0∧ru b.kind b.level a.kind a.level≠0:=by
   unfold pfi at hf
   by_cases h1:ru a.kind a.level b.kind b.level=0 <;> by_cases h2:ru b.kind b.level a.kind a.level=0 <;> simp_all
  have hp:pcl a b=ru b.kind b.level a.kind a.level:=by simp [pcl,hr]
  simp only [hf,decide_true,if_true]
  have:=key b a 2 ?_ (by rw [or_comm])
  ·obtain⟨sw,h1,h2⟩:=this
   exact⟨sw,h1,h2⟩
  ·rw [hp]
   constructor
   ·rintro (hn|hn)
    ·obtain⟨k1,k2,k3⟩:=hba hn
     simp only [Cl,Bool.and_eq_true,decide_eq_true_eq] at hn
     exact⟨k1,k3,hn.2⟩
    ·exact absurd (hab hn).1 (by rw [hr.1]; decide)
   ·rintro ⟨c1,c2,c3⟩
    refine .inl ?_
    have:b.kind=9:=by
     unfold ru at c1
     repeat' split at c1
     all_goals first|omega|(simp_all [consB]; done)|(exact absurd c1 (by decide))
    simp [Cl,this,c2,c3]
 ·simp only [hf,decide_false,Bool.false_eq_true,if_false]
  have:=key a b (pfi a b) ?_ Iff.rfl
  ·obtain⟨sw,h1,h2⟩:=this
   exact⟨sw,h1,fun h=>by rw [h2 h]; simp [hf]⟩
  ·constructor
   ·rintro (hn|hn)
    ·obtain⟨k1,k2⟩:=hab hn
     simp only [Cl,Bool.and_eq_true,decide_eq_true_eq] at hn
     exact⟨by simp [pcl,k1],k2,hn.2⟩
    ·obtain⟨k1,k2,k3⟩:=hba hn
     exact absurd (by simp [pfi,k1,k2]) hf
   ·rintro ⟨c1,c2,c3⟩
    refine .inl ?_
    have hr:ru a.kind a.level b.kind b.level=6:=by
     unfold pcl at c1
     unfold pfi at hf
     by_cases h1:ru a.kind a.level b.kind b.level=0
     ·by_cases h2:ru b.kind b.level a.kind a.level=0 <;> simp_all
     ·simp_all
    have:a.kind=9:=by
     unfold ru at hr
     repeat' split at hr
     all_goals first|omega|(simp_all [consB]; done)|(exact absurd hr (by decide))
    simp [Cl,this,c2,c3]
def grow (c n:Int):Int:=if c=1∨c=2 then (if n=0 then -2 else 0) else if c=3 then (if 0≤n∧n≤3 then n else 0) else if c=4 then (if 0≤n∧n≤3 then n - 2 else 0)
 else if c=5 then (if n=0 then -1 else 0) else if c=6 then (if 0≤n∧n≤3 then n - 1 else 0) else if c=7 then (if 2≤n∧n≤600 then n - 2 else 0) else 0
theorem VG (c n:Int):∃e,Km c n=some (grow c n,e):=by
 have j2:∀lo hi plus:Int,-10≤plus→plus≤10→0≤lo→hi≤1000→∃e,C0 n lo hi plus=some (if lo≤n∧n≤hi then n+plus else 0,e):=by
  intro lo hi plus h1 h2 h3 h4
  unfold C0 Gu
  by_cases h5:n<lo
  ·exact⟨2,by simp [h5,show ¬ (lo≤n∧n≤hi) from by omega]⟩
  ·by_cases h6:hi<n
   ·exact⟨2,by simp [h5,h6,show ¬ (lo≤n∧n≤hi) from by omega]⟩
   ·refine⟨0,?_⟩
    simp only [h5,h6,decide_false,Bool.false_eq_true,if_false]
    rw [if_pos ⟨by omega,by omega⟩,w64 (by omega) (by omega)]
 unfold Km Gv grow
 by_cases c1:c=1
 ·obtain⟨e,h⟩:=j2 0 0 (-2) (by omega) (by omega) (by omega) (by omega)
  refine⟨e,?_⟩
  simp only [c1,decide_true,if_true,true_or,h]
  by_cases hn:n=0
  ·simp [hn]
  ·rw [if_neg (by omega),if_neg hn]
 by_cases c2:c=2
 ·obtain⟨e,h⟩:=j2 0 0 (-2) (by omega) (by omega) (by omega) (by omega)
  refine⟨e,?_⟩
  simp only [c2,Int.reduceEq,decide_false,Bool.false_eq_true,if_false,decide_true,if_true,or_true,h]
  by_cases hn:n=0
  ·simp [hn]
  ·rw [if_neg (by omega),if_neg hn]
 by_cases c3:c=3
 ·obtain⟨e,h⟩:=j2 0 3 0 (by omega) (by omega) (by omega) (by omega)
  exact⟨e,by simp [c3,h]⟩
 by_cases c4:c=4
 ·obtain⟨e,h⟩:=j2 0 3 (-2) (by omega) (by omega) (by omega) (by omega)
  exact⟨e,by simp [c4,h,Int.sub_eq_add_neg]⟩
 by_cases c5:c=5
 ·obtain⟨e,h⟩:=j2 0 0 (-1) (by omega) (by omega) (by omega) (by omega)
  refine⟨e,?_⟩
  simp only [c5,Int.reduceEq,decide_false,Bool.false_eq_true,if_false,decide_true,if_true,or_self,h]
  by_cases hn:n=0
  ·simp [hn]
  ·rw [if_neg (by omega),if_neg hn]
 by_cases c6:c=6
 ·obtain⟨e,h⟩:=j2 0 3 (-1) (by omega) (by omega) (by omega) (by omega)
  exact⟨e,by simp [c6,h,Int.sub_eq_add_neg]⟩
 by_cases c7:c=7
 ·obtain⟨e,h⟩:=j2 2 600 (-2) (by omega) (by omega) (by omega) (by omega)
  exact⟨e,by simp [c7,h,Int.sub_eq_add_neg]⟩
 exact⟨2,by simp [c1,c2,c3,c4,c5,c6,c7]⟩
theorem VH (c n:Int) (h0: -1000000000000≤n∧n≤1000000000000):∃e,Kn c n=some (grow c n,e):=by
 have j2:∀lo hi v:Int,∃e,C1 n lo hi v=some (if lo≤n∧n≤hi then v else 0,e):=by
  intro lo hi v
  unfold C1
  rw [EQ,AA]
  by_cases h5:lo≤n∧n≤hi
  ·exact⟨0,by simp [h5]⟩
  ·exact⟨2,by simp [h5]⟩
 have w1:IntKind.i64.wrap (n - 1)=n - 1:=w64 (by omega) (by omega)
 have w2:IntKind.i64.wrap (n - 2)=n - 2:=w64 (by omega) (by omega)
 unfold Kn Gx grow
 by_cases c1:c=1
 ·obtain⟨e,h⟩:=j2 0 0 (-2)
  refine⟨e,?_⟩
  simp only [c1,decide_true,if_true,true_or,h]
  by_cases hn:n=0
  ·simp [hn]
  ·rw [if_neg (by omega),if_neg hn]
 by_cases c2:c=2
 ·obtain⟨e,h⟩:=j2 0 0 (-2)
  refine⟨e,?_⟩
  simp only [c2,Int.reduceEq,decide_false,Bool.false_eq_true,if_false,decide_true,if_true,or_true,h]
  by_cases hn:n=0
  ·simp [hn]
  ·rw [if_neg (by omega),if_neg hn]
 by_cases c3:c=3
 ·obtain⟨e,h⟩:=j2 0 3 n
  exact⟨e,by simp [c3,h]⟩
 by_cases c4:c=4
 ·obtain⟨e,h⟩:=j2 0 3 (n - 2)
  exact⟨e,by simp [c4,h,w2]⟩
 by_cases c5:c=5
 ·obtain⟨e,h⟩:=j2 0 0 (-1)
  refine⟨e,?_⟩
  simp only [c5,Int.reduceEq,decide_false,Bool.false_eq_true,if_false,decide_true,if_true,or_self,h]
  by_cases hn:n=0
  ·simp [hn]
  ·rw [if_neg (by omega),if_neg hn]
 by_cases c6:c=6
 ·obtain⟨e,h⟩:=j2 0 3 (n - 1)
  exact⟨e,by simp [c6,h,w1]⟩
 by_cases c7:c=7
 ·obtain⟨e,h⟩:=j2 2 600 (n - 2)
  exact⟨e,by simp [c7,h,w2]⟩
 exact⟨2,by simp [c1,c2,c3,c4,c5,c6,c7]⟩
end Go.Proofs.YtckcfdggbbabfaaGreat.Ab
namespace Go.Proofs.YtckcfdggbbabfaaGreat.Ab
set_option linter.unusedVariables false
set_option linter.unusedSimpArgs false
open Go.RowKit
abbrev Sh:=Int × Int × Int × List Int × Nat
theorem M.mono' {l:List Agent} {X Y:Port→Prop} (h:M l X) (hxy:∀p q,get l p=some q→(X p↔Y p)):M l Y:=fun p q hp hy=>by
 obtain⟨h1,h2,h3⟩:=h p q hp fun hx=>hy ((hxy p q hp).1 hx)
 exact⟨fun hq=>h1 ((hxy q p h3).2 hq),h2,h3⟩
theorem Bc {l:List Agent} {p q:Port} {x:Sh} (h:get l p=some q) (hx:at? (l.map sh) p.agent=some x):0≤p.slot∧p.slot<(x.2.2.2.2 :Int):=by
 obtain⟨a,h1,h2⟩:=Aq.1 h
 rw [DM h1] at hx
 cases hx
 exact Cf h2
theorem Cw {l:List Agent} {p q:Port} (h:get l p=some q):0≤p.agent∧p.agent<(l.length:Int):=by
 obtain⟨a,h1,-⟩:=Aq.1 h
 exact Cf h1
theorem Jq {l:List Agent} {l':List Sh} (h:l.map sh=l'):l.length=l'.length:=by rw [← h,List.length_map]
section
variable {S:Int→Prop} {X:Port→Prop} {A B:List Agent}
theorem Ok.mono' {Y:Port→Prop} (h:Ok S X A B) (hxy:∀p q,Ab.get A p=some q→(X p↔Y p)) (hs:∀p,S p.agent→Y p):Ok S Y A B:=⟨h.len,h.ag,h.hl,h.m.mono' hxy,hs⟩
def Fr (A A':List Agent) (X:Port→Prop):Prop:=∀p q,Ab.get A p=some q→Ab.get A q=some p→¬X p→¬X q→Ab.get A' p=some q
theorem cF {p q a b r s:Port} (hm:M A X) (hp:Ab.get A p=some a) (hq:Ab.get A q=some b) (xp:¬X p) (xq:¬X q) (hr:Ab.get A r=some s) (h1:s≠p) (h2:s≠q):Ab.get (jn A p q) r=some s:=by
 obtain⟨-,-,k3⟩:=hm p a hp xp
 obtain⟨-,-,m3⟩:=hm q b hq xq
 unfold jn
 rw [hp,hq]
 simp only
 split
 ·exact hr
 ·rw [Ib k3 m3 (fun e=>by rw [e,k3] at hr; exact h1 (Option.some.inj hr).symm) (fun e=>by rw [e,m3] at hr; exact h2 (Option.some.inj hr).symm)]
  exact hr
structure Pr (S:Int→Prop) (A:List Agent) (x y:Int) (a b:Agent):Prop where
 hx:at? A x=some a
 hy:at? A y=some b
 w:Ab.get A ⟨x,0⟩=some ⟨y,0⟩
 sx:¬S x
 sy:¬S y
structure Done (S:Int→Prop) (A:List Agent) (x y:Int) (new:List Sh) (A' B':List Agent):Prop where
 ok:Ok S (fun p=>S p.agent∨p.agent=x∨p.agent=y) A' B'
 shp:A'.map sh=A.map sh++new
 fr:Fr A A' fun p=>S p.agent∨p.agent=x∨p.agent=y
theorem Ok.start (h:Ok S (fun p=>S p.agent) A B) {x y:Int} {a b:Agent} (hp:Pr S A x y a b):Ok S (fun p=>S p.agent∨p=⟨x,0⟩∨p=⟨y,0⟩) A B∧x≠y:=by
 refine⟨⟨h.len,h.ag,h.hl,h.m.drop hp.w hp.sx,fun p hs=>.inl hs⟩,fun e=>?_⟩
 obtain⟨-,h2,-⟩:=h.m _ _ hp.w hp.sx
 exact h2 (by rw [e])
theorem bJ (h:Ok S (fun p=>S p.agent) A B) {x y:Int} {a b:Agent} (hp:Pr S A x y a b) (ha:a.ports.length=3) (hb:b.ports.length=3):
  ∃A1 A2 B1 B2,(∀bk r,By ⟨⟨A⟩,bk,r⟩ ⟨x,1⟩ ⟨y,1⟩=some ⟨⟨A1⟩,bk,r⟩)∧(∀bk r,By ⟨⟨A1⟩,bk,r⟩ ⟨x,2⟩ ⟨y,2⟩=some ⟨⟨A2⟩,bk,r⟩)∧
   E2 ⟨B⟩ ⟨x,1⟩ ⟨y,1⟩=some ⟨B1⟩∧E2 ⟨B1⟩ ⟨x,2⟩ ⟨y,2⟩=some ⟨B2⟩∧Done S A x y [] A2 B2:=by
 obtain⟨h0,hne⟩:=h.start hp
 have hsx:=DM hp.hx
 have hsy:=DM hp.hy
 obtain⟨u1,g1⟩:=Nl hsx (s:=1) (by omega) (by simp only [sh]; omega)
 obtain⟨v1,g2⟩:=Nl hsy (s:=1) (by omega) (by simp only [sh]; omega)
 have nx:∀s:Int,s≠0→¬ (S x∨(⟨x,s⟩:Port)=⟨x,0⟩∨(⟨x,s⟩:Port)=⟨y,0⟩):=fun s hs h=>by
  rcases h with h|h|h
  ·exact hp.sx h
  ·rw [Af] at h; exact hs h.2
  ·rw [Af] at h; exact hs h.2
 have ny:∀s:Int,s≠0→¬ (S y∨(⟨y,s⟩:Port)=⟨x,0⟩∨(⟨y,s⟩:Port)=⟨y,0⟩):=fun s hs h=>by
  rcases h with h|h|h
  ·exact hp.sy h
  ·rw [Af] at h; exact hs h.2
  ·rw [Af] at h; exact hs h.2
 have pxy:∀s t:Int,(⟨x,s⟩:Port)≠⟨y,t⟩:=fun s t h=>by rw [Af] at h; exact hne h.1
 obtain⟨e1,e2,k1,-,k2⟩:=h0.join g1 g2 (nx 1 (by omega)) (ny 1 (by omega)) (pxy 1 1)
 obtain⟨u2,g3⟩:=Nl (l:=jn A ⟨x,1⟩ ⟨y,1⟩) (k:=x) (s:=2) (by rw [k2]; exact hsx) (by omega) (by simp only [sh]; omega)
 obtain⟨v2,g4⟩:=Nl (l:=jn A ⟨x,1⟩ ⟨y,1⟩) (k:=y) (s:=2) (by rw [k2]; exact hsy) (by omega) (by simp only [sh]; omega)
 have nn:∀z:Int,((z=x∧¬S x)∨(z=y∧¬S y))→¬ ((S z∨(⟨z,2⟩:Port)=⟨x,0⟩∨(⟨z,2⟩:Port)=⟨y,0⟩)∨(⟨z,2⟩:Port)=⟨x,1⟩∨(⟨z,2⟩:Port)=⟨y,1⟩):=fun z hz h=>by
  simp only [Af] at h
  rcases hz with ⟨rfl,hz⟩|⟨rfl,hz⟩
  ·rcases h with (h|h|h)|h|h
   ·exact hz h
   all_goals omega
  ·rcases h with (h|h|h)|h|h
   ·exact hz h
   all_goals omega
 obtain⟨e3,e4,k3,-,k4⟩:=k1.join g3 g4 (nn x (.inl ⟨rfl,hp.sx⟩)) (nn y (.inr ⟨rfl,hp.sy⟩)) (pxy 2 2)
 refine⟨_,_,_,_,e1,e3,e2,e4,k3.mono' (fun p q hq=>?_) fun p hs=>.inl hs,by rw [k4,k2,List.append_nil],fun p q hp1 hp2 n1 n2=>?_⟩
 rotate_left
 ·have nq:∀z s:Int,(z=x∨z=y)→q≠⟨z,s⟩:=fun z s hz e=>n2 (by
   rw [Af] at e
   rcases hz with hz|hz
   ·exact .inr (.inl (e.1.trans hz))
   ·exact .inr (.inr (e.1.trans hz)))
  exact cF k1.m g3 g4 (nn x (.inl ⟨rfl,hp.sx⟩)) (nn y (.inr ⟨rfl,hp.sy⟩)) (cF h0.m g1 g2 (nx 1 (by omega)) (ny 1 (by omega)) hp1 (nq x 1 (.inl rfl)) (nq y 1 (.inr rfl))) (nq x 2 (.inl rfl)) (nq y 2 (.inr rfl))
 simp only [Af]
 have hs:p.agent=x∨p.agent=y→0≤p.slot∧p.slot<3:=fun e=>by
  rcases e with e|e
  ·have:=Bc hq (by rw [k4,k2,e]; exact hsx); simp only [sh,ha] at this; omega
  ·have:=Bc hq (by rw [k4,k2,e]; exact hsy); simp only [sh,hb] at this; omega
 grind
structure Way1 (S:Int→Prop) (A:List Agent) (new:List Sh) (X:Port→Prop) (A' B':List Agent):Prop where
 ok:Ok S X A' B'
 shp:A'.map sh=A.map sh++new
 fr:Fr A A' X
theorem Way1.len {new:List Sh} {A' B':List Agent} (h:Way1 S A new X A' B'):A'.length=A.length+new.length:=by
 rw [Jq h.shp,List.length_append,List.length_map]
theorem Bx {α:Type} {l m:List α} {k:Int} {x:α} (h:at? l k=some x):at? (l++m) k=some x:=by
 obtain⟨h1,h2⟩:=A5 h
 have:=(List.getElem?_eq_some_iff.1 h2).1
 unfold at?
 rw [if_pos h1,List.getElem?_append_left this]; exact h2
theorem FN {α:Type} {l m:List α} {k:Nat} {x:α} (h:m[k]? =some x):at? (l++m) ((l.length+k:Nat):Int)=some x:=by
 unfold at?
 rw [if_pos (by omega),Int.toNat_natCast,List.getElem?_append_right (by omega),show l.length+k - l.length=k from by omega]; exact h
theorem Way1.old {new:List Sh} {A' B':List Agent} (h:Way1 S A new X A' B') {k:Int} {a:Agent} (ha:at? A k=some a) {s:Int} (h0:0≤s) (hs:s<(a.ports.length:Int)):∃u,Ab.get A' ⟨k,s⟩=some u:=
 Nl (x:=sh a) (by rw [h.shp]; exact Bx (DM ha)) h0 hs
theorem Way1.new {new:List Sh} {A' B':List Agent} (h:Way1 S A new X A' B') {k:Nat} {x:Sh} (ha:new[k]? =some x) {s:Int} (h0:0≤s) (hs:s<(x.2.2.2.2 :Int)):∃u,Ab.get A' ⟨((A.length+k:Nat):Int),s⟩=some u:=
 Nl (x:=x) (by rw [h.shp]; have:=FN (l:=A.map sh) ha; rwa [List.length_map] at this) h0 hs
theorem Way1.ex {new:List Sh} {A' B':List Agent} (h:Way1 S A new X A' B') {p q:Port} (hp:Ab.get A p=some q):∃u,Ab.get A' p=some u:=by
 obtain⟨a,h1,h2⟩:=Aq.1 hp
 have:=Cf h2
 obtain⟨u,hu⟩:=h.old h1 (s:=p.slot) this.1 this.2
 exact⟨u,hu⟩
theorem Way1.move {new:List Sh} {A' B':List Agent} (h:Way1 S A new X A' B') {o n u u':Port} (ho:Ab.get A' o=some u) (hn:Ab.get A' n=some u') (xo:¬X o) (xn:X n) (sn:¬S n.agent) {Y:Port→Prop} (hY:∀p q,Ab.get A' p=some q→((X p∨p=o)∧p≠n↔Y p)) (hs:∀p,S p.agent→Y p) (nn:(A.length:Int)≤n.agent:=by first|omega|(simp only; omega)):
  ∃A2 B2,(∀bk r,AS ⟨⟨A'⟩,bk,r⟩ o n=some ⟨⟨A2⟩,bk,r⟩)∧Be ⟨B'⟩ o n=some ⟨B2⟩∧Way1 S A new Y A2 B2:=by
 obtain⟨e1,e2,k1,k2,k3⟩:=h.ok.move ho xo hn xn sn
 have ex:∀p q,Ab.get (mv A' o n) p=some q→∃q',Ab.get A' p=some q':=fun p q hq=>by
  obtain⟨a,h1,h2⟩:=Aq.1 hq
  obtain⟨a',h3,h4⟩:=Ks (k3 ▸ DM h1)
  have h5:a'.ports.length=a.ports.length:=by simp only [sh,Prod.mk.injEq] at h4; exact h4.2.2.2.2
  have h6:=Cf h2
  obtain⟨q',h7,-⟩:=EI (l:=a'.ports) (i:=p.slot) (by rw [h5]; exact h6)
  exact⟨q',Aq.2 ⟨a',h3,h7⟩⟩
 refine⟨_,_,e1,e2,k1.mono' (fun p q hq=>?_) hs,k3.trans h.shp,fun p q h1 h2 n1 n2=>?_⟩
 rotate_left
 ·have l1:=Cw h1
  have l2:=Cw h2
  obtain⟨p',hp'⟩:=h.ex h1
  obtain⟨q',hq'⟩:=h.ex h2
  have pn:p≠n:=fun e=>by rw [e] at l1; omega
  have qn:q≠n:=fun e=>by rw [e] at l2; omega
  have c1:¬ (X p∨p=o):=fun e=>n1 ((hY p p' hp').1 ⟨e,pn⟩)
  have c2:¬ (X q∨q=o):=fun e=>n2 ((hY q q' hq').1 ⟨e,qn⟩)
  have g:=h.fr p q h1 h2 (fun e=>c1 (.inl e)) fun e=>c2 (.inl e)
  obtain⟨-,-,m3⟩:=h.ok.m o u ho xo
  unfold mv
  rw [ho]
  simp only
  rw [Ib hn m3 pn fun e=>c2 (.inr (by rw [e,m3] at g; exact(Option.some.inj g).symm))]
  exact g
 obtain⟨q',hq'⟩:=ex p q hq
 exact hY p q' hq'
theorem Way1.add {new:List Sh} {A' B':List Agent} (h:Way1 S A new X A' B') (k lv v:Int) (d:List Int) (n:Nat) (hl:A'.length+1≤Big) (hd:d.length≤Big) (hn:n≤Big):
  (∀bk r,Ae ⟨⟨A'⟩,bk,r⟩ k lv v d (n:Int)=some (((A.length+new.length:Nat):Int),⟨⟨A'++[newA k lv v d n]⟩,bk,r⟩))∧CP ⟨B'⟩ k lv v d (n:Int)=some (((A.length+new.length:Nat):Int),⟨B'++[newA k lv v d n]⟩)∧
   Way1 S A (new++[(k,lv,v,d,n)]) (fun p=>X p∨p.agent=((A.length+new.length:Nat):Int)) (A'++[newA k lv v d n]) (B'++[newA k lv v d n]):=by
 have e:=h.len
 have e':=h.ok.len
 refine⟨fun bk r=>by rw [WH A' bk r k lv v d n hl hd hn,e],by rw [bG B' k lv v d n (by omega) hd hn,← e',e],?_,?_,fun p q h1 h2 n1 n2=>?_⟩
 ·have:=h.ok.add (newA k lv v d n)
  rw [e] at this; exact this
 ·rw [List.map_append,h.shp,List.append_assoc]
  simp [sh,newA]
 ·have g:=h.fr p q h1 h2 (fun e=>n1 (.inl e)) fun e=>n2 (.inl e)
  have:=Cw g
  rw [JG,if_neg (by omega)]; exact g
theorem Way1.link {new:List Sh} {A' B':List Agent} (h:Way1 S A new X A' B') {p q u v:Port} (hp:Ab.get A' p=some u) (hq:Ab.get A' q=some v) (hne:p≠q) (xp:X p) (xq:X q) (sp:¬S p.agent) (sq:¬S q.agent) (np:(A.length:Int)≤p.agent:=by first|omega|(simp only; omega)) (nq:(A.length:Int)≤q.agent:=by first|omega|(simp only; omega)):
  ∃A2 B2,CA ⟨A'⟩ p q=some ⟨A2⟩∧CA ⟨A'⟩ q p=some ⟨A2⟩∧s_l11Link ⟨B'⟩ p q=some ⟨B2⟩∧s_l11Link ⟨B'⟩ q p=some ⟨B2⟩∧Way1 S A new (fun r=>X r∧r≠p∧r≠q) A2 B2:=by
 obtain⟨e1,e2,e3,e4,k⟩:=h.ok.link hp hq hne xp xq sp sq
 refine⟨_,_,e1,e2,e3,e4,k,by rw [Ts]; exact h.shp,fun r s h1 h2 n1 n2=>?_⟩
 have l1:=Cw h1
 have l2:=Cw h2
 have rp:r≠p:=fun e=>by rw [e] at l1; omega
 have rq:r≠q:=fun e=>by rw [e] at l1; omega
 have sp':s≠p:=fun e=>by rw [e] at l2; omega
 have sq':s≠q:=fun e=>by rw [e] at l2; omega
 rw [Ib hp hq rp rq]
 exact h.fr r s h1 h2 (fun e=>n1 ⟨e,rp,rq⟩) fun e=>n2 ⟨e,sp',sq'⟩
theorem Way1.mono {new:List Sh} {A' B':List Agent} (h:Way1 S A new X A' B') {Y:Port→Prop} (hY:∀p q,Ab.get A' p=some q→(X p↔Y p)) (hs:∀p,S p.agent→Y p):Way1 S A new Y A' B':=⟨h.ok.mono' hY hs,h.shp,fun p q h1 h2 n1 n2=>by
 obtain⟨p',hp'⟩:=h.ex h1
 obtain⟨q',hq'⟩:=h.ex h2
 exact h.fr p q h1 h2 (fun e=>n1 ((hY p p' hp').1 e)) fun e=>n2 ((hY q q' hq').1 e)⟩
theorem Way1.done {new:List Sh} {A' B':List Agent} (h:Way1 S A new X A' B') {x y:Int} (hY:∀p q,Ab.get A' p=some q→(X p↔S p.agent∨p.agent=x∨p.agent=y)):Done S A x y new A' B':=
 have w:=h.mono hY fun p hs=>.inl hs
 ⟨w.ok,w.shp,w.fr⟩
theorem Fr.refl:Fr A A X:=fun p q h _ _ _=>h
end
end Go.Proofs.YtckcfdggbbabfaaGreat.Ab
namespace Go.Proofs.YtckcfdggbbabfaaGreat.Ab
set_option linter.unusedVariables false
set_option linter.unusedSimpArgs false
open Go.RowKit
section
variable {S:Int→Prop} {A B:List Agent}
theorem CH (a s:Int):AZ a s=some ⟨a,s⟩:=rfl
def H8:Sh:=(5,0,0,[],1)
theorem VI {x y:Int} {a b:Agent} (hp:Pr S A x y a b) (hne:x≠y) (ha:a.ports.length=1) (hbb:b.ports.length≤100) (hA:A.length≤8000000) (a0:Rewriter) (v:Int × Int × Int × Int) (hv:v.2.2.1 =y) (r:List (Int × Bool)) (z:Int × Int) (hz:z.2 =y) (c:Int):
  ∀ (k i m:Nat) (A1 B1:List Agent),i+k=b.ports.length→1≤i→k<m→Way1 S A (List.replicate (i - 1) H8) (fun p=>S p.agent∨p.agent=x∨(p.agent=y∧p.slot<(i:Int))) A1 B1→
   ∃A2 B2 m',Ah m a0 v r A1 (i:Int)=Ah (m'+1) a0 v r A2 (b.ports.length:Int)∧Di m z c b B1 (i:Int)=Di (m'+1) z c b B2 (b.ports.length:Int)∧
    Way1 S A (List.replicate (b.ports.length - 1) H8) (fun p=>S p.agent∨p.agent=x∨(p.agent=y∧p.slot<(b.ports.length:Int))) A2 B2:=by
 intro k
 induction k with
 |zero=>
  intro i m A1 B1 h h1 hm hw
  obtain⟨m,rfl⟩:∃q,m=q+1:=⟨m - 1,by omega⟩
  have:i=b.ports.length:=by omega
  subst this
  exact⟨A1,B1,m,rfl,rfl,hw⟩
 | succ k ih=>
  intro i m A1 B1 h h1 hm hw
  obtain⟨m,rfl⟩:∃q,m=q+1:=⟨m - 1,by omega⟩
  have hlen:=hw.len
  rw [List.length_replicate] at hlen
  obtain⟨e1,e2,w1⟩:=hw.add 5 0 0 [] 1 (by unfold Big; omega) (by simp) (by unfold Big; omega)
  rw [List.length_replicate] at e1 e2 w1
  have hsy:at? (A1.map sh) y=some (sh b):=by rw [hw.shp]; exact Bx (DM hp.hy)
  obtain⟨b',hb',hbs⟩:=Ks hsy
  have hbl:b'.ports.length=b.ports.length:=by simp only [sh,Prod.mk.injEq] at hbs; exact hbs.2.2.2.2
  have hyl:=Cf hp.hy
  have hxl:=Cf hp.hx
  obtain⟨u,g1⟩:=w1.old hp.hy (s:=(i:Int)) (by omega) (by omega)
  obtain⟨u',g2⟩:=w1.new (k:=i - 1) (x:=H8) (s:=0) (by
   rw [List.getElem?_append_right (by simp),List.length_replicate,Nat.sub_self]; rfl) (by omega) (by simp [H8])
  obtain⟨A2,B2,e3,e4,w2⟩:=w1.move g1 g2 (fun h=>by
    rcases h with (h|h|h)|h
    ·exact hp.sy h
    ·exact hne h.symm
    ·simp only at h; omega
    ·simp only at h; omega) (.inr rfl) (fun hs=>by
    have:=hw.ok.s_lt hs
    simp only at this
    omega) (Y:=fun p=>S p.agent∨p.agent=x∨(p.agent=y∧p.slot<((i+1:Nat):Int))) (fun p q hq=>by
    have hn:p.agent=((A.length+(i - 1):Nat):Int)→p.slot=0:=fun e=>by
     have:=Bc hq (x:=H8) (by
      rw [w1.shp,e]
      have:=FN (l:=A.map sh) (m:=List.replicate (i - 1) H8++[H8]) (k:=i - 1) (x:=H8) (by rw [List.getElem?_append_right (by simp),List.length_replicate,Nat.sub_self]; rfl)
      rwa [List.length_map] at this)
     simp only [H8] at this; omega
    have hsl:p.agent=((A.length+(i - 1):Nat):Int)→¬S p.agent:=fun e hs=>by
     have:=hw.ok.s_lt hs
     omega
    simp only [ne_eq,Af]
    grind) fun p hs=>.inl hs
  obtain⟨A3,B3,m',k1,k2,k3⟩:=ih (i+1) m A2 B2 (by omega) (by omega) (by omega) (by
   rw [show i+1 - 1=(i - 1)+1 from by omega,List.replicate_succ']; exact w2)
  refine⟨A3,B3,m',?_,?_,k3⟩
  ·rw [Ah,hv,hb',AA,hbl,if_pos (by simp; omega)]
   have:=e1 a0.book r
   simp only [Int.natCast_one] at this
   rw [this,AA,e3,AA,w64 (by omega) (by omega),show ((i:Int)+1)=((i+1:Nat):Int) from by omega]
   exact k1
  ·rw [Di,if_pos (by simp; omega)]
   simp only [Int.natCast_one] at e2
   rw [e2,AA,hz,CH,AA,CH,AA,e4,AA,w64 (by omega) (by omega),show ((i:Int)+1)=((i+1:Nat):Int) from by omega]
   exact k2
theorem ZN (h:Ok S (fun p=>S p.agent) A B) {x y:Int} {a b:Agent} (hp:Pr S A x y a b) (ha:a.ports.length=1) (hb1:1≤b.ports.length) (hbb:b.ports.length≤100) (hA:A.length≤8000000) (a0:Rewriter) (v:Int × Int × Int × Int) (hv:v.2.2.1 =y) (r:List (Int × Bool)) (z:Int × Int) (hz:z.2 =y) (c:Int):
  ∃A2 B2,Ah fuel a0 v r A 1=Ac a0 v r A2∧Di fuel z c b B 1=CS z c B2∧Done S A x y (List.replicate (b.ports.length - 1) H8) A2 B2:=by
 obtain⟨h0,hne⟩:=h.start hp
 have w0:Way1 S A (List.replicate (1 - 1) H8) (fun p=>S p.agent∨p.agent=x∨(p.agent=y∧p.slot<((1:Nat):Int))) A B:=by
  refine⟨h0.mono' (fun p q hq=>?_) fun p hs=>.inl hs,by simp,.refl⟩
  have hs1:p.agent=x→p.slot=0:=fun e=>by
   have:=Bc hq (x:=sh a) (by rw [e]; exact DM hp.hx)
   simp only [sh,ha] at this; omega
  have hs2:p.agent=y→0≤p.slot:=fun e=>(Bc hq (x:=sh b) (by rw [e]; exact DM hp.hy)).1
  simp only [ne_eq,Af]
  grind
 obtain⟨A2,B2,m',k1,k2,k3⟩:=VI hp hne ha hbb hA a0 v hv r z hz c (b.ports.length - 1) 1 fuel A B (by omega) (Nat.le_refl _) (by rw [Au]; omega) w0
 have hsy:at? (A2.map sh) y=some (sh b):=by rw [k3.shp]; exact Bx (DM hp.hy)
 obtain⟨b',hb',hbs⟩:=Ks hsy
 have hbl:b'.ports.length=b.ports.length:=by simp only [sh,Prod.mk.injEq] at hbs; exact hbs.2.2.2.2
 refine⟨A2,B2,?_,?_,k3.done fun p q hq=>?_⟩
 ·rw [Int.natCast_one] at k1
  rw [k1,Ah,hv,hb',AA,hbl,if_neg (by simp)]
 ·rw [Int.natCast_one] at k2
  rw [k2,Di,if_neg (by simp)]
 ·have hs2:p.agent=y→p.slot<(b.ports.length:Int):=fun e=>by
   have:=Bc hq (x:=sh b) (by rw [e]; exact hsy)
   simp only [sh] at this; omega
  grind
theorem Ok.start1 (h:Ok S (fun p=>S p.agent) A B) {x y:Int} {a b:Agent} (hp:Pr S A x y a b) (ha:a.ports.length=1):Way1 S A [] (fun p=>S p.agent∨p.agent=x∨p=⟨y,0⟩) A B∧x≠y:=by
 obtain⟨h0,hne⟩:=h.start hp
 refine⟨⟨h0.mono' (fun p q hq=>?_) fun p hs=>.inl hs,by simp,.refl⟩,hne⟩
 have hs1:p.agent=x→p.slot=0:=fun e=>by
  have:=Bc hq (x:=sh a) (by rw [e]; exact DM hp.hx)
  simp only [sh,ha] at this; omega
 simp only [ne_eq,Af]
 grind
theorem Tw (h:Ok S (fun p=>S p.agent) A B) {x y:Int} {a b:Agent} (hp:Pr S A x y a b) (ha:a.ports.length=1) (hb:b.ports.length=2) (hA:A.length≤8000000) (k lv v:Int) (d:List Int) (hd:d.length≤Big):
  ∃A1 A2 B1 B2,(∀bk r,Ae ⟨⟨A⟩,bk,r⟩ k lv v d 1=some ((A.length:Int),⟨⟨A1⟩,bk,r⟩))∧(∀bk r,AS ⟨⟨A1⟩,bk,r⟩ ⟨y,1⟩ ⟨(A.length:Int),0⟩=some ⟨⟨A2⟩,bk,r⟩)∧
   CP ⟨B⟩ k lv v d 1=some ((A.length:Int),⟨B1⟩)∧Be ⟨B1⟩ ⟨y,1⟩ ⟨(A.length:Int),0⟩=some ⟨B2⟩∧Done S A x y [(k,lv,v,d,1)] A2 B2:=by
 obtain⟨w0,hne⟩:=h.start1 hp ha
 obtain⟨e1,e2,w1⟩:=w0.add k lv v d 1 (by unfold Big; omega) hd (by unfold Big; omega)
 simp only [List.length_nil,Nat.add_zero,List.nil_append,Int.natCast_one] at e1 e2 w1
 have hyl:=Cf hp.hy
 have hxl:=Cf hp.hx
 obtain⟨u,g1⟩:=w1.old hp.hy (s:=1) (by omega) (by omega)
 obtain⟨u',g2⟩:=w1.new (k:=0) (s:=0) rfl (by omega) (by simp)
 rw [Nat.add_zero] at g2
 obtain⟨A2,B2,e3,e4,w2⟩:=w1.move g1 g2 (fun h=>by
   simp only [Af] at h
   rcases h with (h|h|h)|h
   ·exact hp.sy h
   ·exact hne h.symm
   ·omega
   ·omega) (.inr rfl) (fun hs=>by have:=h.s_lt hs; simp only at this; omega) (Y:=fun p=>S p.agent∨p.agent=x∨p.agent=y) (fun p q hq=>by
   have hn:p.agent=(A.length:Int)→p.slot=0:=fun e=>by
    have:=Bc hq (x:=(k,lv,v,d,1)) (by
     rw [w1.shp,e]
     have:=FN (l:=A.map sh) (m:=[(k,lv,v,d,1)]) (k:=0) rfl
     rwa [List.length_map,Nat.add_zero] at this)
    simp only at this; omega
   have hy2:p.agent=y→p.slot=0∨p.slot=1:=fun e=>by
    have:=Bc hq (x:=sh b) (by rw [w1.shp,e]; exact Bx (DM hp.hy))
    simp only [sh,hb] at this; omega
   have hsl:p.agent=(A.length:Int)→¬S p.agent:=fun e hs=>by have:=h.s_lt hs; omega
   simp only [ne_eq,Af]
   grind) fun p hs=>.inl hs
 exact⟨_,A2,_,B2,e1,e3,e2,e4,w2.ok,w2.shp,w2.fr⟩
theorem XW (h:Ok S (fun p=>S p.agent) A B) {x y:Int} {a b:Agent} (hp:Pr S A x y a b) (ha:a.ports.length=1) (hb:b.ports.length=3) (hA:A.length≤8000000) (k lv v:Int) (d:List Int) (hd:d.length≤Big):
  ∃A1 A2 A3 B1 B2 B3,(∀bk r,Ae ⟨⟨A⟩,bk,r⟩ k lv v d 2=some ((A.length:Int),⟨⟨A1⟩,bk,r⟩))∧(∀bk r,AS ⟨⟨A1⟩,bk,r⟩ ⟨y,1⟩ ⟨(A.length:Int),0⟩=some ⟨⟨A2⟩,bk,r⟩)∧(∀bk r,AS ⟨⟨A2⟩,bk,r⟩ ⟨y,2⟩ ⟨(A.length:Int),1⟩=some ⟨⟨A3⟩,bk,r⟩)∧
   CP ⟨B⟩ k lv v d 2=some ((A.length:Int),⟨B1⟩)∧Be ⟨B1⟩ ⟨y,1⟩ ⟨(A.length:Int),0⟩=some ⟨B2⟩∧Be ⟨B2⟩ ⟨y,2⟩ ⟨(A.length:Int),1⟩=some ⟨B3⟩∧Done S A x y [(k,lv,v,d,2)] A3 B3:=by
 obtain⟨w0,hne⟩:=h.start1 hp ha
 obtain⟨e1,e2,w1⟩:=w0.add k lv v d 2 (by unfold Big; omega) hd (by unfold Big; omega)
 simp only [List.length_nil,Nat.add_zero,List.nil_append] at e1 e2 w1
 have hyl:=Cf hp.hy
 have hxl:=Cf hp.hx
 have hsl:∀p:Port,p.agent=(A.length:Int)→¬S p.agent:=fun p e hs=>by have:=h.s_lt hs; omega
 obtain⟨u,g1⟩:=w1.old hp.hy (s:=1) (by omega) (by omega)
 obtain⟨u',g2⟩:=w1.new (k:=0) (s:=0) rfl (by omega) (by simp)
 rw [Nat.add_zero] at g2
 obtain⟨A2,B2,e3,e4,w2⟩:=w1.move g1 g2 (fun h=>by
   simp only [Af] at h
   rcases h with (h|h|h)|h
   ·exact hp.sy h
   ·exact hne h.symm
   ·omega
   ·omega) (.inr rfl) (hsl ⟨_,0⟩ rfl) (Y:=fun p=>S p.agent∨p.agent=x∨(p.agent=y∧p.slot≤1)∨p=⟨(A.length:Int),1⟩) (fun p q hq=>by
   have hn:p.agent=(A.length:Int)→p.slot=0∨p.slot=1:=fun e=>by
    have:=Bc hq (x:=(k,lv,v,d,2)) (by
     rw [w1.shp,e]
     have:=FN (l:=A.map sh) (m:=[(k,lv,v,d,2)]) (k:=0) rfl
     rwa [List.length_map,Nat.add_zero] at this)
    simp only at this; omega
   have hy2:p.agent=y→p.slot=0∨p.slot=1∨p.slot=2:=fun e=>by
    have:=Bc hq (x:=sh b) (by rw [w1.shp,e]; exact Bx (DM hp.hy))
    simp only [sh,hb] at this; omega
   have hs':=hsl p
   simp only [ne_eq,Af]
   grind) fun p hs=>.inl hs
 obtain⟨u2,g3⟩:=w2.old hp.hy (s:=2) (by omega) (by omega)
 obtain⟨u3,g4⟩:=w2.new (k:=0) (s:=1) rfl (by omega) (by simp)
 rw [Nat.add_zero] at g4
 obtain⟨A3,B3,e5,e6,w3⟩:=w2.move g3 g4 (fun h=>by
   simp only [Af] at h
   rcases h with h|h|h|h
   ·exact hp.sy h
   ·exact hne h.symm
   ·omega
   ·omega) (.inr (.inr (.inr rfl))) (hsl ⟨_,1⟩ rfl) (Y:=fun p=>S p.agent∨p.agent=x∨p.agent=y) (fun p q hq=>by
   have hy2:p.agent=y→p.slot=0∨p.slot=1∨p.slot=2:=fun e=>by
    have:=Bc hq (x:=sh b) (by rw [w2.shp,e]; exact Bx (DM hp.hy))
    simp only [sh,hb] at this; omega
   have hs':=hsl p
   simp only [ne_eq,Af]
   grind) fun p hs=>.inl hs
 exact⟨_,A2,A3,_,B2,B3,e1,e3,e5,e2,e4,e6,w3.ok,w3.shp,w3.fr⟩
end
end Go.Proofs.YtckcfdggbbabfaaGreat.Ab
namespace Go.Proofs.YtckcfdggbbabfaaGreat.Ab
set_option linter.unusedVariables false
set_option linter.unusedSimpArgs false
open Go.RowKit
theorem dS (x:Int):IntKind.i32.wrap (IntKind.u32.wrap (IntKind.u64.wrap x))=IntKind.i32.wrap x:=by
 have e:∀y,IntKind.i32.wrap y=if 2147483648≤y % 4294967296 then y % 4294967296 - 4294967296 else y % 4294967296:=fun y=>by
  simp [IntKind.wrap,IntKind.bits,IntKind.signed]
 have e1:∀y,IntKind.u32.wrap y=y % 4294967296:=fun y=>by simp [IntKind.wrap,IntKind.bits,IntKind.signed]
 have e2:∀y,IntKind.u64.wrap y=y % 18446744073709551616:=fun y=>by simp [IntKind.wrap,IntKind.bits,IntKind.signed]
 rw [e,e,e1,e2]
 have:x % 18446744073709551616 % 4294967296 % 4294967296=x % 4294967296:=by omega
 rw [this]
theorem ZO (x:Int):FK x=DV x:=by unfold FK DV; rw [dS]
theorem ZP (b:Bool):I3 b=Gf b:=rfl
theorem dT (o a b:Int):I4 o a b=E1 o a b:=by
 unfold I4 E1
 simp only [ZO,ZP]
theorem Ps (b:Bool):Gf b=some (if b=true then 1 else 0):=by unfold Gf; split <;> rfl
theorem Pt (x:Int):∃y,DV x=some y:=⟨_,rfl⟩
theorem dU (o a b:Int):∃y,E1 o a b=some y:=by
 unfold E1
 obtain⟨u,hu⟩:=Pt a
 obtain⟨v,hv⟩:=Pt b
 rw [hu,AA,hv,AA]
 have hw:∀x,∃y,(Option.bind (DV x) fun z=>some z)=some y:=fun x=>by
  obtain⟨y,hy⟩:=Pt x; exact⟨y,by rw [hy]; rfl⟩
 by_cases h1:o=1
 ·subst h1; exact hw _
 by_cases h2:o=2
 ·subst h2; exact hw _
 by_cases h3:o=3
 ·subst h3; exact hw _
 rw [if_neg (by simpa using h1),if_neg (by simpa using h2),if_neg (by simpa using h3)]
 by_cases h4:o=4
 ·subst h4
  rw [if_pos (by simp)]
  by_cases hz:v=0
  ·rw [if_pos (by simpa using hz)]; exact⟨_,rfl⟩
  ·rw [if_neg (by simpa using hz)]
   have:nz? v=some ():=by unfold nz?; rw [if_neg hz]
   rw [this,AA]
   exact hw _
 rw [if_neg (by simpa using h4)]
 by_cases h5:o=5
 ·rw [if_pos (by simpa using h5),Ps]; exact⟨_,rfl⟩
 rw [if_neg (by simpa using h5)]
 by_cases h6:o=6
 ·rw [if_pos (by simpa using h6),Ps]; exact⟨_,rfl⟩
 rw [if_neg (by simpa using h6)]
 exact⟨_,rfl⟩
theorem Ic (a:Agent) (hd:a.data.length≤Big) (hp:a.ports.length≤Big):s_l11OwnAgent a=some a:=by
 unfold s_l11OwnAgent
 rw [VE _ hd,AA,DO (by simpa using hp),AA]; rfl
def NB (x:Sh):Prop:=x.2.2.2.1.length ≤4∧x.2.2.2.2 ≤4∧x.1 ≠0
def shB (x:Sh):Bool:=agB ⟨x.1,x.2.1,x.2.2.1,x.2.2.2.1,List.replicate x.2.2.2.2 ⟨0,0⟩⟩
theorem Pu {a b:Agent} (h:sh a=sh b):agB a=agB b∧a.kind=b.kind:=by
 simp only [sh,Prod.mk.injEq] at h
 obtain⟨h1,h2,h3,h4,h5⟩:=h
 refine⟨?_,h1⟩
 unfold agB E8
 rw [h1,h2,h3,h4,h5]
theorem VJ (a:Agent):shB (sh a)=agB a:=(Pu (by simp [sh])).1
def SV (new:List Sh):Prop:=∀n ∈ new,n.1 ≠1∧shB n=true
theorem Gj {a:Agent} (h:agB a=true):levB a.kind a.level=true∧E8 a=true∧0<a.ports.length∧ports a.kind (if a.kind=9 then (a.ports.length:Int) - 1 else 0)=(a.ports.length:Int):=by
 unfold agB at h
 simp only [Bool.and_eq_true,decide_eq_true_eq] at h
 exact⟨h.1.2,h.2,h.1.1.1,h.1.1.2⟩
theorem Pv {k l m:Int} (h:levB k l=true) (hk:k≠1∧k≠5∧k≠6) (hm:1≤m∧m≤12∧m≠1∧m≠5∧m≠6):levB m l=true:=by
 unfold levB at h ⊢
 rw [if_neg (by omega)] at h
 rw [if_neg (by omega)]
 simp only [Bool.and_eq_true,decide_eq_true_eq] at h ⊢
 omega
theorem Tx {x y:Int} (h:DV x=some y): -2147483648≤y∧y≤2147483647:=by
 have e:∀z,IntKind.i32.wrap z=(if z % 4294967296<2147483648 then z % 4294967296 else z % 4294967296 - 4294967296):=fun z=>by
  simp [IntKind.wrap,IntKind.bits,IntKind.signed]
  split <;> split <;> omega
 have e2:∀z,-2147483648≤IntKind.i32.wrap z∧IntKind.i32.wrap z≤2147483647:=fun z=>by rw [e]; split <;> omega
 unfold DV at h
 cases h
 have:=e2 x
 first
  |exact e2 _
  |(rw [w64 (by omega) (by omega)]; exact e2 _)
theorem dV {o a b y:Int} (h:E1 o a b=some y): -2147483648≤y∧y≤2147483647:=by
 have ht:∀ {c:Bool} {z:Int},Gf c=some z→ -2147483648≤z∧z≤2147483647:=fun {c z} hz=>by
  unfold Gf at hz
  split at hz <;> cases hz <;> omega
 have hb:∀ {α β:Type} {x:Option α} {f:α→Option β} {r:β},Option.bind x f=some r→∃v,x=some v∧f v=some r:=fun {α β x f r} hx=>by
  cases x with
  |none=>cases hx
  |some v=>exact⟨v,rfl,hx⟩
 unfold E1 at h
 obtain⟨u,-,h⟩:=hb h
 obtain⟨v,-,h⟩:=hb h
 repeat' split at h
 all_goals first
  |(obtain⟨z,hz,h⟩:=hb h; cases h; first|exact Tx hz|exact ht hz)
  |(obtain⟨z,-,h⟩:=hb h; obtain⟨w,hw,h⟩:=hb h; cases h; exact Tx hw)
  |(cases h; omega)
def NBs (new:List Sh):Prop:=(∀n ∈ new,NB n)∧new.length≤600
section
variable {S:Int→Prop} {X:Port→Prop} {A B:List Agent}
theorem Pr.bx (h:Ok S X A B) {x y:Int} {a b:Agent} (hp:Pr S A x y a b):at? B x=some a:=(h.ag x hp.sx).symm.trans hp.hx
theorem Pr.bY (h:Ok S X A B) {x y:Int} {a b:Agent} (hp:Pr S A x y a b):at? B y=some b:=(h.ag y hp.sy).symm.trans hp.hy
theorem VK (h:Ok S (fun p=>S p.agent) A B) {x y:Int} {a b:Agent} (hp:Pr S A x y a b) (ga:agB a=true) (gb:agB b=true) (hka:a.kind=6) (ha:a.ports.length=1) (hk:(b.kind=7∧b.ports.length=3∧b.data.length=0)∨(b.kind=8∧b.ports.length=2∧b.data.length=1)) (hA:A.length≤8000000):
  ∃A2 B2 new,(∀bk r,CR ⟨⟨A⟩,bk,r⟩ x y=some ⟨⟨A2⟩,bk,r⟩)∧E3 ⟨B⟩ x y=some ⟨B2⟩∧Done S A x y new A2 B2∧NBs new∧SV new∧new.length=1:=by
 have hb:b.data.length≤Big∧b.ports.length≤Big:=by unfold Big; omega
 rcases hk with ⟨k1,k2,k3⟩|⟨k1,k2,k3⟩
 ·obtain⟨A1,A2,A3,B1,B2,B3,e1,e2,e3,f1,f2,f3,d⟩:=XW h hp ha k2 hA 8 b.level b.value [a.value] (by unfold Big; simp)
  refine⟨A3,B3,_,fun bk r=>?_,?_,d,?_⟩
  ·unfold CR
   rw [hp.hx,AA,hp.hy,AA,if_pos (by simp [k1]),e1,AA,e2,AA,e3,AA]
  ·unfold E3
   rw [hp.bY h,AA,Ic b hb.1 hb.2,AA,hp.bx h,AA,if_neg (by simp [k1]),f1,AA]
   simp only [CH,AA,f2,f3]
  ·refine⟨⟨fun n hn=>?_,by simp⟩,fun n hn=>?_,rfl⟩
   ·rw [List.mem_singleton] at hn; subst hn
    exact⟨by simp,by simp,by simp⟩
   ·rw [List.mem_singleton] at hn; subst hn
    have lb:=Pv (m:=8) (Gj gb).1 (by omega) (by omega)
    have cb:=(Gj gb).2.1
    unfold E8 at cb
    rw [if_neg (by omega),if_pos k1] at cb
    simp only [Bool.and_eq_true,decide_eq_true_eq] at cb
    have ca:=(Gj ga).2.1
    unfold E8 at ca
    rw [if_pos hka] at ca
    simp only [Bool.and_eq_true,decide_eq_true_eq] at ca
    refine⟨by simp,?_⟩
    simp [shB,agB,ports,E8,lb,cb,ca]
 ·obtain⟨d0,hd0⟩:∃d0,at? b.data 0=some d0:=by
   obtain⟨u,hu,-⟩:=EI (l:=b.data) (i:=0) (by omega)
   exact⟨u,hu⟩
  obtain⟨v,hv⟩:=dU b.value d0 a.value
  obtain⟨A1,A2,B1,B2,e1,e2,f1,f2,d⟩:=Tw h hp ha k2 hA 6 0 v [] (by simp)
  refine⟨A2,B2,_,fun bk r=>?_,?_,d,?_⟩
  ·unfold CR
   rw [hp.hx,AA,hp.hy,AA,if_neg (by simp [k1]),hd0,AA,hv,AA,e1,AA,e2,AA]
  ·unfold E3
   rw [hp.bY h,AA,Ic b hb.1 hb.2,AA,hp.bx h,AA,if_pos (by simp [k1]),hd0,AA,dT,hv,AA,f1,AA]
   simp only [CH,AA,f2]
  ·refine⟨⟨fun n hn=>?_,by simp⟩,fun n hn=>?_,rfl⟩
   ·rw [List.mem_singleton] at hn; subst hn
    exact⟨by simp,by simp,by simp⟩
   ·rw [List.mem_singleton] at hn; subst hn
    have bd:=dV hv
    refine⟨by simp,?_⟩
    simp [shB,agB,ports,E8,levB,bd]
theorem XX (h:Ok S (fun p=>S p.agent) A B) {x y:Int} {a b:Agent} (hp:Pr S A x y a b) (gb:agB b=true) (ha:a.ports.length=1) (hka:a.kind=6) (hkb:b.kind=11) (hb:b.ports.length=2) (hd:b.data.length=2) (hA:A.length≤8000000):
  ∃A2 B2 new,(∀bk r,Bl ⟨⟨A⟩,bk,r⟩ x y=some ⟨⟨A2⟩,bk,r⟩)∧D4 ⟨B⟩ x y=some ⟨B2⟩∧Done S A x y new A2 B2∧NBs new∧SV new∧new.length=1:=by
 have hbb:b.data.length≤Big∧b.ports.length≤Big:=by unfold Big; omega
 obtain⟨d0,hd0,-⟩:=EI (l:=b.data) (i:=0) (by omega)
 obtain⟨d1,hd1,-⟩:=EI (l:=b.data) (i:=1) (by omega)
 obtain⟨A1,A2,B1,B2,e1,e2,f1,f2,d⟩:=Tw h hp ha hb hA 12 b.level (if a.value=0 then d1 else d0) [] (by simp)
 refine⟨A2,B2,_,fun bk r=>?_,?_,d,?_⟩
 ·unfold Bl
  rw [hp.hx,AA,hp.hy,AA,if_pos (by simp [hka]),Ps,AA]
  by_cases hv:a.value=0
  ·simp only [hv,decide_true,if_true] at e1 e2 ⊢
   rw [hd1,AA,e1,AA,e2,AA]
  ·simp only [hv,decide_false,Bool.false_eq_true,if_false] at e1 e2 ⊢
   rw [hd0,AA,e1,AA,e2,AA]
 ·unfold D4 Eo
  rw [hp.bY h,AA,Ic b hbb.1 hbb.2,AA,if_pos (by simp [hkb]),hd1,AA,hp.bx h,AA]
  by_cases hv:a.value=0
  ·rw [if_neg (by simp [hv])]
   rw [if_pos hv] at f1
   simp only [CH,AA,f1,f2]
  ·rw [if_pos (by simp [hv]),hd0,AA]
   rw [if_neg hv] at f1
   simp only [CH,AA,f1,f2]
 ·refine⟨⟨fun n hn=>?_,by simp⟩,fun n hn=>?_,rfl⟩
  ·rw [List.mem_singleton] at hn; subst hn
   exact⟨by simp,by simp,by simp⟩
  ·rw [List.mem_singleton] at hn; subst hn
   have lb:=Pv (m:=12) (Gj gb).1 (by omega) (by omega)
   have cb:=(Gj gb).2.1
   unfold E8 at cb
   rw [if_neg (by omega),if_neg (by omega),if_neg (by omega),if_neg (by omega),if_neg (by omega),if_neg (by omega),if_pos hkb] at cb
   simp only [Bool.and_eq_true,decide_eq_true_eq,List.all_eq_true] at cb
   have m0:=cb.2 d0 (List.mem_of_getElem? (A5 hd0).2)
   have m1:=cb.2 d1 (List.mem_of_getElem? (A5 hd1).2)
   refine⟨by simp,?_⟩
   by_cases hv:a.value=0
   ·simp [shB,agB,ports,E8,lb,hv,m1]
   ·simp [shB,agB,ports,E8,lb,hv,m0]
end
end Go.Proofs.YtckcfdggbbabfaaGreat.Ab
namespace Go.Proofs.YtckcfdggbbabfaaGreat.Ab
set_option linter.unusedVariables false
set_option linter.unusedSimpArgs false
open Go.RowKit
theorem WK {l:List Agent} {p q u:Port} {x:Agent} (h:Ab.get l p=some u):upd (l++[x]) p q=upd l p q++[x] :=by
 obtain⟨a,h1,-⟩:=Aq.1 h
 obtain⟨h2,h3⟩:=A5 h1
 have h4:=Cf h1
 have h5:at? (l++[x]) p.agent=some a:=by rw [M0,if_neg (by omega)]; exact h1
 rw [GY h1,GY h5,List.set_append_left]
 omega
theorem dW {l:List Agent} {p q u v:Port} {x:Agent} (hp:Ab.get l p=some u) (hq:Ab.get l q=some v):lk (l++[x]) p q=lk l p q++[x] :=by
 unfold lk
 have:∃w,Ab.get (upd l p q) q=some w:=by
  rw [Jo hp]; split
  ·exact⟨_,rfl⟩
  ·exact⟨v,hq⟩
 obtain⟨w,hw⟩:=this
 rw [WK hp,WK hw]
theorem Ey {l:List Agent} {p q r u v:Port} (hp:Ab.get l p=some u) (hr:Ab.get l r=some v) (h:r≠p):Ab.get (upd l p q) r=some v:=by rw [Jo hp,if_neg h]; exact hr
theorem gZ {l:List Agent} {p q n v a b c d:Port} (hp:Ab.get l p=some a) (hq:Ab.get l q=some b) (hn:Ab.get l n=some c) (hv:Ab.get l v=some d) (pq:p≠q) (nv:n≠v) (h1:p≠n) (h2:p≠v) (h3:q≠n) (h4:q≠v):lk (lk l p q) n v=lk (lk l n v) p q:=by
 unfold lk
 have p1:=fun x=>Ey (q:=x) hp hq pq.symm
 have p2:=fun x=>Ey (q:=x) hp hn h1.symm
 have p3:=fun x=>Ey (q:=x) hp hv h2.symm
 have n1:=fun x=>Ey (q:=x) hn hp h1
 have n2:=fun x=>Ey (q:=x) hn hq h3
 have n3:=fun x=>Ey (q:=x) hn hv nv.symm
 rw [Kr h3 (p1 q) (p2 q),Kr h1 hp hn]
 have e1:Ab.get (upd (upd l n v) p q) q=some b:=Ey (n1 v) (n2 v) pq.symm
 have e2:Ab.get (upd (upd l n v) p q) v=some d:=Ey (n1 v) (n3 v) h2.symm
 rw [Kr h4 e1 e2,Kr h2 (n1 v) (n3 v)]
def G6 (lv:Int):Sh:=(3,lv,0,[],3)
def gro (lv:Int):Nat→Port→List Agent→List Agent
 |0,_,l=>l
 |k+1,top,l=>gro lv k ⟨(l.length:Int),2⟩ (lk (l++[newA 3 lv 0 [] 3]) ⟨(l.length:Int),0⟩ top)
def OH:Nat→Port→Nat→Port
 |0,top,_=>top
 |k+1,_,n=>OH k ⟨(n:Int),2⟩ (n+1)
def H9 (n:Nat):Nat→List Int
 |0=>[]
 |k+1=>(n:Int)::H9 (n+1) k
theorem LZ (k:Nat):∀n,(H9 n k).length =k:=by
 induction k with
 |zero=>intro n; rfl
 |succ k ih=>intro n; rw [H9,List.length_cons,ih]
theorem Ty (k:Nat):∀n j,j<k→(H9 n k)[j]? =some ((n+j:Nat):Int):=by
 induction k with
 |zero=>intro n j h; omega
 |succ k ih=>
  intro n j h
  cases j with
  |zero=>rfl
  |succ j=>rw [H9,List.getElem?_cons_succ,ih (n+1) j (by omega)]; congr 2; omega
theorem Ku {l:List Agent} {k lv v:Int} {d:List Int} {n:Nat} {s:Int} (h0:0≤s) (hs:s<(n:Int)):Ab.get (l++[newA k lv v d n]) ⟨(l.length:Int),s⟩=some ⟨0,0⟩:=by
 rw [JG,if_pos rfl]
 unfold newA at?
 simp only
 rw [if_pos h0,List.getElem?_replicate,if_pos (by omega)]
theorem Jr {l:List Agent} {x:Agent} {p u:Port} (h:Ab.get l p=some u):Ab.get (l++[x]) p=some u:=by
 have:=Cw h
 rw [JG,if_neg (by omega)]; exact h
theorem gc (a0:Rewriter) (x y:Int) (a b:Agent) (hf:a.ports.length≤5) (r:List (Int × Bool)):∀ (k i m:Nat) (top:Port) (l:List Agent) (apps:List Int) (t:Port),i+k+1=a.ports.length→k<m→l.length+k≤16000000→apps.length+k≤100→Ab.get l top=some t→
  BK m a0 x y a b r l top.agent top.slot apps (i:Int)=A8 fuel a0 x y (OH k top l.length).agent (OH k top l.length).slot (apps++H9 l.length k) r (gro b.level k top l) 0:=by
 intro k
 induction k with
 |zero=>
  intro i m top l apps t h hm hl hap ht
  obtain⟨m,rfl⟩:∃q,m=q+1:=⟨m - 1,by omega⟩
  rw [BK,if_neg (by rw [w64 (by omega) (by omega)]; simp; omega)]
  simp only [OH,gro,H9,List.append_nil]
 | succ k ih=>
  intro i m top l apps t h hm hl hap ht
  obtain⟨m,rfl⟩:∃q,m=q+1:=⟨m - 1,by omega⟩
  rw [BK,if_pos (by rw [w64 (by omega) (by omega)]; simp; omega)]
  have e:Ae ⟨⟨l⟩,a0.book,r⟩ 3 b.level 0 [] 3=some ((l.length:Int),⟨⟨l++[newA 3 b.level 0 [] 3]⟩,a0.book,r⟩):=WH l a0.book r 3 b.level 0 [] 3 (by unfold Big; omega) (by simp) (by unfold Big; omega)
  have g1:Ab.get (l++[newA 3 b.level 0 [] 3]) ⟨(l.length:Int),0⟩=some ⟨0,0⟩:=Ku (by omega) (by omega)
  have g2:Ab.get (l++[newA 3 b.level 0 [] 3]) top=some t:=Jr ht
  have g3:Ab.get (l++[newA 3 b.level 0 [] 3]) ⟨(l.length:Int),2⟩=some ⟨0,0⟩:=Ku (by omega) (by omega)
  have tl:=Cw ht
  have g4:Ab.get (lk (l++[newA 3 b.level 0 [] 3]) ⟨(l.length:Int),0⟩ top) ⟨(l.length:Int),2⟩=some ⟨0,0⟩:=by
   rw [Ib g1 g2 (by simp) (fun e=>by have:=congrArg Port.agent e; simp only at this; omega)]; exact g3
  rw [e,AA]
  simp only
  rw [JF,Gi g1 g2,AA,DO (by unfold Big; simp; omega),AA]
  rw [w64 (by omega) (by omega),show ((i:Int)+1)=((i+1:Nat):Int) from by omega]
  have:=ih (i+1) m ⟨(l.length:Int),2⟩ (lk (l++[newA 3 b.level 0 [] 3]) ⟨(l.length:Int),0⟩ top) (apps++[(l.length:Int)]) ⟨0,0⟩ (by omega) (by omega) (by rw [MN]; simp; omega) (by simp; omega) g4
  rw [MN,List.length_append,List.length_singleton] at this
  simp only at this
  rw [this]
  simp only [OH,gro,H9,List.append_assoc,List.singleton_append]
theorem dX (lv:Int):∀ (r:Nat) (T:List Agent) (X:Port→Prop) (top t o v n u:Port),M T X→Ab.get T top=some t→X top→Ab.get T o=some v→¬X o→Ab.get T n=some u→X n→top≠n→
  Ab.get (gro lv r top T) o=some v∧Ab.get (gro lv r top T) v=some o∧Ab.get (gro lv r top T) n=some u∧mv (gro lv r top T) o n=gro lv r top (mv T o n):=by
 intro r
 induction r with
 |zero=>
  intro T X top t o v n u hm ht xt ho xo hn xn hne
  obtain⟨-,-,h3⟩:=hm o v ho xo
  exact⟨ho,h3,hn,rfl⟩
 | succ r ih=>
  intro T X top t o v n u hm ht xt ho xo hn xn hne
  obtain⟨h1,h2,h3⟩:=hm o v ho xo
  have lt:=Cw ht
  have lo:=Cw ho
  have lv':=Cw h3
  have ln:=Cw hn
  have g1:Ab.get (T++[newA 3 lv 0 [] 3]) ⟨(T.length:Int),0⟩=some ⟨0,0⟩:=Ku (by omega) (by omega)
  have g2:Ab.get (T++[newA 3 lv 0 [] 3]) top=some t:=Jr ht
  have g3:Ab.get (T++[newA 3 lv 0 [] 3]) ⟨(T.length:Int),2⟩=some ⟨0,0⟩:=Ku (by omega) (by omega)
  have nN:∀ (p:Port) (s:Int),p.agent<(T.length:Int)→p≠⟨(T.length:Int),s⟩:=fun p s hp e=>by rw [Af] at e; omega
  have ot:o≠top:=fun e=>xo (e ▸ xt)
  have vt:v≠top:=fun e=>h1 (e ▸ xt)
  have nv:n≠v:=fun e=>h1 (e ▸ xn)
  have no:n≠o:=fun e=>xo (e ▸ xn)
  have hM:M (lk (T++[newA 3 lv 0 [] 3]) ⟨(T.length:Int),0⟩ top) fun p=>(X p∨p.agent=(T.length:Int))∧p≠⟨(T.length:Int),0⟩∧p≠top:=by
   refine M.link (X:=fun p=>X p∨p.agent=(T.length:Int)) (fun p q hp hx=>?_) g1 g2 (nN top 0 lt.2).symm (.inr rfl) (.inl xt)
   have e1:p.agent≠(T.length:Int):=fun e=>hx (.inr e)
   rw [JG,if_neg e1] at hp
   obtain⟨k1,k2,k3⟩:=hm p q hp fun e=>hx (.inl e)
   have:=Cw k3
   refine⟨fun hq=>?_,k2,Jr k3⟩
   rcases hq with hq|hq
   ·exact k1 hq
   ·omega
  have gg:∀ (p w:Port),p≠top→Ab.get T p=some w→Ab.get (lk (T++[newA 3 lv 0 [] 3]) ⟨(T.length:Int),0⟩ top) p=some w:=fun p w hpt hp=>by
   rw [Ib g1 g2 (nN p 0 (Cw hp).2) hpt]; exact Jr hp
  have g4:Ab.get (lk (T++[newA 3 lv 0 [] 3]) ⟨(T.length:Int),0⟩ top) ⟨(T.length:Int),2⟩=some ⟨0,0⟩:=by
   rw [Ib g1 g2 (by simp) (nN top 2 lt.2).symm]; exact g3
  obtain⟨k1,k2,k3,k4⟩:=ih _ _ ⟨(T.length:Int),2⟩ _ o v n u hM g4 ⟨.inr rfl,by simp,(nN top 2 lt.2).symm⟩ (gg o v ot ho)
   (fun e=>by
    rcases e.1 with e|e
    ·exact xo e
    ·omega) (gg n u hne.symm hn) ⟨.inl xn,nN n 0 ln.2,hne.symm⟩ (nN n 2 ln.2).symm
  refine⟨k1,k2,k3,?_⟩
  have e1:mv T o n=lk T n v:=by unfold mv; rw [ho]
  have e2:mv (lk (T++[newA 3 lv 0 [] 3]) ⟨(T.length:Int),0⟩ top) o n=lk (lk (T++[newA 3 lv 0 [] 3]) ⟨(T.length:Int),0⟩ top) n v:=by unfold mv; rw [gg o v ot ho]
  have e3:(mv T o n).length =T.length:=by rw [e1,MN]
  rw [gro,k4,gro,e3,e2,e1,gZ g1 g2 (Jr hn) (Jr h3) (nN top 0 lt.2).symm nv (nN n 0 ln.2).symm (nN v 0 lv'.2).symm hne vt.symm,dW hn h3]
end Go.Proofs.YtckcfdggbbabfaaGreat.Ab
namespace Go.Proofs.YtckcfdggbbabfaaGreat.Ab
set_option linter.unusedVariables false
set_option linter.unusedSimpArgs false
open Go.RowKit
section
variable {S:Int→Prop} {A B:List Agent}
def conX (S:Int→Prop) (x y:Int) (j:Nat) (ta ts:Int) (p:Port):Prop:=S p.agent∨(p.agent=x∧p.slot≤(j:Int))∨(p.agent=y∧p.slot=0)∨(p.agent=ta∧p.slot=ts)
theorem ZQ (hS:∀k,S k→0≤k∧k<(A.length:Int)) {x y:Int} {a b:Agent} (hp:Pr S A x y a b) (hne:x≠y) (hb:b.ports.length=2) (hA:A.length≤8000000) (K:Nat) (hK:a.ports.length=K+1) (hK5:K≤4) (c:Sh) (tf:Port):
  ∀ (r j m m':Nat) (L B1:List Agent) (ta ts:Int) (t:Port),j+r=K→r<m→r<m'→Way1 S A (c::List.replicate j (G6 b.level)) (conX S x y j ta ts) L B1→Ab.get L ⟨ta,ts⟩=some t→(A.length:Int)≤ta→tf=OH r ⟨ta,ts⟩ L.length→
   ∃A2 B2,(∀ (a0:Rewriter) rr,A8 m a0 x y tf.agent tf.slot (H9 (A.length+1) K) rr (gro b.level r ⟨ta,ts⟩ L) (j:Int)=some ⟨⟨A2⟩,a0.book,rr⟩)∧Cb m' x y b (K:Int) B1 ta ts ((j:Int)+1)=some ⟨B2⟩∧Done S A x y (c::List.replicate K (G6 b.level)) A2 B2:=by
 have hyl:=Cf hp.hy
 have hxl:=Cf hp.hx
 intro r
 induction r with
 | zero=>
  intro j m m' L B1 ta ts t h hm hm' hw ht hta htf
  obtain⟨m,rfl⟩:∃q,m=q+1:=⟨m - 1,by omega⟩
  obtain⟨m',rfl⟩:∃q,m'=q+1:=⟨m' - 1,by omega⟩
  have hj:j=K:=by omega
  subst hj
  have tl:=Cw ht
  simp only at tl
  obtain⟨u,g1⟩:=hw.old hp.hy (s:=1) (by omega) (by omega)
  have nS:¬S ta:=fun hs=>by have:=hS _ hs; omega
  obtain⟨A2,B2,e1,e2,w⟩:=hw.move (o:=⟨y,1⟩) (n:=⟨ta,ts⟩) g1 ht (fun h=>by
    unfold conX at h
    simp only at h
    rcases h with h|h|h|h
    ·exact hp.sy h
    ·exact hne h.1.symm
    ·omega
    ·omega) (.inr (.inr (.inr ⟨rfl,rfl⟩))) nS (Y:=fun p=>S p.agent∨p.agent=x∨p.agent=y) (fun p q hq=>by
    have hx2:p.agent=x→p.slot≤(j:Int):=fun e=>by
     have:=Bc hq (x:=sh a) (by rw [hw.shp,e]; exact Bx (DM hp.hx))
     simp only [sh,hK] at this; omega
    have hy2:p.agent=y→p.slot=0∨p.slot=1:=fun e=>by
     have:=Bc hq (x:=sh b) (by rw [hw.shp,e]; exact Bx (DM hp.hy))
     simp only [sh,hb] at this; omega
    unfold conX
    simp only [ne_eq,Af]
    grind) fun p hs=>.inl hs
  refine⟨A2,B2,fun a0 rr=>?_,?_,w.ok,w.shp,w.fr⟩
  ·rw [A8,if_neg (by rw [LZ]; simp),htf]
   simp only [OH,gro]
   rw [e1,AA]
  ·rw [Cb,if_neg (by simp; omega),CH,AA,e2,AA]
 | succ r ih=>
  intro j m m' L B1 ta ts t h hm hm' hw ht hta htf
  obtain⟨m,rfl⟩:∃q,m=q+1:=⟨m - 1,by omega⟩
  obtain⟨m',rfl⟩:∃q,m'=q+1:=⟨m' - 1,by omega⟩
  have hlen:=hw.len
  rw [List.length_cons,List.length_replicate] at hlen
  have tl:=Cw ht
  simp only at tl
  have nS:∀k:Int,(A.length:Int)≤k→¬S k:=fun k hk hs=>by have:=hS _ hs; omega
  obtain⟨e1,e2,w1⟩:=hw.add 3 b.level 0 [] 3 (by unfold Big; omega) (by simp) (by unfold Big; omega)
  rw [List.length_cons,List.length_replicate,← hlen] at e1 e2 w1
  have hnew:((c::List.replicate j (G6 b.level))++[(3,b.level,0,[],3)])[j+1]? =some (G6 b.level):=by
   rw [List.getElem?_append_right (by simp)]; simp [G6]
  have hN:((A.length+(j+1):Nat):Int)=(L.length:Int):=by omega
  obtain⟨u0,g0⟩:=w1.new hnew (s:=0) (by omega) (by simp [G6])
  rw [hN] at g0
  have g2:Ab.get (L++[newA 3 b.level 0 [] 3]) ⟨ta,ts⟩=some t:=Jr ht
  obtain⟨T,BT,k1,k2,k3,k4,w2⟩:=w1.link g0 g2 (fun e=>by rw [Af] at e; simp only at e; omega) (.inr rfl) (.inl (.inr (.inr (.inr ⟨rfl,rfl⟩)))) (nS _ (by simp only; omega)) (nS _ hta)
  have hT:T=lk (L++[newA 3 b.level 0 [] 3]) ⟨(L.length:Int),0⟩ ⟨ta,ts⟩:=by
   rw [JF,Gi g0 g2] at k1
   simp only [Option.some.injEq,Net.mk.injEq] at k1; exact k1.symm
  obtain⟨u1,g3⟩:=w2.new hnew (s:=1) (by omega) (by simp [G6])
  obtain⟨u2,g4⟩:=w2.new hnew (s:=2) (by omega) (by simp [G6])
  rw [hN] at g3 g4
  obtain⟨v,g5⟩:=w2.old hp.hx (s:=(j:Int)+1) (by omega) (by omega)
  have xo:¬ ((fun r=>(conX S x y j ta ts r∨r.agent=(L.length:Int))∧r≠⟨(L.length:Int),0⟩∧r≠⟨ta,ts⟩) (⟨x,(j:Int)+1⟩:Port)):=fun h=>by
   unfold conX at h
   simp only at h
   rcases h.1 with (h|h|h|h)|h
   ·exact hp.sx h
   ·omega
   ·exact hne h.1
   ·omega
   ·omega
  have xn:(fun r=>(conX S x y j ta ts r∨r.agent=(L.length:Int))∧r≠⟨(L.length:Int),0⟩∧r≠⟨ta,ts⟩) (⟨(L.length:Int),1⟩:Port):=⟨.inr rfl,by simp,fun e=>by rw [Af] at e; simp only at e; omega⟩
  have xt:(fun r=>(conX S x y j ta ts r∨r.agent=(L.length:Int))∧r≠⟨(L.length:Int),0⟩∧r≠⟨ta,ts⟩) (⟨(L.length:Int),2⟩:Port):=⟨.inr rfl,by simp,fun e=>by rw [Af] at e; simp only at e; omega⟩
  obtain⟨q1,q2,q3,q4⟩:=dX b.level r T _ ⟨(L.length:Int),2⟩ u2 ⟨x,(j:Int)+1⟩ v ⟨(L.length:Int),1⟩ u1 w2.ok.m g4 xt g5 xo g3 xn (by simp)
  obtain⟨A2,B2,f1,f2,w3⟩:=w2.move g5 g3 xo xn (nS _ (by simp only; omega)) (Y:=conX S x y (j+1) (L.length:Int) 2) (fun p q hq=>by
    have hn:p.agent=(L.length:Int)→p.slot=0∨p.slot=1∨p.slot=2:=fun e=>by
     have:=Bc hq (x:=G6 b.level) (by
      rw [w2.shp,e,← hN]
      have:=FN (l:=A.map sh) hnew
      rwa [List.length_map] at this)
     simp only [G6] at this; omega
    unfold conX
    simp only [ne_eq,Af]
    grind) fun p hs=>.inl hs
  have hA2:A2=mv T ⟨x,(j:Int)+1⟩ ⟨(L.length:Int),1⟩:=by
   obtain⟨-,-,h3⟩:=w2.ok.m _ _ g5 xo
   have:=f1 [] []
   rw [SD g5 h3 g3] at this
   simp only [Option.some.injEq,Rewriter.mk.injEq,Net.mk.injEq] at this
   exact this.1.symm
  have hl3:A2.length=L.length+1:=by
   have:=w3.len
   simp only [List.length_append,List.length_cons,List.length_replicate,List.length_nil] at this; omega
  obtain⟨u3,g6⟩:=w3.new hnew (s:=2) (by omega) (by simp [G6])
  rw [hN] at g6
  obtain⟨A3,B3,r1,r2,r3⟩:=ih (j+1) m m' A2 B2 (L.length:Int) 2 u3 (by omega) (by omega) (by omega) (by
   rw [List.replicate_succ',← List.cons_append]; exact w3) g6 (by omega) (by rw [htf,OH,hl3])
  refine⟨A3,B3,fun a0 rr=>?_,?_,r3⟩
  ·have hix:at? (H9 (A.length+1) K) (j:Int)=some (L.length:Int):=by
    rw [Kq (Ty K (A.length+1) j (by omega))]; congr 2; omega
   rw [A8,if_pos (by rw [LZ]; simp; omega),hix,AA,w64 (by omega) (by omega),gro,← hT,SD q1 q2 q3,AA,q4,← hA2,show ((j:Int)+1)=((j+1:Nat):Int) from by omega]
   exact r1 a0 rr
  ·rw [Cb,if_pos (by simp; omega)]
   have e2':CP ⟨B1⟩ 3 b.level 0 [] 3=some ((L.length:Int),⟨B1++[newA 3 b.level 0 [] 3]⟩):=e2
   rw [e2',AA,CH,AA,k4,AA,CH,AA,CH,AA,f2,AA,CH,AA,w64 (by omega) (by omega),show ((j:Int)+1+1)=((j+1:Nat):Int)+1 from by omega]
   exact r2
theorem ZR (h:Ok S (fun p=>S p.agent) A B) {x y:Int} {a b:Agent} (hp:Pr S A x y a b) (gb:agB b=true) (hka:a.kind=9) (hkb:b.kind=10) (K:Nat) (hK:a.ports.length=K+1) (hK3:K≤3) (hb:b.ports.length=2) (hd:b.data.length≤4) (hv:0≤a.value) (hv2:a.value<(b.data.length:Int)) (hA:A.length≤8000000):
  ∃A2 B2 new,(∀bk r,Bl ⟨⟨A⟩,bk,r⟩ x y=some ⟨⟨A2⟩,bk,r⟩)∧D4 ⟨B⟩ x y=some ⟨B2⟩∧Done S A x y new A2 B2∧NBs new∧SV new∧new.length=K+1:=by
 obtain⟨h0,hne⟩:=h.start hp
 obtain⟨d,hd1,-⟩:=EI (l:=b.data) (i:=a.value) ⟨hv,hv2⟩
 have hxl:=Cf hp.hx
 have hyl:=Cf hp.hy
 have w0:Way1 S A [] (fun p=>S p.agent∨p=⟨x,0⟩∨p=⟨y,0⟩) A B:=⟨h0,by simp,.refl⟩
 obtain⟨e1,e2,w1⟩:=w0.add 12 b.level d [] 1 (by unfold Big; omega) (by simp) (by unfold Big; omega)
 simp only [List.length_nil,Nat.add_zero,List.nil_append,Int.natCast_one] at e1 e2 w1
 have nS:∀k:Int,(A.length:Int)≤k→¬S k:=fun k hk hs=>by have:=h.s_lt hs; omega
 have w2:Way1 S A ((12,b.level,d,[],1)::List.replicate 0 (G6 b.level)) (conX S x y 0 (A.length:Int) 0) (A++[newA 12 b.level d [] 1]) (B++[newA 12 b.level d [] 1]):=by
  refine w1.mono (fun p q hq=>?_) fun p hs=>.inl hs
  have h1:p.agent=(A.length:Int)→p.slot=0:=fun e=>by
   have:=Bc hq (x:=(12,b.level,d,[],1)) (by
    rw [w1.shp,e]
    have:=FN (l:=A.map sh) (m:=[(12,b.level,d,[],1)]) (k:=0) rfl
    rwa [List.length_map,Nat.add_zero] at this)
   simp only at this; omega
  have h2:p.agent=x→0≤p.slot:=fun e=>(Bc hq (x:=sh a) (by rw [w1.shp,e]; exact Bx (DM hp.hx))).1
  unfold conX
  simp only [Af]
  grind
 have hF:Ca a=some (K:Int):=by
  unfold Ca
  rw [if_pos (by simp [hka]),hK,w64 (by omega) (by omega)]; congr 1; omega
 have hg:Ab.get (A++[newA 12 b.level d [] 1]) ⟨(A.length:Int),0⟩=some ⟨0,0⟩:=Ku (by omega) (by omega)
 obtain⟨A2,B2,s1,s2,s3⟩:=ZQ (fun k hk=>h.s_lt hk) hp hne hb hA K hK (by omega) _ _ K 0 fuel fuel _ _ _ _ _ (by omega) (by rw [Au]; omega) (by rw [Au]; omega) w2 hg (Int.le_refl _) rfl
 rw [List.length_append,List.length_singleton] at s1
 refine⟨A2,B2,_,fun bk r=>?_,?_,s3,⟨fun n hn=>?_,by simp; omega⟩,fun n hn=>?_,by simp⟩
 ·unfold Bl DW
  rw [hp.hx,AA,hp.hy,AA,if_neg (by simp [hka]),hd1,AA,e1,AA]
  have:=gc ⟨⟨A⟩,bk,r⟩ x y a b (by omega) r K 0 fuel ⟨(A.length:Int),0⟩ _ [] _ (by omega) (by rw [Au]; omega) (by simp; omega) (by simp; omega) hg
  rw [List.length_append,List.length_singleton,List.nil_append] at this
  simp only [Int.natCast_zero] at this
  rw [this]
  exact s1 ⟨⟨A⟩,bk,r⟩ r
 ·unfold D4
  rw [hp.bY h,AA,Ic b (by unfold Big; omega) (by unfold Big; omega),AA,if_neg (by simp [hkb]),hp.bx h,AA,hF,AA,AA,hd1,AA,e2,AA,CH,AA]
  exact s2
 ·rcases List.mem_cons.1 hn with e|e
  ·subst e; exact⟨by simp,by simp,by simp⟩
  ·rw [(List.mem_replicate.1 e).2]; exact⟨by simp [G6],by simp [G6],by simp [G6]⟩
 ·have cb:=(Gj gb).2.1
  unfold E8 at cb
  rw [if_neg (by omega),if_neg (by omega),if_neg (by omega),if_neg (by omega),if_neg (by omega),if_pos hkb] at cb
  simp only [Bool.and_eq_true,decide_eq_true_eq,List.all_eq_true] at cb
  have m1:=cb.2 d (List.mem_of_getElem? (A5 hd1).2)
  rcases List.mem_cons.1 hn with e|e
  ·subst e
   have lb:=Pv (m:=12) (Gj gb).1 (by omega) (by omega)
   exact⟨by simp,by simp [shB,agB,ports,E8,lb,m1]⟩
  ·rw [(List.mem_replicate.1 e).2]
   have lb:=Pv (m:=3) (Gj gb).1 (by omega) (by omega)
   exact⟨by simp [G6],by simp [G6,shB,agB,ports,E8,lb]⟩
end
end Go.Proofs.YtckcfdggbbabfaaGreat.Ab
namespace Go.Proofs.YtckcfdggbbabfaaGreat.Ab
set_option linter.unusedVariables false
set_option linter.unusedSimpArgs false
open Go.RowKit
section
variable {S:Int→Prop} {A B:List Agent}
def dupS (lv:Int):Sh:=(4,lv,0,[],3)
def dupX (S:Int→Prop) (x y:Int) (n i:Nat) (p:Port):Prop:=
 S p.agent∨(p.agent=x∧p.slot=0)∨(p.agent=y∧p.slot=0)∨(p.agent=(n:Int)∧(p.slot=0∨(i:Int)≤p.slot))∨(p.agent=(n:Int)+1∧(p.slot=0∨(i:Int)≤p.slot))∨((n:Int)+2≤p.agent∧p.slot=0)
def VL (S:Int→Prop) (x y:Int) (n t:Nat) (p:Port):Prop:=
 S p.agent∨p.agent=x∨(p.agent=y∧p.slot≤(t:Int))∨((n:Int)+2+(t:Int)≤p.agent∧p.slot=0)
theorem XY (hS:∀k,S k→0≤k∧k<(A.length:Int)) {x y:Int} {a b:Agent} (hp:Pr S A x y a b) (hA:A.length≤8000000) (hb:b.ports.length≤4) (u2 u3:Int × Net) (hu2:u2.1 =(A.length:Int)) (hu3:u3.1 =(A.length:Int)+1):
  ∀ (k i m m':Nat) (L B1:List Agent),i+k=b.ports.length→1≤i→k<m→k<m'→Way1 S A (sh b::sh b::List.replicate (i - 1) (dupS a.level)) (dupX S x y A.length i) L B1→
   ∃L' B' m1 m2,(∀ (a0:Rewriter) (v2 v3:Int × Rewriter) rr (apps:List Int),v2.1 =(A.length:Int)→v3.1 =(A.length:Int)+1→apps.length+k≤100→Ak m a0 x y b v2 v3 rr L apps (i:Int)=Ak (m1+1) a0 x y b v2 v3 rr L' (apps++H9 (A.length+1+i) k) (b.ports.length:Int))∧
    BW m' x y a b u2 u3 B1 (i:Int)=BW (m2+1) x y a b u2 u3 B' (b.ports.length:Int)∧Way1 S A (sh b::sh b::List.replicate (b.ports.length - 1) (dupS a.level)) (dupX S x y A.length b.ports.length) L' B':=by
 have hyl:=Cf hp.hy
 have hxl:=Cf hp.hx
 intro k
 induction k with
 |zero=>
  intro i m m' L B1 h h1 hm hm' hw
  obtain⟨m,rfl⟩:∃q,m=q+1:=⟨m - 1,by omega⟩
  obtain⟨m',rfl⟩:∃q,m'=q+1:=⟨m' - 1,by omega⟩
  have:i=b.ports.length:=by omega
  subst this
  exact⟨L,B1,m,m',fun a0 v2 v3 rr apps _ _ _=>by rw [H9,List.append_nil],rfl,hw⟩
 | succ k ih=>
  intro i m m' L B1 h h1 hm hm' hw
  obtain⟨m,rfl⟩:∃q,m=q+1:=⟨m - 1,by omega⟩
  obtain⟨m',rfl⟩:∃q,m'=q+1:=⟨m' - 1,by omega⟩
  have hlen:=hw.len
  simp only [List.length_cons,List.length_replicate] at hlen
  have nS:∀k:Int,(A.length:Int)≤k→¬S k:=fun k hk hs=>by have:=hS _ hs; omega
  have hsx:at? (L.map sh) x=some (sh a):=by rw [hw.shp]; exact Bx (DM hp.hx)
  obtain⟨a',ha',has⟩:=Ks hsx
  have hal:a'.level=a.level:=by simp only [sh,Prod.mk.injEq] at has; exact has.2.1
  obtain⟨e1,e2,w1⟩:=hw.add 4 a.level 0 [] 3 (by unfold Big; omega) (by simp) (by unfold Big; omega)
  rw [List.length_cons,List.length_cons,List.length_replicate,show A.length+(i - 1+1+1)=L.length from by omega] at e1 e2 w1
  have n0:((sh b::sh b::List.replicate (i - 1) (dupS a.level))++[(4,a.level,0,[],3)])[0]? =some (sh b):=rfl
  have n1:((sh b::sh b::List.replicate (i - 1) (dupS a.level))++[(4,a.level,0,[],3)])[1]? =some (sh b):=rfl
  have n2:((sh b::sh b::List.replicate (i - 1) (dupS a.level))++[(4,a.level,0,[],3)])[2+(i - 1)]? =some (dupS a.level):=by
   rw [List.getElem?_append_right (by simp; omega)]
   simp only [List.length_cons,List.length_replicate]
   rw [show 2+(i - 1) - (i - 1+1+1)=0 from by omega]; rfl
  have hN:((A.length+(2+(i - 1)):Nat):Int)=(L.length:Int):=by omega
  obtain⟨q1,g1⟩:=w1.new n2 (s:=1) (by omega) (by simp [dupS])
  obtain⟨q2,g2⟩:=w1.new n0 (s:=(i:Int)) (by omega) (by simp only [sh]; omega)
  rw [hN] at g1
  rw [Nat.add_zero] at g2
  obtain⟨T1,B2,k1,-,k2,-,w2⟩:=w1.link g1 g2 (fun e=>by rw [Af] at e; simp only at e; omega) (.inr rfl) (.inl (.inr (.inr (.inr (.inl ⟨rfl,.inr (Int.le_refl _)⟩))))) (nS _ (by simp only; omega)) (nS _ (by simp only; omega))
  obtain⟨q3,g3⟩:=w2.new n2 (s:=2) (by omega) (by simp [dupS])
  obtain⟨q4,g4⟩:=w2.new n1 (s:=(i:Int)) (by omega) (by simp only [sh]; omega)
  rw [hN] at g3
  rw [show ((A.length+1:Nat):Int)=(A.length:Int)+1 from by omega] at g4
  obtain⟨T2,B3,k3,-,k4,-,w3⟩:=w2.link g3 g4 (fun e=>by rw [Af] at e; simp only at e; omega) ⟨.inr rfl,by simp,fun e=>by rw [Af] at e; simp only at e; omega⟩ ⟨.inl (.inr (.inr (.inr (.inr (.inl ⟨rfl,.inr (Int.le_refl _)⟩))))),fun e=>by rw [Af] at e; simp only at e; omega,fun e=>by rw [Af] at e; simp only at e; omega⟩ (nS _ (by simp only; omega)) (nS _ (by simp only; omega))
  have w4:Way1 S A (sh b::sh b::List.replicate (i+1 - 1) (dupS a.level)) (dupX S x y A.length (i+1)) T2 B3:=by
   have e:sh b::sh b::List.replicate (i+1 - 1) (dupS a.level)=(sh b::sh b::List.replicate (i - 1) (dupS a.level))++[(4,a.level,0,[],3)] :=by
    rw [show i+1 - 1=i - 1+1 from by omega,List.replicate_succ']; rfl
   rw [e]
   refine w3.mono (fun p q hq=>?_) fun p hs=>.inl hs
   have hn:p.agent=(L.length:Int)→p.slot=0∨p.slot=1∨p.slot=2:=fun e=>by
    have:=Bc hq (x:=dupS a.level) (by
     rw [w3.shp,e,← hN]
     have:=FN (l:=A.map sh) n2
     rwa [List.length_map] at this)
    simp only [dupS] at this; omega
   have hlt:p.agent<(L.length:Int)+1:=by
    have:=Cw hq
    have e5:=w3.len
    simp only [List.length_append,List.length_cons,List.length_replicate,List.length_nil] at e5
    omega
   unfold dupX
   simp only [ne_eq,Af]
   grind
  obtain⟨L',B',m1,m2,r1,r2,r3⟩:=ih (i+1) m m' T2 B3 (by omega) (by omega) (by omega) (by omega) w4
  refine⟨L',B',m1,m2,fun a0 v2 v3 rr apps hv2 hv3 hap=>?_,?_,r3⟩
  ·have e1':Ae ⟨⟨L⟩,a0.book,rr⟩ 4 a.level 0 [] 3=some ((L.length:Int),⟨⟨L++[newA 4 a.level 0 [] 3]⟩,a0.book,rr⟩):=e1 a0.book rr
   rw [Ak,if_pos (by simp; omega),ha',AA,hal,e1',AA,hv2,hv3]
   simp only
   rw [k1,AA,k3,AA,DO (by unfold Big; simp; omega),AA,w64 (by omega) (by omega),show ((i:Int)+1)=((i+1:Nat):Int) from by omega,r1 a0 v2 v3 rr (apps++[(L.length:Int)]) hv2 hv3 (by simp; omega),H9,List.append_assoc,List.singleton_append,show A.length+1+(i+1)=A.length+1+i+1 from by omega,show (L.length:Int)=((A.length+1+i:Nat):Int) from by omega]
  ·have e2':CP ⟨B1⟩ 4 a.level 0 [] 3=some ((L.length:Int),⟨B1++[newA 4 a.level 0 [] 3]⟩):=e2
   rw [BW,if_pos (by simp; omega),e2',AA,hu2,hu3]
   simp only [CH,AA]
   rw [k2,AA,k4,AA,w64 (by omega) (by omega),show ((i:Int)+1)=((i+1:Nat):Int) from by omega]
   exact r2
theorem XZ (hS:∀k,S k→0≤k∧k<(A.length:Int)) {x y:Int} {a b:Agent} (hp:Pr S A x y a b) (hne:x≠y) (hA:A.length≤8000000) (P:Nat) (hP:b.ports.length=P+1) (hb:P≤3) (u3:Int × Net) (hu3:u3.1 =(A.length:Int)+1):
  ∀ (k t m m':Nat) (L B1:List Agent),t+k=P→k<m→k<m'→Way1 S A (sh b::sh b::List.replicate P (dupS a.level)) (VL S x y A.length t) L B1→
   ∃A2 B2,(∀ (a0:Rewriter) rr,Ax m a0 y (H9 (A.length+2) P) rr L (t:Int)=some ⟨⟨A2⟩,a0.book,rr⟩)∧Bm m' y b u3 B1 ((t:Int)+1)=some ⟨B2⟩∧Done S A x y (sh b::sh b::List.replicate P (dupS a.level)) A2 B2:=by
 have hyl:=Cf hp.hy
 have hxl:=Cf hp.hx
 intro k
 induction k with
 | zero=>
  intro t m m' L B1 h hm hm' hw
  obtain⟨m,rfl⟩:∃q,m=q+1:=⟨m - 1,by omega⟩
  obtain⟨m',rfl⟩:∃q,m'=q+1:=⟨m' - 1,by omega⟩
  refine⟨L,B1,fun a0 rr=>?_,?_,hw.done fun p q hq=>?_⟩
  ·rw [Ax,if_neg (by rw [LZ]; simp; omega)]
  ·rw [Bm,if_neg (by simp; omega)]
  ·have hy2:p.agent=y→p.slot≤(t:Int):=fun e=>by
    have:=Bc hq (x:=sh b) (by rw [hw.shp,e]; exact Bx (DM hp.hy))
    simp only [sh,hP] at this; omega
   have hlt:=Cw hq
   have hlen:=hw.len
   simp only [List.length_cons,List.length_replicate] at hlen
   unfold VL
   grind
 | succ k ih=>
  intro t m m' L B1 h hm hm' hw
  obtain⟨m,rfl⟩:∃q,m=q+1:=⟨m - 1,by omega⟩
  obtain⟨m',rfl⟩:∃q,m'=q+1:=⟨m' - 1,by omega⟩
  have nS:∀k:Int,(A.length:Int)≤k→¬S k:=fun k hk hs=>by have:=hS _ hs; omega
  have n2:(sh b::sh b::List.replicate P (dupS a.level))[2+t]? =some (dupS a.level):=by
   rw [show 2+t=t+1+1 from by omega,List.getElem?_cons_succ,List.getElem?_cons_succ,List.getElem?_replicate,if_pos (by omega)]
  obtain⟨v,g1⟩:=hw.old hp.hy (s:=(t:Int)+1) (by omega) (by omega)
  obtain⟨u,g2⟩:=hw.new n2 (s:=0) (by omega) (by simp [dupS])
  rw [show ((A.length+(2+t):Nat):Int)=(A.length:Int)+2+(t:Int) from by omega] at g2
  obtain⟨A2,B2,f1,f2,w⟩:=hw.move g1 g2 (fun h=>by
    unfold VL at h
    simp only at h
    rcases h with h|h|h|h
    ·exact hp.sy h
    ·exact hne h.symm
    ·omega
    ·omega) (.inr (.inr (.inr ⟨Int.le_refl _,rfl⟩))) (nS _ (by simp only; omega)) (Y:=VL S x y A.length (t+1)) (fun p q hq=>by
    unfold VL
    simp only [ne_eq,Af]
    grind) fun p hs=>.inl hs
  obtain⟨A3,B3,r1,r2,r3⟩:=ih (t+1) m m' A2 B2 (by omega) (by omega) (by omega) w
  refine⟨A3,B3,fun a0 rr=>?_,?_,r3⟩
  ·have hix:at? (H9 (A.length+2) P) (t:Int)=some ((A.length:Int)+2+(t:Int)):=by
    rw [Kq (Ty P (A.length+2) t (by omega))]; congr 1
   rw [Ax,if_pos (by rw [LZ]; simp; omega),hix,AA,w64 (by omega) (by omega),f1,AA,show ((t:Int)+1)=((t+1:Nat):Int) from by omega]
   exact r1 a0 rr
  ·rw [Bm,if_pos (by simp; omega),CH,AA,hu3,w64 (by omega) (by omega),CH,AA,show (A.length:Int)+1+((t:Int)+1)=(A.length:Int)+2+(t:Int) from by omega,f2,AA,w64 (by omega) (by omega),show (t:Int)+1+1=((t+1:Nat):Int)+1 from by omega]
   exact r2
theorem dY (h:Ok S (fun p=>S p.agent) A B) {x y:Int} {a b:Agent} (hp:Pr S A x y a b) (ga:agB a=true) (gb:agB b=true) (hka:a.kind=4) (hkb:b.kind≠1) (ha:a.ports.length=3) (hb1:1≤b.ports.length) (hb:b.ports.length≤4) (hd:b.data.length≤4) (hbk:b.kind≠0) (hA:A.length≤8000000):
  ∃A2 B2 new,(∀bk r,CY ⟨⟨A⟩,bk,r⟩ x y=some ⟨⟨A2⟩,bk,r⟩)∧En ⟨B⟩ x y=some ⟨B2⟩∧Done S A x y new A2 B2∧NBs new∧SV new∧new.length=b.ports.length+1:=by
 obtain⟨h0,hne⟩:=h.start hp
 have hxl:=Cf hp.hx
 have hyl:=Cf hp.hy
 have w0:Way1 S A [] (fun p=>S p.agent∨p=⟨x,0⟩∨p=⟨y,0⟩) A B:=⟨h0,by simp,.refl⟩
 obtain⟨e1,e2,w1⟩:=w0.add b.kind b.level b.value b.data b.ports.length (by unfold Big; omega) (by unfold Big; omega) (by unfold Big; omega)
 simp only [List.length_nil,Nat.add_zero,List.nil_append] at e1 e2 w1
 obtain⟨e3,e4,w2⟩:=w1.add b.kind b.level b.value b.data b.ports.length (by rw [List.length_append,List.length_singleton]; unfold Big; omega) (by unfold Big; omega) (by unfold Big; omega)
 simp only [List.length_singleton] at e3 e4 w2
 have nS:∀k:Int,(A.length:Int)≤k→¬S k:=fun k hk hs=>by have:=h.s_lt hs; omega
 have w3:Way1 S A (sh b::sh b::List.replicate (1 - 1) (dupS a.level)) (dupX S x y A.length 1) (A++[newA b.kind b.level b.value b.data b.ports.length] ++[newA b.kind b.level b.value b.data b.ports.length]) (B++[newA b.kind b.level b.value b.data b.ports.length] ++[newA b.kind b.level b.value b.data b.ports.length]):=by
  refine w2.mono (fun p q hq=>?_) fun p hs=>.inl hs
  have hlt:=Cw hq
  simp only [List.length_append,List.length_singleton] at hlt
  have hs0:0≤p.slot:=by
   obtain⟨a,h1,h2⟩:=Aq.1 hq
   exact(Cf h2).1
  unfold dupX
  simp only [Af]
  grind
 obtain⟨P,hP⟩:∃P,b.ports.length=P+1:=⟨b.ports.length - 1,by omega⟩
 obtain⟨L1,B1,m1,m2,r1,r2,w4⟩:=XY (fun k hk=>h.s_lt hk) hp hA hb ((A.length:Int),⟨B++[newA b.kind b.level b.value b.data b.ports.length]⟩) (((A.length+1:Nat):Int),⟨B++[newA b.kind b.level b.value b.data b.ports.length] ++[newA b.kind b.level b.value b.data b.ports.length]⟩) rfl (by simp only; omega) P 1 fuel fuel _ _ (by omega) (by omega) (by rw [Au]; omega) (by rw [Au]; omega) w3
 obtain⟨v1,g1⟩:=w4.old hp.hx (s:=1) (by omega) (by omega)
 obtain⟨q1,g2⟩:=w4.new (k:=0) (s:=0) rfl (by omega) (by simp only [sh]; omega)
 rw [Nat.add_zero] at g2
 obtain⟨L2,B2,f1,f2,w5⟩:=w4.move g1 g2 (fun h=>by
   unfold dupX at h
   simp only at h
   rcases h with h|h|h|h|h|h
   ·exact hp.sx h
   all_goals omega) (.inr (.inr (.inr (.inl ⟨rfl,.inl rfl⟩)))) (nS _ (by simp only; omega)) (Y:=fun p=>S p.agent∨(p.agent=x∧p.slot≤1)∨(p.agent=y∧p.slot=0)∨(p.agent=(A.length:Int)+1∧p.slot=0)∨((A.length:Int)+2≤p.agent∧p.slot=0)) (fun p q hq=>by
   have hs0:0≤p.slot:=by
    obtain⟨a,h1,h2⟩:=Aq.1 hq
    exact(Cf h2).1
   have hc1:p.agent=(A.length:Int)→p.slot<(b.ports.length:Int):=fun e=>by
    have:=Bc hq (x:=sh b) (by
     rw [w4.shp,e]
     have:=FN (l:=A.map sh) (m:=sh b::sh b::List.replicate (b.ports.length - 1) (dupS a.level)) (k:=0) rfl
     rwa [List.length_map,Nat.add_zero] at this)
    simp only [sh] at this; omega
   have hc2:p.agent=(A.length:Int)+1→p.slot<(b.ports.length:Int):=fun e=>by
    have:=Bc hq (x:=sh b) (by
     rw [w4.shp,e]
     have:=FN (l:=A.map sh) (m:=sh b::sh b::List.replicate (b.ports.length - 1) (dupS a.level)) (k:=1) rfl
     rwa [List.length_map] at this)
    simp only [sh] at this; omega
   unfold dupX
   simp only [ne_eq,Af]
   grind) fun p hs=>.inl hs
 obtain⟨v2,g3⟩:=w5.old hp.hx (s:=2) (by omega) (by omega)
 obtain⟨q2,g4⟩:=w5.new (k:=1) (s:=0) rfl (by omega) (by simp only [sh]; omega)
 obtain⟨L3,B3,f3,f4,w6⟩:=w5.move g3 g4 (fun h=>by
   simp only at h
   rcases h with h|h|h|h|h
   ·exact hp.sx h
   all_goals omega) (.inr (.inr (.inr (.inl ⟨by simp only; omega,rfl⟩)))) (nS _ (by simp only; omega)) (Y:=VL S x y A.length 0) (fun p q hq=>by
   have hs0:0≤p.slot:=by
    obtain⟨a,h1,h2⟩:=Aq.1 hq
    exact(Cf h2).1
   have hx2:p.agent=x→p.slot<3:=fun e=>by
    have:=Bc hq (x:=sh a) (by rw [w5.shp,e]; exact Bx (DM hp.hx))
    simp only [sh,ha] at this; omega
   unfold VL
   simp only [ne_eq,Af]
   grind) fun p hs=>.inl hs
 rw [show b.ports.length - 1=P from by omega] at w6
 obtain⟨A4,B4,t1,t2,t3⟩:=XZ (fun k hk=>h.s_lt hk) hp hne hA P hP (by omega) (((A.length+1:Nat):Int),⟨B++[newA b.kind b.level b.value b.data b.ports.length] ++[newA b.kind b.level b.value b.data b.ports.length]⟩) (by simp only; omega) P 0 fuel fuel _ _ (by omega) (by rw [Au]; omega) (by rw [Au]; omega) w6
 refine⟨A4,B4,_,fun bk r=>?_,?_,t3,⟨fun n hn=>?_,by simp; omega⟩,fun n hn=>?_,by simp; omega⟩
 ·unfold CY
  rw [hp.hy,AA,e1,AA,e3,AA]
  have:=r1 ⟨⟨A⟩,bk,r⟩ ((A.length:Int),⟨⟨A++[newA b.kind b.level b.value b.data b.ports.length]⟩,bk,r⟩) (((A.length+1:Nat):Int),⟨⟨A++[newA b.kind b.level b.value b.data b.ports.length] ++[newA b.kind b.level b.value b.data b.ports.length]⟩,bk,r⟩) r [] rfl (by simp only; omega) (by simp; omega)
  rw [Int.natCast_one] at this
  rw [this,Ak,if_neg (by simp),f1,AA,f3,AA,List.nil_append]
  exact t1 ⟨⟨A⟩,bk,r⟩ r
 ·unfold En
  rw [hp.bx h,AA,hp.bY h,AA,Ic b (by unfold Big; omega) (by unfold Big; omega),AA,e2,AA,e4,AA]
  rw [Int.natCast_one] at r2
  rw [r2,BW,if_neg (by simp)]
  simp only [CH,AA]
  rw [f2,AA,f4,AA]
  exact t2
 ·rcases List.mem_cons.1 hn with e|e
  ·subst e; exact⟨by simp only [sh]; omega,by simp only [sh]; omega,hbk⟩
  ·rcases List.mem_cons.1 e with e|e
   ·subst e; exact⟨by simp only [sh]; omega,by simp only [sh]; omega,hbk⟩
   ·rw [(List.mem_replicate.1 e).2]; exact⟨by simp [dupS],by simp [dupS],by simp [dupS]⟩
 ·have hbb:(sh b).1 ≠1∧shB (sh b)=true:=⟨hkb,by rw [VJ]; exact gb⟩
  rcases List.mem_cons.1 hn with e|e
  ·subst e; exact hbb
  ·rcases List.mem_cons.1 e with e|e
   ·subst e; exact hbb
   ·rw [(List.mem_replicate.1 e).2]
    have lb:=Pv (m:=4) (Gj ga).1 (by omega) (by omega)
    exact⟨by simp [dupS],by simp [dupS,shB,agB,ports,E8,lb]⟩
end
end Go.Proofs.YtckcfdggbbabfaaGreat.Ab
