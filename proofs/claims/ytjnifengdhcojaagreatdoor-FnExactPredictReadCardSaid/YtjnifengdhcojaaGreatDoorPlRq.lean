/- Nets that are rewritten. -/
import Derived.Test.YtjnifengdhcojaaGreatDoorModL
import Derived.Test.YtjnifengdhcojaaGreatDoorPlNet
namespace Go.Proofs.YtjnifengdhcojaaGreatDoor.Ab
set_option linter.unusedVariables false
set_option maxHeartbeats 1000000
set_option linter.unusedSimpArgs false
open Go.RowKit
theorem QD {p q:Port} (h1:p.agent=q.agent) (h2:p.slot=q.slot):p=q:=by cases p; simp_all
instance:DecidableEq Port:=fun p q=>if h:p.agent=q.agent∧p.slot=q.slot then isTrue (QD h.1 h.2) else isFalse fun e=>h ⟨by rw [e],by rw [e]⟩
theorem nM {α:Type} {l:List α} {k:Nat} {x:α} (h:l[k]? =some x):at? l (k:Int)=some x:=by
 grind [at?]
theorem nN {α:Type} {l:List α} {i:Int} {x:α} (h:at? l i=some x):0≤i∧i<(l.length:Int):=by
 obtain⟨h1,h2⟩:=Ff h
 grind
theorem j9 {α:Type} {l:List α} {i j:Int} {x y:α} (h:at? l i=some x):at? (l.set i.toNat y) j=if j=i then some y else at? l j:=by
 grind [at?]
abbrev get (l:List Agent) (p:Port):Option Port:=GV l p
theorem Mw {l} {p q}:get l p=some q↔∃a,at? l p.agent=some a∧at? a.ports p.slot=some q:=by
 grind [GV,Option.bind_eq_some_iff]
def upd (l:List Agent) (p q:Port):List Agent:=match at? l p.agent with
 |some a=>l.set p.agent.toNat ⟨a.kind,a.level,a.value,a.data,a.ports.set p.slot.toNat q⟩
 |none=>l
theorem pA {l} {p q} {a} (h:at? l p.agent=some a):upd l p q=l.set p.agent.toNat ⟨a.kind,a.level,a.value,a.data,a.ports.set p.slot.toNat q⟩:=by unfold upd; rw [h]
theorem pB {l:List Agent} {p q:Port} {a:Agent} (h:at? l p.agent=some a) {k:Int}:at? (upd l p q) k=if k=p.agent then some ⟨a.kind,a.level,a.value,a.data,a.ports.set p.slot.toNat q⟩ else at? l k:=by
 rw [pA h,j9 h]
theorem mg {l:List Agent} {p q r:Port} {v:Port} (h:get l p=some v):get (upd l p q) r=if r=p then some q else get l r:=by
 obtain⟨a,h1,h2⟩:=Mw.1 h
 unfold get GV
 rw [pB h1]
 grind [j9,QD]
def sh (a:Agent):Int × Int × Int × List Int × Nat:=(a.kind,a.level,a.value,a.data,a.ports.length)
def lk (l:List Agent) (p q:Port):List Agent:=upd (upd l p q) q p
theorem YF {l} {p q r u v} (hp:get l p=some u) (hq:get l q=some v):get (lk l p q) r=if r=q then some p else if r=p then some q else get l r:=by
 grind [lk,mg]
def mv (l:List Agent) (old now:Port):List Agent:=match get l old with
 |some v=>lk l now v
 |none=>l
def jn (l:List Agent) (p q:Port):List Agent:=match get l p,get l q with
 |some a,some b=>if a=q then l else lk l a b
 |_,_=>l
def M (l:List Agent) (X:Port→Prop):Prop:=∀p q,get l p=some q→¬X p→¬X q∧q≠p∧get l q=some p
theorem M.mono {l} {X Y} (h:M l X) (hxy:∀p,X p↔Y p):M l Y:=fun p q hp hx=>by
 obtain⟨h1,h2,h3⟩:=h p q hp fun h=>hx ((hxy p).1 h)
 grind
theorem M.drop {l} {X} (h:M l X) {p q} (hp:get l p=some q) (hx:¬X p):M l fun r=>X r∨r=p∨r=q:=fun r s u j=>by
 obtain⟨h1,h2,h3⟩:=h r s u fun h=>j (.inl h)
 obtain⟨k1,k2,k3⟩:=h p q hp hx
 grind
theorem mh {l} {p q r u v} (hp:get l p=some u) (hq:get l q=some v) (h1:r≠p) (h2:r≠q):get (lk l p q) r=get l r:=by rw [YF hp hq,if_neg h2,if_neg h1]
theorem M.link {l} {X} (h:M l X) {p q u v} (hp:get l p=some u) (hq:get l q=some v) (hne:p≠q) (xp:X p) (xq:X q):M (lk l p q) fun r=>X r∧r≠p∧r≠q:=fun r s j F=>by
 rw [YF hp hq] at j
 by_cases e1:r=q
 ·grind [YF]
 ·rw [if_neg e1] at j
  by_cases e2:r=p
  ·grind [YF]
  ·rw [if_neg e2] at j
   have C:¬X r:=fun h=>F ⟨h,e2,e1⟩
   obtain⟨h1,h2,h3⟩:=h r s j C
   have G:s≠p:=fun e=>h1 (e ▸ xp)
   grind [mh]
theorem M.move {l} {X} (h:M l X) {o n v u'} (ho:get l o=some v) (xo:¬X o) (hn:get l n=some u') (xn:X n):M (mv l o n) fun r=>(X r∨r=o)∧r≠n:=by
 obtain⟨k1,k2,k3⟩:=h o v ho xo
 have j:n≠v:=fun e=>k1 (e ▸ xn)
 have:=(h.drop ho xo).link hn k3 j (.inl xn) (.inr (.inr rfl))
 grind [mv]
theorem M.join {l} {X} (h:M l X) {p q a b} (hp:get l p=some a) (hq:get l q=some b) (xp:¬X p) (xq:¬X q) (hne:p≠q):M (jn l p q) fun r=>X r∨r=p∨r=q:=by
 obtain⟨k1,k2,k3⟩:=h p a hp xp
 obtain⟨F,G,v⟩:=h q b hq xq
 unfold jn
 rw [hp,hq]
 by_cases e:a=q
 ·subst e
  simp only [if_pos rfl]
  exact h.drop hp xp
 ·simp only [if_neg e]
  have j:a≠b:=fun C=>by rw [C,v] at k3; grind
  have u:¬ (X q∨q=p∨q=a):=fun hx=>by
   grind
  have h2:=((h.drop hp xp).drop hq u).link k3 v j (.inl (.inr (.inr rfl))) (.inr (.inr rfl))
  grind
def x8:Agent:=⟨0,0,0,[],[]⟩
structure Ok (S:Int→Prop) (X:Port→Prop) (A B:List Agent):Prop where
 len:A.length=B.length
 ag:∀k,¬S k→at? A k=at? B k
 hl:∀k,S k→at? B k=some x8
 m:M A X
 sx:∀p,S p.agent→X p
section
variable {S:Int→Prop} {X:Port→Prop} {A B:List Agent}
theorem Ok.mono {Y} (h:Ok S X A B) (hxy:∀p,X p↔Y p):Ok S Y A B:=⟨h.len,h.ag,h.hl,h.m.mono hxy,fun p hp=>(hxy p).1 (h.sx p hp)⟩
theorem Ok.get (h:Ok S X A B) {p} (hp:¬S p.agent):get B p=get A p:=by
 unfold Ab.get GV; rw [h.ag _ hp]
theorem Ok.s_lt (h:Ok S X A B) {k} (hk:S k):0≤k∧k<(A.length:Int):=by
 have:=nN (h.hl k hk); rw [h.len]; omega
theorem Te {α:Type} {l:List α} {x:α} {k:Int}:at? (l++[x]) k=if k=(l.length:Int) then some x else at? l k:=by
 grind [at?]
theorem aR {l:List Agent} {x:Agent} {p:Port}:Ab.get (l++[x]) p=if p.agent=(l.length:Int) then at? x.ports p.slot else Ab.get l p:=by
 unfold Ab.get GV
 rw [Te]
 split <;> rfl
theorem Ok.add (h:Ok S X A B) (a:Agent):Ok S (fun p=>X p∨p.agent=(A.length:Int)) (A++[a]) (B++[a]):=by
 refine⟨by rw [List.length_append,List.length_append,h.len],fun k hk=>by rw [Te,Te,h.len,h.ag k hk],fun k hk=>?_,fun p q hp hx=>?_,fun p hp=>.inl (h.sx p hp)⟩
 ·have:=h.s_lt hk
  rw [Te,if_neg (by rw [← h.len]; omega)]; exact h.hl k hk
 ·have h1:p.agent≠(A.length:Int):=fun e=>hx (.inr e)
  rw [aR,if_neg h1] at hp
  obtain⟨k1,k2,k3⟩:=h.m p q hp fun e=>hx (.inl e)
  obtain⟨b,hb,-⟩:=Mw.1 k3
  have:=nN hb
  grind [aR]
end
def ci (k:Int):Bool:=decide (1≤k∧k≤12)&& !(decide (k=1)||decide (k=5)||decide (k=6))
theorem mi (k:Int):Fu k=some (ci k):=by
 rcases kind_cases k with h|h|h|h|h|h|h|h|h|h|h|h|h
 all_goals first|(subst h; simp [Fu,JB,ci,AA]; done)|skip
 have h2:¬ (1≤k∧k≤12):=by omega
 grind [Fu,JB,ci]
theorem kA (k:Int):E3 k=some (ci k):=by
 rcases kind_cases k with h|h|h|h|h|h|h|h|h|h|h|h|h
 all_goals first|(subst h; simp [E3,Az,ci]; done)|skip
 grind [RL,E3,Az,ci]
def kC (b k l:Int):Bool:=decide (0≤b∧b≤8)&&levB k l&&(decide (k=6)||decide (k=12)||(ci k&&decide (b<l)))
theorem mj (b k l:Int):HF b k l=some (kC b k l):=by
 have j:Hz b=some (decide (0≤b∧b≤8)):=by
  unfold Hz
  by_cases h:0≤b <;> simp [h]
 unfold HF kC
 rw [j,AA,J6,AA]
 grind [FK,mi]
theorem ml (b k l:Int):G9 b k l=some (kC b k l):=by
 unfold G9 kC
 rw [Dl,AA,NY,AA]
 grind [FJ,FI,kA]
def aS (k:Int):Bool:=decide (k=3)||decide (k=7)||decide (k=8)||decide (k=10)||decide (k=11)
theorem kD (k:Int):HG k=some (aS k):=by
 unfold HG aS
 by_cases h3:k=3 <;> by_cases h7:k=7 <;> by_cases h8:k=8 <;> by_cases h10:k=10 <;> simp [h3,h7,h8,h10]
theorem kE (k:Int):HA k=some (aS k):=by
 unfold HA CH aS
 by_cases h3:k=3 <;> by_cases h7:k=7 <;> by_cases h8:k=8 <;> by_cases h10:k=10 <;> by_cases h11:k=11 <;> simp [h3,h7,h8,h10,h11]
def ru (k1 l1 k2 l2:Int):Int:=
 if k1=5 then 4 else if k1=4 then (if k2=4∧l1=l2 then 2 else if kC l1 k2 l2=true then 3 else 0)
 else if k1=2 then (if k2=3∧l1=l2 then 1 else 0) else if k1=6 then (if k2=7∨k2=8 then 5 else if k2=11 then 6 else 0)
 else if k1=9 then (if k2=10 then 6 else 0) else if k1=12 then (if aS k2=true then 7 else 0) else 0
theorem kF (k1 l1 k2 l2:Int):I4 k1 l1 k2 l2=some (ru k1 l1 k2 l2):=by
 grind [I4,ru,HH,mj,HJ,HK,kD]
theorem YG (k1 l1 k2 l2:Int):Gu k1 l1 k2 l2=some (ru k1 l1 k2 l2):=by
 grind [Gu,ru,HC,ml,HD,HE,kE]
def pcl (a b:Agent):Int:=if ru a.kind a.level b.kind b.level≠0 then ru a.kind a.level b.kind b.level else if ru b.kind b.level a.kind a.level≠0 then ru b.kind b.level a.kind a.level else 8
def pfi (a b:Agent):Int:=if ru a.kind a.level b.kind b.level≠0 then 1 else if ru b.kind b.level a.kind a.level≠0 then 2 else 0
structure Two (a b:Agent):Prop where
 la:levB a.kind a.level=true
 lb:levB b.kind b.level=true
 ra:a.kind≠1
 rb:b.kind≠1
theorem cj {a b} (h:Two a b):Mm a.kind a.level b.kind b.level=some (pcl a b,pfi a b):=by
 unfold Mm Fv pcl pfi
 rw [J6,AA,J6,AA,kF,AA,kF,AA,h.la,h.lb]
 simp only [h.ra,h.rb,decide_false,Bool.false_eq_true,if_false,Bool.not_true]
 by_cases h1:ru a.kind a.level b.kind b.level=0 <;> by_cases h2:ru b.kind b.level a.kind a.level=0 <;> simp [h1,h2]
theorem aT {a b} (h:Two a b):I3 a.kind a.level b.kind b.level=some true:=by
 unfold I3
 rw [NY,AA,NY,AA,h.la,h.lb]
 simp [h.ra,h.rb]
theorem gZ {a b} (h:Two a b):IP a.kind a.level b.kind b.level=some (pcl a b):=by
 unfold IP Ft pcl
 rw [aT h,AA,YG,AA,YG,AA]
 by_cases h1:ru a.kind a.level b.kind b.level=0 <;> by_cases h2:ru b.kind b.level a.kind a.level=0 <;> simp [h1,h2]
theorem gR {a b} (h:Two a b):GP a.kind a.level b.kind b.level=some (pfi a b):=by
 unfold GP pfi
 rw [aT h,AA,YG,AA,YG,AA]
 by_cases h1:ru a.kind a.level b.kind b.level=0 <;> by_cases h2:ru b.kind b.level a.kind a.level=0 <;> simp [h1,h2]
def Eh (x y:Agent):Bool:=decide (x.kind=9)&&decide (y.kind=10)&&decide ((y.data.length:Int)≤x.value)
def kcl (a b:Agent):Int:=if Eh a b=true∨Eh b a=true then 8 else pcl a b
theorem Sb {a b} (h:Two a b):JY a b=some (kcl a b):=by
 grind [JY,FY,FX,kcl,Eh,gZ]
theorem Two.symm {a b} (h:Two a b):Two b a:=⟨h.lb,h.la,h.rb,h.ra⟩
theorem aG {l} {i j} {a b} (ha:at? l i=some a) (hb:at? l j=some b) (h:Two a b):∃sw,GQ ⟨l⟩ ⟨i,j⟩=some (kcl a b,sw)∧(kcl a b≠8→sw=decide (pfi a b=2)):=by
 have key:∀ (x y:Agent) (f:Int),(Eh x y=true∨Eh y x=true↔(pcl a b=6∧y.kind=10∧(y.data.length:Int)≤x.value))→(Eh x y=true∨Eh y x=true↔Eh a b=true∨Eh b a=true)→
   ∃sw,DO (pcl a b,f) x.kind x.level x.value x.data x.ports y.kind y.level y.value y.data y.ports=some (kcl a b,sw)∧(kcl a b≠8→sw=decide (f=2)):=by
  intro x y f h1 h2
  unfold DO DN kcl
  by_cases p:Eh a b=true∨Eh b a=true
  ·simp_all
  ·have v:=fun h=>p (h2.1 (h1.2 h))
   rw [if_neg p]
   refine⟨decide (f=2),?_,fun _=>rfl⟩
   grind
 unfold GQ
 simp only
 rw [ha,AA,hb,AA,cj h,AA]
 have C:Eh a b=true→ru a.kind a.level b.kind b.level=6∧b.kind=10:=fun p=>by
  grind [Eh,ru]
 have q:Eh b a=true→ru b.kind b.level a.kind a.level=6∧ru a.kind a.level b.kind b.level=0∧a.kind=10:=fun p=>by
  simp_all [Eh,ru]
 by_cases hf:pfi a b=2
 ·have u:ru a.kind a.level b.kind b.level=0∧ru b.kind b.level a.kind a.level≠0:=by
   unfold pfi at hf
   by_cases h1:ru a.kind a.level b.kind b.level=0 <;> by_cases h2:ru b.kind b.level a.kind a.level=0 <;> simp_all
  have hp:pcl a b=ru b.kind b.level a.kind a.level:=by simp [pcl,u]
  simp only [hf,decide_true,if_true]
  have:=key b a 2 ?_ (by rw [or_comm])
  ·grind
  grind [Eh,ru]
 ·simp only [hf,decide_false,Bool.false_eq_true,if_false]
  have:=key a b (pfi a b) ?_ Iff.rfl
  ·grind
  ·constructor
   ·grind [Eh,pcl,pfi]
   grind [ru,pcl,pfi,Eh]
def grow (c n:Int):Int:=if c=1∨c=2 then (if n=0 then -2 else 0) else if c=3 then (if 0≤n∧n≤3 then n else 0) else if c=4 then (if 0≤n∧n≤3 then n - 2 else 0)
 else if c=5 then (if n=0 then -1 else 0) else if c=6 then (if 0≤n∧n≤3 then n - 1 else 0) else if c=7 then (if 2≤n∧n≤600 then n - 2 else 0) else 0
theorem aU:∀ (l:List Agent) (i:Nat),Sk i l=true→∀ (k:Nat) (a:Agent),l[k]? =some a→agB a=true∧(a.kind=1↔i+k=0)
 | [],_,_,k,a,h=>by grind
 |x::l,i,hb,0,a,h=>by
  rw [Sk] at hb
  simp only [Bool.and_eq_true,beq_iff_eq] at hb
  simp only [List.getElem?_cons_zero,Option.some.injEq] at h
  subst h
  refine⟨hb.1.1,?_⟩
  have:=hb.1.2
  by_cases h1:x.kind=1 <;> by_cases h2:i=0 <;> simp_all
 |x::l,i,hb,k+1,a,h=>by
  rw [Sk] at hb
  simp only [Bool.and_eq_true] at hb
  rw [List.getElem?_cons_succ] at h
  obtain⟨h1,h2⟩:=aU l (i+1) hb.2 k a h
  grind
theorem VD {l} {i}:∀ (ps:List Port) (k:Nat),GI l i k ps=true→∀ (j:Nat) (p:Port),ps[j]? =some p→Sa l i (k+j) p=true
 | [],_,_,j,p,h=>by grind
 |x::ps,k,hb,0,p,h=>by
  rw [GI] at hb
  grind
 |x::ps,k,hb,j+1,p,h=>by
  rw [GI] at hb
  simp only [Bool.and_eq_true] at hb
  rw [List.getElem?_cons_succ] at h
  have:=VD ps (k+1) hb.2 j p h
  rwa [show k+1+j=k+(j+1) from by omega] at this
theorem Nv {l}:∀ (m:List Agent) (i:Nat),Dp l i m=true→∀ (k:Nat) (a:Agent),m[k]? =some a→GI l (i+k) 0 a.ports=true
 | [],_,_,k,a,h=>by grind
 |x::m,i,hb,0,a,h=>by
  rw [Dp] at hb
  grind
 |x::m,i,hb,k+1,a,h=>by
  rw [Dp] at hb
  simp only [Bool.and_eq_true] at hb
  rw [List.getElem?_cons_succ] at h
  have:=Nv m (i+1) hb.2 k a h
  rwa [show i+1+k=i+(k+1) from by omega] at this
structure VnN (N:Nat) (l:List Agent):Prop where
 len:1≤l.length∧l.length≤N
 ag:∀k a,at? l k=some a→agB a=true∧(a.kind=1↔k=0)
 m:M l fun _=>False
abbrev Vn:=VnN 600
theorem Net.valid_vn {n:Net} (h:n.valid=true):Vn n.agents:=by
 unfold Net.valid agentsB at h
 simp only [Bool.and_eq_true,decide_eq_true_eq] at h
 obtain⟨⟨h1,h2⟩,h3⟩:=h
 refine⟨h1,fun k a hk=>?_,fun p q hp _=>?_⟩
 ·obtain⟨k1,k2⟩:=Ff hk
  grind [aU]
 ·obtain⟨a,u,j⟩:=Mw.1 hp
  obtain⟨k1,k2⟩:=Ff u
  obtain⟨k3,k4⟩:=Ff j
  have:=VD _ 0 (Nv _ 0 h3 _ _ k2) _ _ k4
  rw [Nat.zero_add,Nat.zero_add] at this
  grind [Sa,QD]
theorem mm {a} (h:agB a=true):levB a.kind a.level=true:=by
 grind [agB]
theorem gb {a} (h:agB a=true):ports a.kind (if a.kind=9 then (a.ports.length:Int) - 1 else 0)=(a.ports.length:Int)∧0<a.ports.length:=by
 grind [agB]
theorem Lh {a} (h:agB a=true):1≤a.ports.length∧a.ports.length≤4:=by
 obtain⟨h1,h2⟩:=gb h
 grind [ports]
theorem kG {a} (h:agB a=true):a.data.length≤4:=by
 grind [agB,U3]
theorem gc {a} (h:agB a=true):a.Small:=⟨by grind [Lh],by grind [kG]⟩
theorem kH {a} (h:agB a=true):1≤a.kind∧a.kind≤12:=by
 grind [mm,levB]
theorem VnN.mem {N} {l} (h:VnN N l) {a} (ha:a ∈ l):agB a=true:=by
 obtain⟨i,j,rfl⟩:=List.getElem_of_mem ha
 exact(h.ag i _ (nM (by rw [List.getElem?_eq_getElem j]))).1
theorem VnN.small {N} {l} (h:VnN N l):∀a ∈ l,a.Small:=fun a j=>gc (h.mem j)
structure Pr (S:Int→Prop) (A:List Agent) (x y:Int) (a b:Agent):Prop where
 hx:at? A x=some a
 hy:at? A y=some b
 w:Ab.get A ⟨x,0⟩=some ⟨y,0⟩
 sx:¬S x
 sy:¬S y
def pr1 (i:Nat) (a:Agent):List Pair:=match at? a.ports 0 with
 |some v=>if v.slot=0∧(i:Int)<v.agent then [⟨(i:Int),v.agent⟩] else []
 |none=>[]
def prs:Nat→List Agent→List Pair
 |_,[] =>[]
 |i,a::l=>pr1 i a++prs (i+1) l
theorem mn (i:Nat) (a:Agent):(pr1 i a).length ≤1:=by
 grind [pr1]
theorem eK:∀ (l:List Agent) (i:Nat),(prs i l).length ≤l.length
 | [],_=>by simp [prs]
 |a::l,i=>by
  rw [prs,List.length_append,List.length_cons]
  have:=eK l (i+1)
  grind [mn]
theorem gd {N} (n:Net) (h:VnN N n.agents) (hN:N≤5000000):IQ n=some (prs 1 (n.agents.drop 1)):=by
 have hl:n.agents.length≤Big:=by have:=h.len; grind
 have loop:∀ (post pre:List Agent) (acc:List Pair) (k:Nat),n.agents=pre++post→1≤pre.length→acc.length≤pre.length→2*post.length<k→BW k n acc (pre.length:Int)=some (acc++prs pre.length post):=by
  intro post
  induction post with
  |nil=>
   intro pre acc k C h1 ha hk
   obtain⟨k,rfl⟩:∃q,k=q+1:=⟨k - 1,by omega⟩
   rw [BW,Al C,if_neg (by simp),prs,List.append_nil]
  |cons x post ih=>
   intro pre acc k C h1 ha hk
   rw [List.length_cons] at hk
   obtain⟨k,rfl⟩:∃q,k=q+1+1:=⟨k - 2,by omega⟩
   obtain⟨U,Y⟩:=h.ag _ x (AU C)
   have hp:=Lh U
   have I:x.kind≠1:=fun e=>by omega
   obtain⟨v,hv,-⟩:=Lf (l:=x.ports) (i:=0) (by omega)
   have hnl:pre.length<n.agents.length:=by rw [C]; simp
   have e1:pr1 pre.length x=if v.slot=0∧(pre.length:Int)<v.agent then [⟨(pre.length:Int),v.agent⟩] else [] :=by unfold pr1; rw [hv]
   have J:=fun G W=>ih (pre++[x]) G k (AM C) (by simp) W (by omega)
   rw [List.length_append,List.length_singleton] at J
   have hw:=AN C hl
   rw [List.length_append,List.length_singleton] at hw
   rw [BW,if_pos (Ah C),AU C,AA,hv,AA,prs,e1]
   grind [Cg,A0]
 have u:=h.len
 obtain⟨p,F,j⟩:∃p F,n.agents=p::F:=by
  cases hh:n.agents with
  |nil=>rw [hh] at u; grind
  |cons p F=>grind
 have O:n.agents=[] ++p::F:=by rw [j]; rfl
 obtain⟨U,Y⟩:=h.ag 0 p (AU O)
 have hp:=Lh U
 have I:p.kind=1:=Y.2 rfl
 obtain⟨v,hv,-⟩:=Lf (l:=p.ports) (i:=0) (by omega)
 have hd:n.agents.drop 1=F:=by rw [j]; rfl
 unfold IQ
 obtain⟨k,hk⟩:∃q,fuel=q+1+1:=⟨fuel - 2,by rw [Af]⟩
 have l1:=loop F [p] [] k j (by simp) (by simp) (by rw [Af] at hk; rw [j] at u; grind)
 rw [List.length_singleton,List.nil_append,Int.natCast_one] at l1
 have h0:at? n.agents 0=some p:=by grind [AU]
 rw [hk,BW,if_pos (by rw [j]; simp),h0,AA,hv,AA,hd]
 grind [Cg,w64]
theorem gf {N} (n:Net) (h:VnN N n.agents) (hN:N≤5000000):JZ n=some (prs 1 (n.agents.drop 1)):=by
 have U:n.agents.length≤Big:=by have:=h.len; grind
 have loop:∀ (post pre:List Agent) (acc:List Pair) (k:Nat),n.agents=pre++post→acc.length≤pre.length→2*post.length<k→Bk k n acc (pre.length:Int)=some (acc++prs pre.length post):=by
  intro post
  induction post with
  |nil=>
   intro pre acc k p ha hk
   obtain⟨k,rfl⟩:∃q,k=q+1:=⟨k - 1,by omega⟩
   rw [Bk,Al p,if_neg (by simp),prs,List.append_nil]
  |cons x post ih=>
   intro pre acc k p ha hk
   rw [List.length_cons] at hk
   obtain⟨k,rfl⟩:∃q,k=q+1+1:=⟨k - 2,by omega⟩
   obtain⟨O,gk⟩:=h.ag _ x (AU p)
   have hp:=Lh O
   have W:x.kind≠0:=by have:=kH O; omega
   obtain⟨v,hv,-⟩:=Lf (l:=x.ports) (i:=0) (by omega)
   have hnl:pre.length<n.agents.length:=by rw [p]; simp
   have Y:pr1 pre.length x=if v.slot=0∧(pre.length:Int)<v.agent then [⟨(pre.length:Int),v.agent⟩] else [] :=by unfold pr1; rw [hv]
   have I:=fun F J=>ih (pre++[x]) F k (AM p) J (by omega)
   rw [List.length_append,List.length_singleton] at I
   have hw:=AN p U
   rw [List.length_append,List.length_singleton] at hw
   rw [Bk,if_pos (Ah p),AU p,AA,if_neg (by grind),AA,hv,AA,prs,Y]
   grind [Fa,A0]
 have j:=h.len
 obtain⟨G,C,u⟩:∃G C,n.agents=G::C:=by
  cases hh:n.agents with
  |nil=>rw [hh] at j; grind
  |cons G C=>grind
 have hd:n.agents.drop 1=C:=by rw [u]; rfl
 unfold JZ
 have l1:=loop C [G] [] fuel u (by simp) (by rw [Af]; rw [u] at j; grind)
 rw [List.length_singleton,List.nil_append,Int.natCast_one] at l1
 rw [l1,hd]
theorem eL:∀ (l:List Agent) (i:Nat) (p:Pair),p ∈ prs i l→∃ (j:Nat) (a:Agent) (v:Port),l[j]? =some a∧at? a.ports 0=some v∧v.slot=0∧p=⟨((i+j:Nat):Int),v.agent⟩∧p.a<v.agent
 | [],_,p,h=>by simp [prs] at h
 | a ::l,i,p,h=>by
  rw [prs] at h
  rcases List.mem_append.1 h with h|h
  ·unfold pr1 at h
   split at h
   ·rename_i v hv
    split at h
    ·rename_i q
     rw [List.mem_singleton] at h
     subst h
     exact⟨0,a,v,rfl,hv,q.1,rfl,q.2⟩
    grind
   grind
  ·obtain⟨j,b,v,h1,h2,h3,u,C⟩:=eL l (i+1) p h
   exact⟨j+1,b,v,h1,h2,h3,by rw [u]; grind,C⟩
theorem o9 {N} {l} (h:VnN N l) {p} (hp:p ∈ prs 1 (l.drop 1)):∃a b,Pr (fun k=>k ∈ ([] :List Int)) l p.a p.b a b∧agB a=true∧agB b=true∧a.kind≠1∧b.kind≠1:=by
 obtain⟨j,a,v,h1,h2,h3,q,I⟩:=eL _ _ _ hp
 rw [List.getElem?_drop] at h1
 have u:at? l p.a=some a:=by rw [q]; exact nM h1
 have hg:Ab.get l ⟨p.a,0⟩=some ⟨p.b,0⟩:=Mw.2 ⟨a,u,by rw [h2,q]; exact congrArg some (QD rfl h3)⟩
 obtain⟨-,-,C⟩:=h.m _ _ hg not_false
 obtain⟨b,hb,-⟩:=Mw.1 C
 have G:p.a=((1+j:Nat):Int):=by rw [q]
 have F:p.b=v.agent:=by rw [q]
 refine⟨a,b,⟨u,hb,hg,by simp,by simp⟩,(h.ag _ _ u).1,(h.ag _ _ hb).1,fun e=>?_,fun e=>?_⟩
 ·have:=(h.ag _ _ u).2.1 e; omega
 ·have:=(h.ag _ _ hb).2.1 e; grind
theorem fy (n:Net) (hs:n.Small) (i:Int):∃r,Mo n i=some r∧Kp n i=some r∧(r.2 =0→n.valid=true∧r.1 ∈ prs 1 (n.agents.drop 1)):=by
 unfold Mo Kp
 rw [eF n hs,mc n hs,AA,AA]
 cases hv:n.valid with
 |false=>simp_all
 | true=>
  have q:=Net.valid_vn hv
  have u:=q.len
  have j:=eK (n.agents.drop 1) 1
  rw [List.length_drop] at j
  rw [if_neg (by simp),if_neg (by simp),gd n q (by omega),gf n q (by omega)]
  generalize prs 1 (n.agents.drop 1)=P at*
  rw [ AA,AA,w64 (by omega) (by omega),Dl,AA]
  by_cases h0:i<0
  ·rw [if_pos (by grind),if_pos (by grind)]
   grind [Fx]
  ·rw [if_neg (by grind)]
   by_cases h1:((P.length:Nat):Int)≤i
   ·rw [if_pos (by grind)]
    refine⟨_,?_,rfl,fun h=>by omega⟩
    unfold Fx
    rw [if_pos (by grind)]
   ·obtain⟨p,hp,hm⟩:=Lf (l:=P) (i:=i) (by omega)
    rw [if_neg (by grind)]
    refine⟨(p,0),?_,by rw [hp,AA],fun _=>⟨rfl,hm⟩⟩
    unfold Fx
    rw [if_neg (by grind),hp,AA]
end Go.Proofs.YtjnifengdhcojaaGreatDoor.Ab
