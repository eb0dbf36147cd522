/- Decimal. -/
import Derived.Test.YtjnifengdhcojaaGreatDoorModQ
import Derived.Test.YtjnifengdhcojaaGreatDoorPlNet
import Derived.Test.YtjnifengdhcojaaGreatDoorModS
import Derived.Test.YtjnifengdhcojaaGreatDoorModI
import Derived.Test.YtjnifengdhcojaaGreatDoorPlRq
import Derived.Test.YtjnifengdhcojaaGreatDoorModL
namespace Go.Proofs.YtjnifengdhcojaaGreatDoor.Ab
set_option linter.unusedVariables false
set_option maxHeartbeats 1000000
set_option linter.unusedSimpArgs false
open Go.RowKit
theorem P4 (n:Int):Hw n=some (Kq n):=by
 rfl
def digs:Nat→Nat→List Int
 |0,_=>[]
 |k+1,u=>if u=0 then [] else (48+((u % 10:Nat):Int))::digs k (u / 10)
theorem SY:∀k u,(digs k u).length ≤k
 |0,_=>by simp [digs]
 | k+1,u=>by
  unfold digs
  split
  ·simp
  ·have:=SY k (u / 10)
   grind
theorem Mr:∀k u,0<u→u<10 ^ k→Lib.decDigits u=(digs k u).reverse.map fun z=>UInt8.ofNat z.toNat
 |0,u,h0,h1=>by omega
 | k+1,u,h0,h1=>by
  rw [Nat.pow_succ] at h1
  rw [Lib.decDigits,digs,if_neg (by omega),List.reverse_cons,List.map_append]
  by_cases h:u<10
  ·rw [dif_pos h]
   have e:u / 10=0:=by omega
   have p:digs k 0=[] :=by cases k with|zero=>rfl|succ k=>rfl
   have j:u % 10=u:=by omega
   rw [e,p,j]
   rfl
  ·rw [dif_neg h,Mr k (u / 10) (by omega) (by omega)]
   rfl
theorem jl (p:List Int) (hp:p.length≤Big):∀ (n k:Nat) (acc:List Int),k≤p.length→k<n→acc.length+k≤Big→EL n p acc ((k:Int) - 1)=W6 (acc++(p.take k).reverse):=by
 intro n
 induction n with
 |zero=>omega
 | succ n ih=>
  intro k acc h1 h2 h3
  rw [EL]
  cases k with
  |zero=>
   rw [if_neg (by simp)]
   cases h:W6 (acc++(List.take 0 p).reverse) <;> simp at h <;> simp [h]
  | succ k=>
   have e:(((k+1:Nat):Int) - 1)=(k:Int):=by omega
   unfold Big at hp h3
   rw [e,if_pos (by simp)]
   unfold at?
   rw [if_pos (by omega),Int.toNat_natCast,List.getElem?_eq_getElem (by omega),AA,A0 (by grind),AA,w64 (by omega) (by omega),ih k _ (by omega) (by omega) (by grind)]
   have j:acc++[p[k]] ++(p.take k).reverse =acc++(p.take (k+1)).reverse :=by
    rw [List.take_succ_eq_append_getElem (by omega),List.reverse_append]
    simp
   rw [j]
theorem mV (a:Int):∀ (k n:Nat) (acc:List Int) (m:Int),m.natAbs<10 ^ k→k≤25→2*k+3≤n→acc.length+k≤1000→(-9223372036854775808≤m∧m≤9223372036854775807)→
  C4 n a acc m=if a=0 then CW a (acc++digs k m.natAbs++[48]) else CW a (acc++digs k m.natAbs):=by
 intro k
 induction k with
 |zero=>
  intro n acc m h1 hk p j hm
  obtain⟨n,rfl⟩:∃q,n=q+1:=⟨n - 1,by omega⟩
  have:m=0:=by omega
  grind [C4,digs,A0]
 | succ k ih=>
  intro n acc m h1 hk p j hm
  obtain⟨n,rfl⟩:∃q,n=q+2:=⟨n - 2,by omega⟩
  rw [C4]
  by_cases h0:m=0
  ·grind [digs,A0]
  ·rw [if_pos (by grind)]
   have hd:(Int.tdiv m 10).natAbs =m.natAbs / 10:=by rw [Int.natAbs_tdiv]; rfl
   have u:(Int.tmod m 10).natAbs =m.natAbs % 10:=by rw [Int.natAbs_tmod]; rfl
   have v:IntKind.i64.wrap (Int.tdiv m 10)=Int.tdiv m 10:=w64 (by omega) (by omega)
   have step:∀z:Int,z=((m.natAbs % 10:Nat):Int)→E4 (n+1) a acc m z=if a=0 then CW a (acc++digs (k+1) m.natAbs++[48]) else CW a (acc++digs (k+1) m.natAbs):=fun z hz=>by
    grind [w64,IntKind.wrap,IntKind.signed,IntKind.bits,E4,A0,digs]
   grind [w64]
theorem nL (a:Int) (l:List Int) (hl:l.length≤1000):CW a l=some (strOfNums (if a<0 then 45::l.reverse else l.reverse)):=by
 grind [GR,w64,jl,eE,W6,CW,A0]
theorem P5 (n:Int) (h:(Lit.int IntKind.i64 n).wf =true):H0 n=some (Kq n):=by
 have p: -9223372036854775808≤n∧n≤9223372036854775807:=by grind [Lit.wf,IntKind.min,IntKind.max,IntKind.signed,IntKind.bits]
 unfold H0
 rw [mV n 20 fuel [] n (by omega) (by omega) (eE (by omega)) (by simp) p,List.nil_append]
 have j:=SY 20 n.natAbs
 unfold Kq Lib.itoa
 by_cases h0:n=0
 ·subst h0
  rw [if_pos rfl,nL _ _ (by grind),if_neg (by omega),if_neg (by omega),show Int.toNat 0=0 from rfl,Lib.decDigits,dif_pos (by omega)]
  rfl
 ·rw [if_neg h0,nL _ _ (by omega)]
  have hd:=Mr 20 n.natAbs (by omega) (by omega)
  grind [strOfNums]
theorem Ld (n:Int) (h:(Lit.int IntKind.i64 n).wf =true):(Kq n).size ≤21:=by
 have j: -9223372036854775808≤n∧n≤9223372036854775807:=by grind [Lit.wf,IntKind.min,IntKind.max,IntKind.signed,IntKind.bits]
 have:=Lib.itoa_length_le n j.1 j.2
 show (Lib.itoa n).toArray.size ≤21
 rw [List.size_toArray]
 omega
theorem P6 {a b:ByteArray} (h:a.size+b.size≤9223372036854775807):He a b=some (a++b):=by unfold He; rw [if_pos h]
theorem XE:∀ (l:List Agent) (i:Nat),Sk i l=true→∀ (k:Nat) (a:Agent),l[k]? =some a→agB a=true
 | [],_,_,k,a,h=>by grind
 |x::l,i,hb,0,a,h=>by grind [Sk]
 |x::l,i,hb,k+1,a,h=>by
  rw [Sk] at hb
  simp only [Bool.and_eq_true] at hb
  rw [List.getElem?_cons_succ] at h
  exact XE l (i+1) hb.2 k a h
theorem SZ {l:List Agent} {i:Nat}:∀ (ps:List Port) (k:Nat),GI l i k ps=true→∀ (j:Nat) (p:Port),ps[j]? =some p→Sa l i (k+j) p=true
 | [],_,_,j,p,h=>by grind
 |x::ps,k,hb,0,p,h=>by
  rw [GI] at hb
  grind
 |x::ps,k,hb,j+1,p,h=>by
  rw [GI] at hb
  simp only [Bool.and_eq_true] at hb
  rw [List.getElem?_cons_succ] at h
  have:=SZ ps (k+1) hb.2 j p h
  rwa [show k+1+j=k+(j+1) from by omega] at this
theorem Ms {l:List Agent}:∀ (m:List Agent) (i:Nat),Dp l i m=true→∀ (k:Nat) (a:Agent),m[k]? =some a→GI l (i+k) 0 a.ports=true
 | [],_,_,k,a,h=>by grind
 |x::m,i,hb,0,a,h=>by
  rw [Dp] at hb
  grind
 |x::m,i,hb,k+1,a,h=>by
  rw [Dp] at hb
  simp only [Bool.and_eq_true] at hb
  rw [List.getElem?_cons_succ] at h
  have:=Ms m (i+1) hb.2 k a h
  rwa [show i+1+k=i+(k+1) from by omega] at this
def cR (l:List Agent) (p:Port):Prop:=∃a q,at? l p.agent=some a∧at? a.ports p.slot=some q
structure Vg (l:List Agent):Prop where
 len:1≤l.length∧l.length≤600
 ag:∀i a,at? l i=some a→agB a=true
 pr:∀i a k p,at? l i=some a→at? a.ports k=some p→cR l p
theorem Net.valid_vg {n:Net} (h:n.valid=true):Vg n.agents:=by
 unfold Net.valid agentsB at h
 simp only [Bool.and_eq_true,decide_eq_true_eq] at h
 obtain⟨⟨h1,h2⟩,h3⟩:=h
 refine⟨h1,fun i a u=>?_,fun i a k p u hk=>?_⟩
 ·exact XE _ 0 h2 _ _ (Ff u).2
 ·have:=SZ _ 0 (Ms _ 0 h3 _ _ (Ff u).2) _ _ (Ff hk).2
  unfold Sa at this
  simp only [Bool.and_eq_true] at this
  cases hq:GV n.agents p with
  |none=>rw [hq] at this; grind
  |some q=>
   obtain⟨b,hb,j⟩:=Option.bind_eq_some_iff.1 hq
   exact⟨b,q,hb,j⟩
theorem agP {a:Agent} (h:agB a=true):(1≤a.kind∧a.kind≤12)∧(0≤a.level∧a.level≤8)∧a.ports.length≤4∧a.data.length≤4∧1≤a.ports.length∧
  ((a.kind=2∨a.kind=3∨a.kind=4∨a.kind=7)→a.ports.length=3)∧((a.kind=8∨a.kind=10∨a.kind=11)→a.ports.length=2)∧(a.kind=8→a.data.length=1):=by
 unfold agB levB U3 at h
 simp only [Bool.and_eq_true,decide_eq_true_eq] at h
 obtain⟨⟨⟨h1,h2⟩,h3,j⟩,p⟩:=h
 refine⟨h3,by grind,?_,by grind,by omega,?_,?_,by grind⟩
 all_goals unfold ports at h2; grind
theorem Jl {α:Type} {l:List α} {i:Int} (h0:0≤i) (h:i<(l.length:Int)):∃x,at? l i=some x:=by
 obtain⟨x,hx,-⟩:=Lf ⟨h0,h⟩
 grind
theorem P7 {l:List Agent} {a:Agent} {i k:Int} {q:Port} (h:at? l i=some a) (hk:at? a.ports k=some q):Cv ⟨l⟩ ⟨i,k⟩=some q:=by
 unfold Cv
 rw [h,AA,hk,AA]
theorem wfI {n:Int} (h: -9223372036854775808≤n∧n≤9223372036854775807):(Lit.int IntKind.i64 n).wf =true:=by
 grind [Lit.wf,IntKind.min,IntKind.max,IntKind.signed,IntKind.bits]
def entB (p:Port):ByteArray:=Kq p.agent++ByteArray.mk #[46] ++Kq p.slot++ByteArray.mk #[59]
theorem P8:(ByteArray.mk #[46]).size =1:=rfl
theorem XF:(ByteArray.mk #[59]).size =1:=rfl
theorem gM (p:Port) (h:(Lit.int IntKind.i64 p.agent).wf =true) (h2:(Lit.int IntKind.i64 p.slot).wf =true):(entB p).size ≤50:=by
 grind [Ld,entB,P8,XF]
theorem jm (p:Port) (h:(Lit.int IntKind.i64 p.agent).wf =true) (h2:(Lit.int IntKind.i64 p.slot).wf =true):IN p=some (entB p)∧Ja p=some (entB p):=by
 have h3:=Ld _ h
 have j:=Ld _ h2
 have u:He (Kq p.agent) (ByteArray.mk #[46])=some (Kq p.agent++ByteArray.mk #[46]):=P6 (by rw [P8]; omega)
 have q:He (Kq p.agent++ByteArray.mk #[46]) (Kq p.slot)=some (Kq p.agent++ByteArray.mk #[46] ++Kq p.slot):=P6 (by grind [P8])
 grind [entB,P6,ByteArray.size_append,P8,XF,IN,P4,Ja,P5]
theorem wfP {l:List Agent} (hv:Vg l) {p:Port} (h:cR l p):(Lit.int IntKind.i64 p.agent).wf =true∧(Lit.int IntKind.i64 p.slot).wf =true∧0≤p.agent∧p.agent<600∧0≤p.slot∧p.slot<4:=by
 obtain⟨a,q,j,u⟩:=h
 have h1:=J1 j
 have h2:=J1 u
 have h3:=agP (hv.ag _ _ j)
 have:=hv.len
 grind [wfI]
def Stacks.lst (s:Stacks):List (List Int):=s.l.map fun o=>(stl o).reverse
theorem Stacks.l_len (s:Stacks):s.l.length=9:=rfl
theorem Stacks.lst_len (s:Stacks):s.lst.length=9:=rfl
def Stacks.Fit (s:Stacks) (e:Nat):Prop:=∀x ∈ s.l,(stl x).length ≤e∧∀k ∈ stl x,1≤k∧k≤2
theorem Stacks.Fit.mono {s:Stacks} {e f:Nat} (h:s.Fit e) (he:e≤f):s.Fit f:=fun x hx=>⟨Nat.le_trans (h x hx).1 he,(h x hx).2⟩
theorem Stacks.of_l:∀ (l:List (Option Stack)),l.length=9→∃t,Stacks.of? l=some t∧t.l=l
 | [a,b,c,d,e,f,g,h,i],_=>⟨_,rfl,rfl⟩
theorem X5 {α β:Type} {l:List α} {f:α→β} {i:Int} {x:α} (h:at? l i=some x):at? (l.map f) i=some (f x):=by
 grind [at?]
theorem X6 {α:Type} {l:List α} {i:Int} {x:α} (h:at? l i=some x):x ∈ l:=List.mem_of_getElem? (Ff h).2
theorem Stacks.set_ok (s:Stacks) (lv:Int) (x:Option Stack):∃t,Option.bind (Cn s.l lv x) Stacks.of?=some t∧t.lst=s.lst.set lv.toNat (stl x).reverse ∧(∀e,s.Fit e→(stl x).length ≤e→(∀k ∈ stl x,1≤k∧k≤2)→t.Fit e):=by
 obtain⟨t,h1,h2⟩:=Stacks.of_l (s.l.set lv.toNat x) (by rw [List.length_set]; rfl)
 refine⟨t,h1,?_,fun e j hx hk y hy=>?_⟩
 ·unfold Stacks.lst
  rw [h2,List.map_set]
 ·rw [h2] at hy
  rcases List.mem_or_eq_of_mem_set hy with hy|rfl
  ·exact j y hy
  grind
theorem XG (s:List (List Int)) (lv:Int) (x:List Int) (h0:0≤lv) (h1:lv<(s.length:Int)) (hl:s.length≤9):Kr s lv x=some (s.set lv.toNat x):=by
 unfold Kr
 obtain⟨y,hy⟩:=Jl h0 h1
 rw [A0 (by grind),AA,List.nil_append,hy,AA]
 rfl
theorem X7 (l:List Int) (h:l.length≤Big):FG l=some l:=by
 unfold FG
 rw [A0 (by grind),AA,List.nil_append]
theorem K5 (s:Stack):stl (some s)=s.port::stl s.rest:=Stack.li_eq s
theorem o5 {A:List Agent} {a:Agent} {q:Port} {s:Stacks} {st:Option Stack} (r:Reading) (hr:r.net=⟨A⟩) (p:Port) (ha:at? A p.agent=some a) (hq:at? a.ports 0=some q) (hs:at? s.l a.level=some st) (h:0<p.slot) (hp:p.slot≤2) (e:Nat) (hf:s.Fit e):
  ∃t,CV r p s=some (q,true,t)∧t.lst=s.lst.set a.level.toNat ((stl st).reverse ++[p.slot])∧t.Fit (e+1):=by
 obtain⟨t,h1,h2,h3⟩:=s.set_ok a.level (some ⟨p.slot,st⟩)
 refine⟨t,?_,?_,h3 _ (hf.mono (by omega)) ?_ ?_⟩
 ·unfold CV
  rw [hr,show (Net.mk A).agents =A from rfl,ha,AA,if_pos (by grind)]
  change Option.bind (at? s.l a.level) _=_
  rw [hs,AA]
  change Option.bind (at? s.l a.level) _=_
  rw [hs,AA]
  change Option.bind (Cn s.l a.level (some ⟨p.slot,st⟩)) _=_
  grind [Cn,P7]
 ·rw [h2,K5,List.reverse_cons]
 ·rw [K5,List.length_cons]
  have:=(hf st (X6 hs)).1
  grind
 ·intro k hk
  rw [K5,List.mem_cons] at hk
  rcases hk with rfl|hk
  ·grind
  ·exact(hf st (X6 hs)).2 k hk
theorem jo {A:List Agent} {a:Agent} {s:Stacks} (r:Reading) (hr:r.net=⟨A⟩) (p:Port) (ha:at? A p.agent=some a) (hs:at? s.l a.level=some none) (h:¬ 0<p.slot):CV r p s=some (⟨0,0⟩,false,s):=by
 unfold CV
 rw [hr,show (Net.mk A).agents =A from rfl,ha,AA,if_neg (by grind)]
 change Option.bind (at? s.l a.level) _=_
 rw [hs,AA]
 rfl
theorem jp {A:List Agent} {a:Agent} {q:Port} {s:Stacks} {st:Stack} (r:Reading) (hr:r.net=⟨A⟩) (p:Port) (ha:at? A p.agent=some a) (hs:at? s.l a.level=some (some st)) (hq:at? a.ports st.port=some q) (h:¬ 0<p.slot) (e:Nat) (hf:s.Fit e):
  ∃t,CV r p s=some (q,true,t)∧t.lst=s.lst.set a.level.toNat (stl st.rest).reverse ∧t.Fit e:=by
 obtain⟨t,h1,h2,h3⟩:=s.set_ok a.level st.rest
 have j:=hf _ (X6 hs)
 rw [K5] at j
 refine⟨t,?_,h2,h3 _ hf (by grind) fun k hk=>j.2 k (List.mem_cons_of_mem _ hk)⟩
 unfold CV
 rw [hr,show (Net.mk A).agents =A from rfl,ha,AA,if_neg (by grind)]
 change Option.bind (at? s.l a.level) _=_
 rw [hs,AA]
 change Option.bind (at? s.l a.level) _=_
 rw [hs,AA]
 change Option.bind (Cn s.l a.level st.rest) _=_
 grind [Cn,P7]
theorem Vs (l m:List Int) (hl:l.length≤Big):Cj (I5 l m) (l=m):=by
 unfold I5
 exact jV (fun n i=>E5 n l m i) (fun x y=>some (decide (x=y))) l m (fun n i=>by rw [E5]; rfl) hl fun x _ y _=>.mk J2
theorem RJ (l m:List (List Int)) (hl:l.length≤Big) (h:∀x ∈ l,x.length≤Big):Cj (FL l m) (l=m):=by
 unfold FL
 exact jV (fun n i=>Bs n l m i) I5 l m (fun n i=>by rw [Bs]) hl fun x hx y _=>Vs x y (h x hx)
theorem U4 (s t:Stacks) (lv:Int) (h1:lv≤8):∀ (j:Nat) (i:Int) (n:Nat),0≤i→i+j=lv→j<n→Cj (A2 n s t lv i) (∀k:Nat,i≤k→(k:Int)<lv→s.lst[k]? =t.lst[k]?)
 |0,i,n,h0,hj,hn=>by
  obtain⟨n,rfl⟩:∃m,n=m+1:=⟨n - 1,by omega⟩
  rw [A2,if_neg (by grind)]
  exact .mk ⟨fun _ k h1 h2=>by omega,fun _=>rfl⟩
 |j+1,i,n,h0,hj,hn=>by
  obtain⟨n,rfl⟩:∃m,n=m+1:=⟨n - 1,by omega⟩
  obtain⟨x,hx⟩:=Jl (l:=s.l) h0 (by rw [Stacks.l_len]; omega)
  obtain⟨y,hy⟩:=Jl (l:=t.l) h0 (by rw [Stacks.l_len]; omega)
  have u:=U4 s t lv h1 j (i+1) n (by omega) (by omega) (by omega)
  rw [A2,if_pos (by grind)]
  change Cj ((at? s.l i).bind fun v=>Option.bind (at? t.l i) _) _
  rw [hx,AA,hy,AA,w64 (by omega) (by omega)]
  unfold Mj
  rw [AA]
  have q:=(Ff (X5 (f:=fun o=>(stl o).reverse) hx)).2
  have p:=(Ff (X5 (f:=fun o=>(stl o).reverse) hy)).2
  change s.lst[i.toNat]? =some _ at q
  change t.lst[i.toNat]? =some _ at p
  refine(Gv J2 fun _=>u).iff ⟨fun ⟨e,hk⟩ k h2 h3=>?_,fun hk=>⟨?_,fun k h2 h3=>hk k (by omega) h3⟩⟩
  ·grind
  grind [List.reverse_inj]
theorem jq (s t:Stacks) (lv:Int) (h0:0≤lv) (h1:lv≤8):Cj (DZ s t lv) (t.lst.take lv.toNat=s.lst.take lv.toNat):=by
 unfold DZ
 refine(U4 s t lv h1 lv.toNat 0 fuel (by omega) (by omega) (by rw [Af]; omega)).iff ⟨fun h=>?_,fun h k _ hk=>?_⟩
 ·refine List.ext_getElem? fun k=>?_
  rw [List.getElem?_take,List.getElem?_take]
  grind
 ·have:=congrArg (fun l=>l[k]?) h
  grind
def ReadBinder.bl:ReadBinder→List (Int × Stacks)
 |⟨p,s,none⟩=>[(p,s)]
 |⟨p,s,some r⟩=>(p,s)::r.bl
def rbl:Option ReadBinder→List (Int × Stacks)
 |none=>[]
 |some b=>b.bl
theorem P9 (b:ReadBinder):rbl (some b)=(b.lam,b.stacks)::rbl b.rest:=by
 obtain⟨p,s,r⟩:=b
 cases r <;> simp only [rbl,ReadBinder.bl]
def jr (A:List Agent) (i:Int):Nat:=match at? A i with
 |some a=>a.level.toNat
 |none=>0
theorem aA {A:List Agent} {i:Int} {a:Agent} (h:at? A i=some a):jr A i=a.level.toNat:=by unfold jr; rw [h]
def sbOf (A:List Agent) (x:Int × Stacks):L16Binder:=⟨x.1,x.2.lst.take (jr A x.1)⟩
def hit (lam:Int) (lv:Nat) (s:Stacks) (x:Int × Stacks):Bool:=decide (x.1 =lam)&&decide (x.2.lst.take lv=s.lst.take lv)
def K6 (lam:Int) (lv:Nat) (s:Stacks):Int→List (Int × Stacks)→Int
 |_,[] => -1
 |k,x::l=>if hit lam lv s x=true then k else K6 lam lv s (k+1) l
theorem XH {A:List Agent} {a:Agent} (hv:Vg A) (r:Reading) (hr:r.net=⟨A⟩) (lam:Int) (ha:at? A lam=some a) (s:Stacks):∀ (l:List (Int × Stacks)) (b:Option ReadBinder) (n:Nat) (k:Int),rbl b=l→2*l.length+1≤n→0≤k→k+l.length≤1000000→
  Ap n r lam s b k=some (K6 lam a.level.toNat s k l)
 |l,none,n,k,hb,hn,hk,hl=>by
  obtain⟨n,rfl⟩:∃m,n=m+1:=⟨n - 1,by omega⟩
  cases hb
  rw [Ap]
  rfl
 |l,some b,n,k,hb,hn,hk,hl=>by
  rw [P9] at hb
  subst hb
  rw [List.length_cons] at hn hl
  obtain⟨n,rfl⟩:∃m,n=m+2:=⟨n - 2,by omega⟩
  have j:=XH hv r hr lam ha s (rbl b.rest) b.rest n (k+1) rfl (by omega) (by omega) (by omega)
  have hp:=agP (hv.ag _ _ ha)
  obtain⟨v,h1,h2⟩:=jq s b.stacks a.level hp.2.1.1 hp.2.1.2
  rw [Ap]
  grind [jM,Bh,K6,w64,hit]
theorem mW {A:List Agent} {a:Agent} (hv:Vg A) (r:Reading) (hr:r.net=⟨A⟩) (lam:Int) (ha:at? A lam=some a) (s:Stacks) (b:Option ReadBinder) (hb:(rbl b).length ≤100000):CQ r lam s b=some (K6 lam a.level.toNat s 0 (rbl b)):=by
 grind [CQ,XH,Af]
theorem Stacks.lst_le {s:Stacks} {e:Nat} (h:s.Fit e):∀x ∈ s.lst,x.length≤e:=by
 intro x hx
 obtain⟨o,ho,rfl⟩:=List.mem_map.1 hx
 rw [List.length_reverse]
 exact(h o ho).1
theorem XI {A:List Agent} {a:Agent} (lam:Int) (ha:at? A lam=some a) (s:Stacks) (all:List (Int × Stacks)) (hall:all.length≤100000) (hfit:∀x ∈ all,x.2.Fit 100000):∀ (l pre:List (Int × Stacks)) (n:Nat),all=pre++l→2*l.length+1≤n→
  Aq n lam (all.map (sbOf A)).reverse (s.lst.take a.level.toNat) ((l.length:Int) - 1)=some (K6 lam a.level.toNat s pre.length l)
 | [],pre,n,h,hn=>by
  obtain⟨n,rfl⟩:∃m,n=m+1:=⟨n - 1,by omega⟩
  rw [Aq,if_neg (by simp)]
  rfl
 | x::l,pre,n,h,hn=>by
  rw [List.length_cons] at hn
  obtain⟨n,rfl⟩:∃m,n=m+2:=⟨n - 2,by omega⟩
  have G:=XI lam ha s all hall hfit l (pre++[x]) n (by rw [h]; simp) (by omega)
  have p:at? (all.map (sbOf A)).reverse (((x::l).length :Int) - 1)=some (sbOf A x):=by
   have e:(all.map (sbOf A)).reverse =(l.map (sbOf A)).reverse ++sbOf A x::(pre.map (sbOf A)).reverse :=by rw [h]; simp
   have C:((x::l).length :Int) - 1=(((l.map (sbOf A)).reverse.length :Nat):Int):=by simp
   rw [C]
   exact AU e
  have u:all.length=pre.length+(l.length+1):=by rw [h]; simp
  have F:((x::l).length :Int)=(l.length:Int)+1:=by simp
  have q:∀v,BJ (n+1) lam (all.map (sbOf A)).reverse (((x::l).length :Int) - 1) (s.lst.take a.level.toNat) v=some (if v=true then (pre.length:Int) else K6 lam a.level.toNat s (pre.length+1) l):=fun v=>by
   rw [BJ]
   grind [w64]
  rw [Aq,if_pos (by simp),p,AA,q,K6,hit]
  by_cases e:x.1 =lam
  ·rw [if_pos (decide_eq_true (show (sbOf A x).agent =lam from e)),AA,decide_eq_true e,Bool.true_and]
   have j:(sbOf A x).stacks =x.2.lst.take a.level.toNat:=by
    unfold sbOf; rw [e,aA ha]
   obtain⟨v,h1,h2⟩:=RJ (x.2.lst.take a.level.toNat) (s.lst.take a.level.toNat) (by rw [List.length_take,Stacks.lst_len]; grind) fun y hy=>by
    have:=Stacks.lst_le (hfit x (by rw [h]; simp)) y (List.mem_of_mem_take hy)
    grind
   rw [j,h1,AA,q]
   grind
  ·rw [if_neg (by rw [decide_eq_true_eq]; exact e),decide_eq_false e,Bool.false_and]
theorem aB (s:Stacks) (lv:Int) (h0:0≤lv) (h1:lv≤8):H1 s.lst lv=some (s.lst.take lv.toNat):=by
 unfold H1 cutL
 rw [if_pos ⟨by omega,by omega,by rw [Stacks.lst_len]; omega⟩,AA,Int.toNat_zero,List.drop_zero,Int.sub_zero]
theorem mX {A:List Agent} {a:Agent} (hv:Vg A) (w:L16Walk) (hw:w.n=⟨A⟩) (lam:Int) (ha:at? A lam=some a) (s:Stacks) (all:List (Int × Stacks)) (hall:all.length≤100000) (hfit:∀x ∈ all,x.2.Fit 100000):
  Dh w lam s.lst (all.map (sbOf A)).reverse =some (K6 lam a.level.toNat s 0 all):=by
 have hp:=agP (hv.ag _ _ ha)
 have:=XI lam ha s all hall hfit all [] fuel rfl (by rw [Af]; omega)
 grind [Dh,aB,w64]
def conS (n:Nat):List Int:=(List.range (n - 1)).map fun t=>(1:Int)+((t:Nat):Int)
theorem js (n:Nat):(conS n).length =n - 1:=by grind [conS]
theorem jt {n:Nat} {x:Int} (h:x ∈ conS n):1≤x∧x<n:=by
 grind [conS]
def planB (a:Agent) (slot:Int):Int × List Int:=
 if a.kind=2∧slot=0 then (4,[2]) else if a.kind=2∧slot=1 then (1,[]) else if a.kind=3∧slot=2 then (5,[0,1]) else if a.kind=6 then (2,[])
 else if a.kind=7∧slot=2 then (3,[0,1]) else if a.kind=8∧slot=1 then (3,[0]) else if a.kind=9∧slot=0 then (8,conS a.ports.length)
 else if a.kind=10∧slot=1 then (9,[0]) else if a.kind=11∧slot=1 then (10,[0]) else if a.kind=12 then (11,[]) else (0,[])
theorem Mt (i:Int) (j:Nat):(List.range (j+1)).map (fun t=>i+((t:Nat):Int))=i::(List.range j).map fun t=>i+1+((t:Nat):Int):=by
 rw [List.range_succ_eq_map,List.map_cons,List.map_map]
 congr 1
 ·simp
 grind [List.map_congr_left]
theorem aC (a:Agent):∀ (j:Nat) (i:Int) (n:Nat) (acc:List Int),i+j=(a.ports.length:Int)→0≤i→a.ports.length≤100→j<n→acc.length+j≤1000→CX n a acc i=some (8,acc++(List.range j).map fun t=>i+((t:Nat):Int))
 |0,i,n,acc,h,h0,hl,hn,hacc=>by
  obtain⟨n,rfl⟩:∃m,n=m+1:=⟨n - 1,by omega⟩
  rw [CX,if_neg (by grind)]
  simp
 |j+1,i,n,acc,h,h0,hl,hn,hacc=>by
  obtain⟨n,rfl⟩:∃m,n=m+1:=⟨n - 1,by omega⟩
  rw [CX,if_pos (by grind),A0 (by grind),AA,w64 (by omega) (by omega),aC a j (i+1) n (acc++[i]) (by omega) (by omega) hl (by omega) (by grind),Mt]
  simp
theorem XJ (a:Agent):∀ (j:Nat) (i:Int) (n:Nat) (acc:List Int),i+j=(a.ports.length:Int)→0≤i→a.ports.length≤100→j<n→acc.length+j≤1000→A3 n a acc i=some (⟨8,a.value,[],[]⟩,acc++(List.range j).map (fun t=>i+((t:Nat):Int)),true)
 |0,i,n,acc,h,h0,hl,hn,hacc=>by
  obtain⟨n,rfl⟩:∃m,n=m+1:=⟨n - 1,by omega⟩
  rw [A3,if_neg (by grind)]
  simp
 |j+1,i,n,acc,h,h0,hl,hn,hacc=>by
  obtain⟨n,rfl⟩:∃m,n=m+1:=⟨n - 1,by omega⟩
  rw [A3,if_pos (by grind),A0 (by grind),AA,w64 (by omega) (by omega),XJ a j (i+1) n (acc++[i]) (by omega) (by omega) hl (by omega) (by grind),Mt]
  simp
theorem mY (a:Agent) (h:agB a=true) (slot:Int):Ks a slot=some (planB a slot):=by
 have hp:=agP h
 have j:CX fuel a [] 1=some (8,conS a.ports.length):=by
  rw [aC a (a.ports.length - 1) 1 fuel [] (by omega) (by omega) (by omega) (by rw [Af]; omega) (by grind)]
  rfl
 unfold planB
 by_cases s0:slot=0 <;> by_cases s1:slot=1 <;> by_cases s2:slot=2
 all_goals try omega
 all_goals
  rcases kind_cases a.kind with h|h|h|h|h|h|h|h|h|h|h|h|h
  all_goals first|(simp [Ks,HT,HR,HQ,HO,HN,HM,HL,GS,h,s0,s1,s2,j]; done)|omega
def U5 (a:Agent) (k:Int):Int:=if k=2∨k=3∨k=8∨k=11 then a.value else 0
def Sl (a:Agent) (k:Int):List Int:=if k=9∨k=10 then a.data else []
def BL (a:Agent) (slot v:Int):Core × List Int × Bool:=
 if (planB a slot).1 =0 then (⟨0,0,[],[]⟩,[],false) else if (planB a slot).1 =1 then (⟨1,v,[],[]⟩,[],decide (0≤v))
 else (⟨(planB a slot).1,U5 a (planB a slot).1,Sl a (planB a slot).1,[]⟩,(planB a slot).2,true)
theorem ju {A:List Agent} {a:Agent} (hv:Vg A) (r:Reading) (hr:r.net=⟨A⟩) (p:Port) (ha:at? A p.agent=some a) (s:Stacks) (b:Option ReadBinder) (v:Int) (hvar:CQ r p.agent s b=some v):FH r p s b=some (BL a p.slot v):=by
 have hp:=agP (hv.ag _ _ ha)
 have q:A3 fuel a [] 1=some (⟨8,a.value,[],[]⟩,conS a.ports.length,true):=by
  rw [XJ a (a.ports.length - 1) 1 fuel [] (by omega) (by omega) (by omega) (by rw [Af]; omega) (by grind)]
  rfl
 have j:An a.data=some a.data:=by
  unfold An
  rw [A0 (by grind),AA,List.nil_append]
 unfold FH BL planB
 obtain⟨u,slot⟩:=p
 simp only at ha hvar ⊢
 rw [hr,show (Net.mk A).agents =A from rfl,ha,AA]
 by_cases s0:slot=0 <;> by_cases s1:slot=1 <;> by_cases s2:slot=2
 all_goals try omega
 all_goals
  rcases kind_cases a.kind with h|h|h|h|h|h|h|h|h|h|h|h|h
  all_goals first|omega|(simp [Dg,Df,De,Dd,Dc,Db,Da,Cz,NS,Gq,Hv,U5,Sl,h,s0,s1,s2,q,j,hvar]; done)
theorem QA (w:L16Walk) (c:Int) (h:w.code=0):BD w c=some (⟨0,0,[],[]⟩,⟨w.n,w.steps,w.nodes,w.entered,w.origins,w.labels,c⟩):=by
 unfold BD
 rw [if_pos (by simpa using h)]
theorem aD (w:L16Walk) (ag d:Int) (lab:ByteArray) (ho:w.origins.length≤100000) (hl:w.labels.length≤100000) (hk:0≤w.nodes∧w.nodes≤1000):
  Ef w ag d lab=some (decide (w.nodes<400)&&decide (d≤80),⟨w.n,w.steps,w.nodes+1,w.entered,w.origins++[ag],w.labels++[lab],w.code⟩):=by
 unfold Ef
 rw [A0 (by simp [Big]; omega),AA,A0 (by simp [Big]; omega),AA,w64 (by omega) (by omega)]
 by_cases h:w.nodes<400
 ·rw [if_pos (by simp; omega),decide_eq_true h,Bool.true_and]
 ·rw [if_neg (by simp; omega),decide_eq_false h,Bool.false_and]
theorem aE (r:Reading) (ag d:Int) (lab:ByteArray) (ho:r.origins.length≤100000) (hl:r.labels.length≤100000) (hk:0≤r.nodes∧r.nodes≤400):
  Ce r ag lab d=some (if (decide (r.nodes<400)&&decide (d≤80))=true then (0,⟨r.net,r.entered,r.nodes+1,r.origins++[ag],r.times,r.labels++[lab]⟩) else (4,r)):=by
 unfold Ce
 have h1:∀b,Cp r ag lab b=some (if b=true then (4,r) else (0,⟨r.net,r.entered,r.nodes+1,r.origins++[ag],r.times,r.labels++[lab]⟩)):=fun b=>by
  unfold Cp
  rw [A0 (by simp [Big]; omega),AA,A0 (by simp [Big]; omega),AA,w64 (by omega) (by omega)]
  cases b <;> rfl
 rw [h1,h1]
 by_cases h:r.nodes=400
 ·have h2:¬r.nodes<400:=by omega
  rw [if_pos (by simpa using h),decide_eq_false h2,Bool.false_and]
  rfl
 ·have h2:r.nodes<400:=by omega
  rw [if_neg (by simpa using h),decide_eq_true h2,Bool.true_and]
  by_cases h3:d≤80
  ·have j:¬ 80<d:=by omega
   simp [h3,j]
  ·have j:80<d:=by omega
   simp [h3,j]
theorem jv {A:List Agent} {a:Agent} (r:Reading) (hr:r.net=⟨A⟩) (p:Port) (ha:at? A p.agent=some a) (ht:r.times.length=A.length) (he:0≤r.entered∧r.entered≤4000):
  (r.entered=4000→∃r',Do r p=some (4,r'))∧(r.entered<4000→∃T,T.length=A.length∧Do r p=some (0,⟨⟨A⟩,r.entered+1,r.nodes,r.origins,T,r.labels⟩)):=by
 obtain⟨x,hx⟩:=Jl (l:=r.times) (i:=p.agent) (J1 ha).1 (by rw [ht]; exact(J1 ha).2)
 have j:IntKind.i64.wrap (r.entered+1)=r.entered+1:=w64 (by omega) (by omega)
 have h1:∀b,∃T,T.length=A.length∧Br r p b=some (0,⟨⟨A⟩,r.entered+1,r.nodes,r.origins,T,r.labels⟩):=fun b=>by
  unfold Br
  rw [hx,AA,AA,j,hr]
  cases b with
  |true=>exact⟨r.times.set p.agent.toNat (IntKind.i64.wrap (x+1)),by rw [List.length_set,ht],rfl⟩
  |false=>exact⟨_,ht,rfl⟩
 unfold Do
 rw [j]
 refine⟨fun h=>?_,fun h=>?_⟩
 ·rw [if_pos (by simp; omega)]
  exact⟨_,rfl⟩
 ·rw [if_neg (by simp; omega),hr,show (Net.mk A).agents =A from rfl,ha,AA]
  split
  ·split
   ·exact h1 _
   ·exact h1 _
  ·exact h1 _
theorem o6 (n:Nat) (a0:L16Walk) (a3:List L16Binder) (d e:Int) (s:Stacks) (ag slot:Int) (E:List Int) (lab:ByteArray) (a:Agent) (ha:agB a=true) (hb:a3.length≤100000) (h0:(planB a slot).1 ≠0) (h1:(planB a slot).1 ≠1):
  ∃m,n≤m∧m≤n+2∧(if (decide ((planB a slot).1 =2))=true then (AO (n+3) a0 a3 d e s.lst ag slot E lab a (planB a slot) (decide ((planB a slot).1 =2))) else (if (decide ((planB a slot).1 =3))=true then (AO (n+3) a0 a3 d e s.lst ag slot E lab a (planB a slot) (decide ((planB a slot).1 =3))) else (if (decide ((planB a slot).1 =8))=true then (AO (n+3) a0 a3 d e s.lst ag slot E lab a (planB a slot) (decide ((planB a slot).1 =8))) else (AO (n+3) a0 a3 d e s.lst ag slot E lab a (planB a slot) (decide ((planB a slot).1 =11))))))=
   Ai m a0 d e s.lst ag slot E lab a (planB a slot) (if (planB a slot).1 =4 then a3++[⟨ag,s.lst.take a.level.toNat⟩] else a3) (U5 a (planB a slot).1) (Sl a (planB a slot).1):=by
 have hp:=agP ha
 have hk:(planB a slot).1 =0∨(planB a slot).1 =1∨(planB a slot).1 =2∨(planB a slot).1 =3∨(planB a slot).1 =4∨(planB a slot).1 =5∨(planB a slot).1 =8∨(planB a slot).1 =9∨(planB a slot).1 =10∨(planB a slot).1 =11:=by
  unfold planB
  repeat' split
  all_goals simp
 have hd:FG a.data=some a.data:=X7 _ (by unfold Big; omega)
 have q:=aB s a.level hp.2.1.1 hp.2.1.2
 have p:app? [] a3=some a3:=by rw [A0 (by simp [Big]; omega),List.nil_append]
 have j:app? a3 [(⟨ag,s.lst.take a.level.toNat⟩:L16Binder)] =some (a3++[⟨ag,s.lst.take a.level.toNat⟩]):=A0 (by simp [Big]; omega)
 generalize planB a slot=pl at*
 obtain⟨k,sl⟩:=pl
 simp only at h0 h1 hk ⊢
 rcases hk with h|h|rfl|rfl|rfl|rfl|rfl|rfl|rfl|rfl
 ·exact absurd h h0
 ·exact absurd h h1
 ·exact⟨n+2,by omega,by omega,by simp [AO,U5,Sl]⟩
 ·exact⟨n+2,by omega,by omega,by simp [AO,U5,Sl]⟩
 ·exact⟨n+1,by omega,by omega,by simp [AO,BA,U5,Sl,hd,q,p,j]⟩
 ·exact⟨n+1,by omega,by omega,by simp [AO,BA,U5,Sl,hd,q,p,j]⟩
 ·exact⟨n+2,by omega,by omega,by simp [AO,U5,Sl]⟩
 ·exact⟨n+1,by omega,by omega,by simp [AO,BA,U5,Sl,hd,q,p,j]⟩
 ·exact⟨n+1,by omega,by omega,by simp [AO,BA,U5,Sl,hd,q,p,j]⟩
 ·exact⟨n+2,by omega,by omega,by simp [AO,U5,Sl]⟩
theorem cS {a:Agent} (h:agB a=true) (slot:Int):(∀x ∈ (planB a slot).2,∃q,at? a.ports x=some q)∧(planB a slot).2.length ≤4:=by
 have hp:=agP h
 have key:∀x:Int,0≤x→x<(a.ports.length:Int)→∃q,at? a.ports x=some q:=fun x h0 h1=>Jl h0 h1
 unfold planB
 repeat' split
 all_goals
  constructor
  ·intro x hx
   first
   |(have:=jt hx; exact key x (by omega) (by omega))
   |(simp at hx; done)
   |(simp only [List.mem_cons,List.not_mem_nil,or_false] at hx; exact key x (by omega) (by omega))
  ·first
   |(simp; done)
   |(rw [js]; omega)
theorem cU {a:Agent} {slot v:Int} (h:(BL a slot v).2.2 =true):(planB a slot).1 ≠0∧(BL a slot v).1.kind =(planB a slot).1 ∧(BL a slot v).1.kids =[] ∧((planB a slot).1 ≠1→(BL a slot v).2.1 =(planB a slot).2)∧((planB a slot).1 =1→(BL a slot v).2.1 =[] ∧(planB a slot).2 =[]):=by
 have h1:(planB a slot).1 =1→(planB a slot).2 =[] :=by
  unfold planB
  repeat' split
  all_goals simp
 unfold BL at h ⊢
 grind
theorem j19_node {A:List Agent} {a:Agent} (hv:Vg A) (n:Nat) (w:L16Walk) (hwn:w.n=⟨A⟩) (hwc:w.code=0) (all:List (Int × Stacks)) (hall:all.length≤100000) (hfit:∀x ∈ all,x.2.Fit 100000) (d e:Int) (s:Stacks) (pa ps:Int) (lab:ByteArray) (E:List Int) (ha:at? A pa=some a) (hk:a.kind≠4) (he:0≤e∧e≤4000):
  ((BL a ps (K6 pa a.level.toNat s 0 all)).2.2 =false∧Ay (n+5) w (all.map (sbOf A)).reverse d e s.lst pa ps lab a E=some (⟨0,0,[],[]⟩,⟨⟨A⟩,e+1,w.nodes,E,w.origins,w.labels,13⟩))∨
  ((BL a ps (K6 pa a.level.toNat s 0 all)).2.2 =true∧∃m,n≤m∧Ay (n+5) w (all.map (sbOf A)).reverse d e s.lst pa ps lab a E=
   Ai m w d e s.lst pa ps E lab a (planB a ps) (if (planB a ps).1 =4 then (all.map (sbOf A)).reverse ++[⟨pa,s.lst.take a.level.toNat⟩] else (all.map (sbOf A)).reverse) (BL a ps (K6 pa a.level.toNat s 0 all)).1.value (BL a ps (K6 pa a.level.toNat s 0 all)).1.data):=by
 have q:IntKind.i64.wrap (e+1)=e+1:=w64 (by omega) (by omega)
 have j:at? w.n.agents pa=some a:=by rw [hwn]; exact ha
 have u:∀st nd en og lb,BD (⟨⟨A⟩,st,nd,en,og,lb,0⟩:L16Walk) 13=some (⟨0,0,[],[]⟩,⟨⟨A⟩,st,nd,en,og,lb,13⟩):=fun _ _ _ _ _=>QA _ _ rfl
 rw [show n+5=(n+4)+1 from rfl,Ay,if_pos (by grind),j,AA,mY a (hv.ag _ _ ha),AA,hwn,hwc,q]
 unfold BL
 by_cases h0:(planB a ps).1 =0
 ·grind
 rw [if_neg h0,if_neg (show ¬decide ((planB a ps).1 =0)=true by grind)]
 by_cases h1:(planB a ps).1 =1
 ·rw [if_pos h1,if_pos (decide_eq_true h1),mX hv _ rfl pa ha s all hall hfit,AA]
  grind
 ·right
  rw [if_neg h1,if_neg (show ¬decide ((planB a ps).1 =1)=true by grind)]
  obtain⟨m,p,-,hm⟩:=o6 (n+1) w (all.map (sbOf A)).reverse d e s pa ps E lab a (hv.ag _ _ ha) (by grind) h0 h1
  grind
structure Szs (A:List Agent) (e k:Int) (E O T:List Int) (L:List ByteArray):Prop where
 he:0≤e∧e≤4000
 hk:0≤k∧k≤400
 hE:E.length≤Int.toNat e
 hO:O.length=Int.toNat k
 hL:L.length=Int.toNat k
 hT:T.length=A.length
def aF (A:List Agent) (e0 k0:Int) (ri:Core × Int × Reading) (rs:Core × L16Walk):Prop:=
 (ri.2.1 ≠0∧rs.2.code =ri.2.1 ∧rs.2.n =⟨A⟩)∨
 ∃c e k E O T L,ri=(c,0,⟨⟨A⟩,e,k,O,T,L⟩)∧rs=(c,⟨⟨A⟩,e,k,E,O,L,0⟩)∧Szs A e k E O T L∧e0<e∧k0<k∧(c.sz:Int)+1≤5*(k - k0)
def o7 (A:List Agent) (m:Nat):Prop:=∀ (r:Reading) (w:L16Walk) (e k d:Int) (E O T:List Int) (L:List ByteArray) (p:Port) (s:Stacks) (b:Option ReadBinder) (lab:ByteArray) (fi fs:Nat),
 r.net=⟨A⟩→w.n=⟨A⟩→w.nodes=k→w.origins=O→w.labels=L→w.code=0→4000 - e≤m→Szs A e k E O T L→1≤d→d≤81→cR A p→s.Fit e.toNat→(rbl b).length ≤d.toNat→(∀x ∈ rbl b,x.2.Fit 100000)→(lab.size:Int)≤50*e→
 20*m+20≤fi→20*m+20≤fs→
 ∃ri rs,Be fi r b d e k O T L p.agent p.slot s.e0 s.e1 s.e2 s.e3 s.e4 s.e5 s.e6 s.e7 s.e8 lab=some ri∧A9 fs w ((rbl b).map (sbOf A)).reverse d e E s.lst p.agent p.slot lab=some rs∧aF A e k ri rs
theorem skip {A:List Agent} {a:Agent} (d:Int) (st:List (List Int)) (sb:List L16Binder) (va:Int) (da:List Int) (pl:Int × List Int) (e k:Int) (E O:List Int) (L:List ByteArray) (code:Int) (hc:code≠0) (hl:pl.2.length ≤10):
  ∀ (post pre:List Int) (K:List Core) (n:Nat),pl.2 =pre++post→(∀x ∈ post,∃q,at? a.ports x=some q)→K.length+post.length≤100→post.length+5≤n→
  ∃c,Ao n d st sb va da a pl A e k E O L code K (pre.length:Int)=some (c,⟨⟨A⟩,e,k,E,O,L,code⟩)
 | [],pre,K,n,h,hp,hK,hn=>by
  obtain⟨n,rfl⟩:∃m,n=m+1:=⟨n - 1,by omega⟩
  rw [Ao,Al h,if_neg (by simp)]
  grind
 |x::post,pre,K,n,h,hp,hK,hn=>by
  simp only [List.length_cons] at hK hn
  obtain⟨n,rfl⟩:∃m,n=m+3:=⟨n - 3,by omega⟩
  obtain⟨q,j⟩:=hp x (by simp)
  rw [Ao,if_pos (Ah h),AU h,AA,j,AA,show n+2=(n+1)+1 from rfl,B7,A9,if_pos (by grind),AA,A0 (by grind),AA,AN h (by grind)]
  exact skip d st sb va da pl e k E O L code hc hl post (pre++[x]) _ (n+1+1) (AM h) (fun y hy=>hp y (List.mem_cons_of_mem _ hy)) (by grind) (by omega)
theorem kids {A:List Agent} {a:Agent} (hv:Vg A) {m:Nat} (ih:o7 A m) (r:Reading) (hr:r.net=⟨A⟩) (pa ps:Int) (ha:at? A pa=some a) (s:Stacks) (b:Option ReadBinder) (d:Int) (hd:1≤d∧d≤80) (sh:Core × List Int × Bool) (hsl:sh.2.1.length ≤10) (e0 k0:Int)
  (hb:(rbl b).length ≤d.toNat+1) (hbf:∀x ∈ rbl b,x.2.Fit 100000):
  ∀ (post pre:List Int) (e k:Int) (E O T:List Int) (L:List ByteArray) (K:List Core) (j fs:Nat),sh.2.1 =pre++post→4000 - e≤m→Szs A e k E O T L→s.Fit e.toNat→(∀x ∈ post,∃q,at? a.ports x=some q)→e0<e→k0<k→((sh.1.data.length +Core.szs K:Nat):Int)+1≤5*(k - k0)→K.length+post.length≤100→
   post.length+20*m+24≤j→post.length+20*m+24≤fs→
   ∃u rs,Bf j r d pa ps s.e0 s.e1 s.e2 s.e3 s.e4 s.e5 s.e6 s.e7 s.e8 b sh e k O T L K (pre.length:Int)=some u∧Ao fs d s.lst ((rbl b).map (sbOf A)).reverse sh.1.value sh.1.data a (sh.1.kind,sh.2.1) A e k E O L 0 K (pre.length:Int)=some rs∧aF A e0 k0 u rs
 | [],pre,e,k,E,O,T,L,K,j,fs,h,hm,hz,hs,hp,he,hk,hK,hKl,hfi,hfs=>by
  obtain⟨j,rfl⟩:∃m,j=m+1:=⟨j - 1,by omega⟩
  obtain⟨fs,rfl⟩:∃m,fs=m+1:=⟨fs - 1,by omega⟩
  rw [Bf,Al h,if_neg (by simp),Ao,Al (l:=(sh.1.kind,sh.2.1).2) h,if_neg (by simp)]
  refine⟨_,_,rfl,rfl,.inr ⟨⟨sh.1.kind,sh.1.value,sh.1.data,K⟩,e,k,E,O,T,L,by rw [hr],rfl,hz,he,hk,?_⟩⟩
  rw [Core.sz_eq]
  exact hK
 | x::post,pre,e,k,E,O,T,L,K,j,fs,h,hm,hz,hs,hp,he,hk,hK,hKl,hfi,hfs=>by
  simp only [List.length_cons] at hKl hfi hfs
  obtain⟨j,rfl⟩:∃m,j=m+2:=⟨j - 2,by omega⟩
  obtain⟨fs,rfl⟩:∃m,fs=m+2:=⟨fs - 2,by omega⟩
  obtain⟨q,p⟩:=hp x (by simp)
  obtain⟨u,rs,h1,h2,h3⟩:=ih ⟨⟨A⟩,e,k,O,T,L⟩ ⟨⟨A⟩,e,k,E,O,L,0⟩ e k (d+1) E O T L q s b (ByteArray.mk #[]) j fs rfl rfl rfl rfl rfl rfl hm hz (by omega) (by omega) (hv.pr _ _ _ _ ha p) hs (by omega) hbf (by have:=hz.he; show ((0:Nat):Int)≤_; omega) (by omega) (by omega)
  rw [Bf,if_pos (Ah h),AU h,AA,hr,P7 ha p,AA,Cf,w64 (n:=d+1) (by omega) (by omega),h1,AA]
  rw [Ao,if_pos (Ah (l:=(sh.1.kind,sh.2.1).2) h),AU (l:=(sh.1.kind,sh.2.1).2) h,AA,p,AA,B7,w64 (n:=d+1) (by omega) (by omega),h2,AA,AN h (by grind),A0 (b:=[rs.1]) (by grind),AA]
  rcases h3 with ⟨c1,c2,c3⟩|⟨c,e',k',E',O',T',L',rfl,rfl,hz',he',hk',hsz⟩
  ·obtain⟨c,v⟩:=skip (A:=A) (a:=a) d s.lst ((rbl b).map (sbOf A)).reverse sh.1.value sh.1.data (sh.1.kind,sh.2.1) rs.2.steps rs.2.nodes rs.2.entered rs.2.origins rs.2.labels rs.2.code (by rw [c2]; exact c1) hsl post (pre++[x]) (K++[rs.1]) (fs+1) (AM h) (fun y hy=>hp y (List.mem_cons_of_mem _ hy)) (by grind) (by omega)
   rw [c3,show (Net.mk A).agents =A from rfl,v,if_pos (by grind)]
   exact⟨_,_,rfl,rfl,.inl ⟨c1,c2,rfl⟩⟩
  ·rw [if_neg (by simp),A0 (by grind),AA]
   refine kids hv ih r hr pa ps ha s b d hd sh hsl e0 k0 hb hbf post (pre++[x]) e' k' E' O' T' L' (K++[c]) (j+1) (fs+1) (AM h) (by omega) hz' (hs.mono (by omega)) (fun y hy=>hp y (List.mem_cons_of_mem _ hy)) (by omega) (by omega) ?_ (by grind) (by omega) (by omega)
   rw [Core.szs_append]
   grind [Core.szs]
set_option maxHeartbeats 2000000
theorem o8 (n:Nat) (w:L16Walk) (sb:List L16Binder) (d e:Int) (E:List Int) (st:List (List Int)) (pa ps:Int) (lab:ByteArray) (a:Agent) (hE:E.length≤100000):
  ∃E':List Int,E'.length≤E.length+1∧(if (!decide (a.kind=2))=true then (BX (n+1) w sb d e E st pa ps lab a true) else (BX (n+1) w sb d e E st pa ps lab a (!decide (ps=1))))=Ay n w sb d e st pa ps lab a E':=by
 grind [BX,A0]
theorem gO:(ByteArray.mk #[46,120,59]).size =3:=rfl
theorem gP {A:List Agent} {a:Agent} (hv:Vg A) {m:Nat} (ih:o7 A m) (U fs:Nat) (hfi:20*m+30≤U) (hfs:20*m+30≤fs) (r:Reading) (hr:r.net=⟨A⟩) (w:L16Walk) (hwn:w.n=⟨A⟩) (e k d:Int) (E O T:List Int) (L:List ByteArray) (hwk:w.nodes=k) (hwo:w.origins=O) (hwl:w.labels=L) (hwc:w.code=0)
  (hm:4000 - (e+1)≤m) (he:0≤e) (hz:Szs A (e+1) k E O T L) (hd:1≤d∧d≤81) (pa ps:Int) (ha:at? A pa=some a) (s:Stacks) (hs:s.Fit (e+1).toNat) (b:Option ReadBinder) (hb:(rbl b).length ≤d.toNat) (hbf:∀x ∈ rbl b,x.2.Fit 100000) (lab:ByteArray) (v:Int) (hsh:(BL a ps v).2.2 =true):
  ∃ri rs,((Ce (⟨⟨A⟩,e+1,k,O,T,L⟩:Reading) pa lab d).bind fun j=>(if (!decide (j.1 =0))=true then (some ((⟨0,0,[],[]⟩:Core),j.1,(⟨r.net,j.2.entered,j.2.nodes,j.2.origins,j.2.times,j.2.labels⟩:Reading))) else ((at? r.net.agents pa).bind fun F=>(if (decide (F.kind=8))=true then ((Hw pa).bind fun J=>((He J (ByteArray.mk #[46,120,59])).bind fun G=>((Ce (⟨r.net,j.2.entered,j.2.nodes,j.2.origins,j.2.times,j.2.labels⟩:Reading) (-1) G (IntKind.i64.wrap (d+1))).bind fun p=>(if (!decide (p.1 =0))=true then (some ((⟨0,0,[],[]⟩:Core),p.1,(⟨r.net,p.2.entered,p.2.nodes,p.2.origins,p.2.times,p.2.labels⟩:Reading))) else ((at? F.data 0).bind fun W=>((Gq W).bind fun C=>((app? (BL a ps v).1.kids [(⟨C.kind,C.value,[],[]⟩:Core)]).bind fun I=>(Aw U r d pa ps s.e0 s.e1 s.e2 s.e3 s.e4 s.e5 s.e6 s.e7 s.e8 (BL a ps v) p.2.entered p.2.nodes p.2.origins p.2.times p.2.labels b I)))))))) else (if (decide ((BL a ps v).1.kind =4))=true then (Aw U r d pa ps s.e0 s.e1 s.e2 s.e3 s.e4 s.e5 s.e6 s.e7 s.e8 (BL a ps v) j.2.entered j.2.nodes j.2.origins j.2.times j.2.labels (some (⟨pa,(⟨s.e0,s.e1,s.e2,s.e3,s.e4,s.e5,s.e6,s.e7,s.e8⟩:Stacks),b⟩:ReadBinder)) (BL a ps v).1.kids) else (Aw U r d pa ps s.e0 s.e1 s.e2 s.e3 s.e4 s.e5 s.e6 s.e7 s.e8 (BL a ps v) j.2.entered j.2.nodes j.2.origins j.2.times j.2.labels b (BL a ps v).1.kids))))))=some ri∧
   Ai fs w d e s.lst pa ps E lab a (planB a ps) (if (planB a ps).1 =4 then ((rbl b).map (sbOf A)).reverse ++[⟨pa,s.lst.take a.level.toNat⟩] else ((rbl b).map (sbOf A)).reverse) (BL a ps v).1.value (BL a ps v).1.data =some rs∧aF A e k ri rs:=by
 obtain⟨U,rfl⟩:∃x,U=x+1:=⟨U - 1,by omega⟩
 obtain⟨fs,rfl⟩:∃x,fs=x+2:=⟨fs - 2,by omega⟩
 have hp:=agP (hv.ag _ _ ha)
 obtain⟨pp,pl⟩:=cS (hv.ag _ _ ha) ps
 obtain⟨q0,q1,q2,q3,q4⟩:=cU hsh
 have q:(BL a ps v).2.1 =(planB a ps).2 :=by
  grind
 have hdat:(BL a ps v).1.data.length ≤4:=by
  grind [BL,Sl]
 have hk:=hz.hk
 have hO:=hz.hO
 have hL:=hz.hL
 have hw1:IntKind.i64.wrap (e+1)=e+1:=w64 (by omega) (by have:=hz.he; omega)
 have hwd:IntKind.i64.wrap (d+1)=d+1:=w64 (by omega) (by omega)
 have Y:planB a ps=((BL a ps v).1.kind,(BL a ps v).2.1):=by rw [q1,q]
 have u:∀ (b':Option ReadBinder) (k1:Int) (O1:List Int) (L1:List ByteArray) (K:List Core),d≤80→k<k1→k1≤400→O1.length=k1.toNat→L1.length=k1.toNat→((rbl b').length ≤d.toNat+1)→(∀x ∈ rbl b',x.2.Fit 100000)→(((BL a ps v).1.data.length +Core.szs K:Nat):Int)+1≤5*(k1 - k)→K.length≤50→
   ∃ri rs,Aw (U+1) r d pa ps s.e0 s.e1 s.e2 s.e3 s.e4 s.e5 s.e6 s.e7 s.e8 (BL a ps v) (e+1) k1 O1 T L1 b' K=some ri∧Bt (fs+1) d s.lst ((rbl b').map (sbOf A)).reverse (BL a ps v).1.value (BL a ps v).1.data a (planB a ps) A (e+1) k1 E O1 L1 0 K=some rs∧aF A e k ri rs:=by
  intro b' k1 O1 L1 K hd1 hk1 hk2 hO1 hL1 hb1 hb2 hK hKl
  have hlen:(BL a ps v).2.1.length ≤4:=by rw [q]; exact pl
  rw [Aw,Bt,Y]
  exact kids hv ih r hr pa ps ha s b' d ⟨hd.1,hd1⟩ (BL a ps v) (by omega) e k hb1 hb2 (BL a ps v).2.1 [] (e+1) k1 E O1 T L1 K U fs rfl hm ⟨hz.he,by omega,hz.hE,hO1,hL1,hz.hT⟩ hs (by rw [q]; exact pp) (by omega) hk1 hK (by omega) (by omega) (by omega)
 rw [aE _ pa d lab (by grind) (by grind) (by omega),AA]
 rw [show fs+2=(fs+1)+1 from rfl,Ai,hwn,hwk,hwo,hwl,hwc,hw1,aD _ pa d lab (by grind) (by grind) (by grind),AA]
 have c0:¬ ((!decide ((0:Int)=0))=true):=by decide
 have c4:(!decide ((4:Int)=0))=true:=by decide
 have cT:¬ ((!true)=true):=by decide
 have cF:(!false)=true:=rfl
 have cB:¬ (false=true):=by decide
 dsimp only
 by_cases hok:(decide (k<400)&&decide (d≤80))=true
 ·rw [hok,if_pos rfl]
  dsimp only
  rw [if_neg c0,if_neg cT,hr,show (Net.mk A).agents =A from rfl,ha,AA]
  simp only [Bool.and_eq_true,decide_eq_true_eq] at hok
  by_cases h8:a.kind=8
  ·rw [if_pos (decide_eq_true h8),if_pos (decide_eq_true h8)]
   have hpl:(planB a ps).1 ≠4:=by
    grind [planB]
   have hpa:=J1 ha
   have hlen:=hv.len
   have hwf:(Lit.int IntKind.i64 pa).wf =true:=wfI (by omega)
   have hsz:=Ld pa hwf
   obtain⟨x,hx⟩:=Jl (l:=a.data) (i:=0) (by omega) (by rw [hp.2.2.2.2.2.2.2 h8]; omega)
   rw [P4,AA,P5 _ hwf,AA,P6 (by rw [gO]; omega),AA,AA,hwd]
   rw [aE _ (-1) (d+1) _ (by grind) (by grind) (by grind),AA]
   rw [aD _ (-1) (d+1) _ (by grind) (by grind) (by grind),AA]
   dsimp only
   by_cases hok2:(decide (k+1<400)&&decide (d+1≤80))=true
   ·rw [hok2,if_pos rfl]
    dsimp only
    rw [if_neg c0,if_neg cT,hx,AA,AA]
    simp only [Bool.and_eq_true,decide_eq_true_eq] at hok2
    unfold Gq Od
    rw [AA,AA,q2,A0 (by grind),AA,AA,if_neg hpl,List.nil_append]
    exact u b (k+1+1) _ _ _ hok.2 (by omega) (by omega) (by grind) (by grind) (by omega) hbf (by grind [Core.szs,Core.sz_eq]) (by simp)
   ·rw [Bool.eq_false_iff.2 hok2,if_neg cB]
    dsimp only
    rw [if_pos c4,if_pos cF,QA _ _ rfl,AA]
    exact⟨_,_,rfl,rfl,.inl ⟨(by decide:(4:Int)≠0),rfl,rfl⟩⟩
  ·have c8:¬ (decide (a.kind=8))=true:=by grind
   rw [if_neg c8,if_neg c8,q2]
   by_cases h4:(planB a ps).1 =4
   ·rw [if_pos (show (decide ((BL a ps v).1.kind =4))=true by rw [q1]; grind),if_pos h4]
    have hbl:((rbl b).map (sbOf A)).reverse ++[⟨pa,s.lst.take a.level.toNat⟩] =((rbl (some ⟨pa,s,b⟩)).map (sbOf A)).reverse :=by
     rw [P9,List.map_cons,List.reverse_cons]
     grind [sbOf,aA]
    rw [hbl]
    exact u (some ⟨pa,s,b⟩) (k+1) _ _ [] hok.2 (by omega) (by omega) (by grind) (by grind) (by rw [P9,List.length_cons]; grind) (fun x hx=>by
     rw [P9,List.mem_cons] at hx
     rcases hx with rfl|hx
     ·exact hs.mono (by have:=hz.he; omega)
     grind) (by grind [Core.szs]) (by simp)
   ·rw [if_neg (show ¬ (decide ((BL a ps v).1.kind =4))=true by rw [q1]; grind),if_neg h4]
    exact u b (k+1) _ _ [] hok.2 (by omega) (by omega) (by grind) (by grind) (by omega) hbf (by grind [Core.szs]) (by simp)
 ·rw [Bool.eq_false_iff.2 hok,if_neg cB]
  dsimp only
  rw [if_pos c4,if_pos cF,QA _ _ rfl,AA]
  exact⟨_,_,rfl,rfl,.inl ⟨(by decide:(4:Int)≠0),rfl,rfl⟩⟩
theorem aF.mono {A:List Agent} {e0 e1 k0:Int} {ri:Core × Int × Reading} {rs:Core × L16Walk} (h:aF A e1 k0 ri rs) (he:e0≤e1):aF A e0 k0 ri rs:=by
 rcases h with h|⟨c,e,k,E,O,T,L,h1,h2,h3,h4,h5,h6⟩
 ·exact .inl h
 ·exact .inr ⟨c,e,k,E,O,T,L,h1,h2,h3,by omega,h5,h6⟩
theorem jw {A:List Agent} (hv:Vg A):∀m,o7 A m:=by
 intro m
 induction m using Nat.strongRecOn with
 |ind m ih=>
 intro r w e k d E O T L p s b C fi fs U F hwk hwo hwl J hm hz hd1 hd2 hp hs hb hbf hlab hfi hfs
 have hbl:(rbl b).length ≤100000:=by omega
 obtain⟨fi,rfl⟩:∃x,fi=x+1:=⟨fi - 1,by omega⟩
 obtain⟨fs,rfl⟩:∃x,fs=x+8:=⟨fs - 8,by omega⟩
 have hpw:=wfP hv hp
 obtain⟨a,q,I,hq⟩:=hp
 obtain⟨j,u⟩:=p
 dsimp only at I hq hpw ⊢
 have hag:=agP (hv.ag _ _ I)
 have he:=hz.he
 have hk:=hz.hk
 have hent:=jm ⟨j,u⟩ hpw.1 hpw.2.1
 have hesz:=gM ⟨j,u⟩ hpw.1 hpw.2.1
 have hsapp:He C (entB ⟨j,u⟩)=some (C++entB ⟨j,u⟩):=P6 (by omega)
 have hw1:IntKind.i64.wrap (e+1)=e+1:=w64 (by omega) (by omega)
 have G:=jv (a:=a) ⟨r.net,e,k,O,T,L⟩ U ⟨j,u⟩ I hz.hT he
 have c0:¬ ((!decide ((0:Int)=0))=true):=by decide
 have c4:(!decide ((4:Int)=0))=true:=by decide
 have cT:¬ ((!true)=true):=by decide
 have cF:(!false)=true:=rfl
 rw [Be,show fs+8=(fs+7)+1 from rfl,A9,J,if_neg c0,hent.2,AA,hsapp,AA,hw1]
 by_cases h4k:e=4000
 ·obtain⟨r',hr'⟩:=G.1 h4k
  rw [hr',AA,if_pos c4,if_pos (by grind),QA _ _ rfl,AA]
  exact⟨_,_,rfl,rfl,.inl ⟨(by decide:(4:Int)≠0),rfl,F⟩⟩
 have he4:e<4000:=by omega
 obtain⟨m,rfl⟩:∃x,m=x+1:=⟨m - 1,by omega⟩
 obtain⟨Y,hT1,hr'⟩:=G.2 he4
 have hagw:at? w.n.agents j=some a:=by rw [F]; exact I
 have hagr:at? r.net.agents j=some a:=by rw [U]; exact I
 obtain⟨E1,hE1,hj18⟩:=o8 (fs+6) w ((rbl b).map (sbOf A)).reverse d e E s.lst j u (C++entB ⟨j,u⟩) a (by have:=hz.hE; omega)
 have W:((C++entB ⟨j,u⟩).size :Int)≤50*(e+1):=by rw [ByteArray.size_append]; omega
 have hz1:Szs A (e+1) k E1 O Y L:=⟨by omega,hk,by have:=hz.hE; omega,hz.hO,hz.hL,hT1⟩
 rw [hr',AA]
 dsimp only
 rw [if_neg c0,hent.1,AA,hsapp,AA,hagr,AA,if_neg (show ¬decide (4000<e+1)=true by grind),hagw,AA,hj18]
 by_cases hk4:a.kind=4
 · -- a fan
  have hki:¬ (!decide (a.kind=4))=true:=by grind
  have hF:∀st nd en og lb,BD (⟨⟨A⟩,st,nd,en,og,lb,0⟩:L16Walk) 13=some (⟨0,0,[],[]⟩,⟨⟨A⟩,st,nd,en,og,lb,13⟩):=fun _ _ _ _ _=>QA _ _ rfl
  obtain⟨o,ho⟩:=Jl (l:=s.l) (i:=a.level) (by omega) (by rw [Stacks.l_len]; omega)
  have hol:at? s.lst a.level=some (stl o).reverse :=X5 ho
  have hof:=hs o (X6 ho)
  have hlv:s.lst.length≤9:=by rw [Stacks.lst_len]; omega
  have hlv2:a.level<(s.lst.length:Int):=by rw [Stacks.lst_len]; omega
  rw [if_neg hki,Ay,if_neg hki,hol,AA,F,J,hw1]
  by_cases hps:0<u
  ·have hpl:a.ports.length=3:=hag.2.2.2.2.2.1 (.inr (.inr (.inl hk4)))
   obtain⟨q0,hq0⟩:=Jl (l:=a.ports) (i:=0) (by omega) (by omega)
   have hps2:=J1 hq
   obtain⟨t,ht1,ht2,ht3⟩:=o5 (A:=A) ⟨r.net,e+1,k,O,Y,L⟩ U ⟨j,u⟩ I hq0 ho hps (show u≤2 by omega) e.toNat hs
   have hr1:(⟨⟨A⟩,e+1,k,O,Y,L⟩:Reading)=⟨r.net,e+1,k,O,Y,L⟩:=by rw [U]
   rw [if_pos (decide_eq_true hps),X7 _ (by rw [List.length_reverse]; grind),AA,A0 (by grind),AA,XG _ _ _ (by omega) hlv2 hlv,AA,show fs+5=(fs+4)+1 from rfl,Di,hq0,AA,hw1,ht1,AA]
   dsimp only
   rw [if_neg cT,← ht2]
   obtain⟨ri,rs,h1,h2,h3⟩:=ih m (by omega) r w (e+1) k d E1 O Y L q0 t b (C++entB ⟨j,u⟩) fi (fs+4) U F hwk hwo hwl J (by omega) hz1 hd1 hd2 (hv.pr _ _ _ _ I hq0) (ht3.mono (by omega)) hb hbf W (by omega) (by omega)
   exact⟨ri,rs,h1,h2,h3.mono (by omega)⟩
  ·rw [if_neg (show ¬decide (0<u)=true by grind)]
   cases o with
   |none=>
    rw [jo (A:=A) (a:=a) ⟨r.net,e+1,k,O,Y,L⟩ U ⟨j,u⟩ I ho hps,AA]
    dsimp only
    rw [if_pos cF,if_pos (by rfl),hF,AA]
    exact⟨_,_,rfl,rfl,.inl ⟨(by decide:(13:Int)≠0),rfl,rfl⟩⟩
   | some st=>
    rw [K5] at hof
    have hpt:=hof.2 st.port (List.mem_cons_self ..)
    have hln:=hof.1
    rw [List.length_cons] at hln
    have hpl:a.ports.length=3:=hag.2.2.2.2.2.1 (.inr (.inr (.inl hk4)))
    obtain⟨q1,hq1⟩:=Jl (l:=a.ports) (i:=st.port) (by omega) (by omega)
    obtain⟨t,ht1,ht2,ht3⟩:=jp (A:=A) ⟨r.net,e+1,k,O,Y,L⟩ U ⟨j,u⟩ I ho hq1 hps e.toNat hs
    have v:(stl (some st)).reverse =(stl st.rest).reverse ++[st.port] :=by rw [K5,List.reverse_cons]
    have hlen:(((stl (some st)).reverse.length :Nat):Int) - 1=(((stl st.rest).reverse.length :Nat):Int):=by rw [v,List.length_append]; simp
    have hwl1:IntKind.i64.wrap ((((stl (some st)).reverse.length :Nat):Int) - 1)=(((stl st.rest).reverse.length :Nat):Int):=by rw [hlen,w64 (by omega) (by grind)]
    have hcut:cutL (stl (some st)).reverse 0 (((stl st.rest).reverse.length :Nat):Int)=some (stl st.rest).reverse :=by
     unfold cutL
     rw [if_pos ⟨by omega,by omega,by rw [v,List.length_append]; omega⟩,v]
     simp
    rw [if_neg (show ¬decide ((((stl (some st)).reverse.length :Nat):Int)=0)=true by rw [v]; grind),hwl1,AU (l:=(stl (some st)).reverse) (post:=[]) v,AA,hcut,AA,X7 _ (by rw [List.length_reverse]; grind),AA,XG _ _ _ (by omega) hlv2 hlv,AA,hq1,AA,ht1,AA]
    dsimp only
    rw [if_neg cT,← ht2]
    obtain⟨ri,rs,h1,h2,h3⟩:=ih m (by omega) r w (e+1) k d E1 O Y L q1 t b (C++entB ⟨j,u⟩) fi (fs+5) U F hwk hwo hwl J (by omega) hz1 hd1 hd2 (hv.pr _ _ _ _ I hq1) (ht3.mono (by omega)) hb hbf W (by omega) (by omega)
    exact⟨ri,rs,h1,h2,h3.mono (by omega)⟩
 · -- a node
  have hki:(!decide (a.kind=4))=true:=by grind
  have hvar:=mW hv ⟨r.net,e+1,k,O,Y,L⟩ U j I s b hbl
  rw [if_pos hki,ju hv ⟨r.net,e+1,k,O,Y,L⟩ U ⟨j,u⟩ I s b _ hvar,AA]
  have hmm:m<m+1:=Nat.lt_succ_self m
  rcases j19_node hv (fs+1) w F J (rbl b) hbl hbf d e s j u (C++entB ⟨j,u⟩) E1 I hk4 he with ⟨h1,h2⟩|⟨h1,n,hn,h2⟩
  ·rw [h2,h1,if_pos cF]
   exact⟨_,_,rfl,rfl,.inl ⟨(by decide:(13:Int)≠0),rfl,rfl⟩⟩
  ·rw [h2,h1,if_neg cT]
   have:=gP hv (ih m hmm) fi n (by omega) (by omega) r U w F e k d E1 O Y L hwk hwo hwl J (by omega) he.1 hz1 ⟨hd1,hd2⟩ j u I s (hs.mono (by omega)) b hb hbf (C++entB ⟨j,u⟩) (K6 j a.level.toNat s 0 (rbl b)) h1
   rw [← U,hagr] at this
   omega
def Ia:Stacks:=⟨none,none,none,none,none,none,none,none,none⟩
theorem cV:Ia.lst=List.replicate 9 [] :=rfl
theorem U6 (n:Net):∀ (j i:Nat) (m:Nat),i+j=9→j<m→C5 m n (List.replicate i []) (i:Int)=C5 (m - j) n (List.replicate 9 []) 9
 |0,i,m,h,hm=>by
  grind
 |j+1,i,m,h,hm=>by
  obtain⟨m,rfl⟩:∃k,m=k+1:=⟨m - 1,by omega⟩
  rw [C5,if_pos (by grind),A0 (by grind),AA,w64 (by omega) (by omega)]
  have e:List.replicate i ([] :List Int)++[[]] =List.replicate (i+1) [] :=by rw [List.replicate_succ']
  have p:(i:Int)+1=((i+1:Nat):Int):=by omega
  rw [e,p,U6 n j (i+1) m (by omega) (by omega),show m+1 - (j+1)=m - j from by omega]
theorem gQ {n:Net} (hv:n.valid=true) (hs:n.Small):∃j rs,Hy n=some (j.2.2,j.1,j.2.1)∧Ko n=some rs∧aF n.agents 0 0 j rs:=by
 have hg:=Net.valid_vg hv
 obtain⟨A⟩:=n
 dsimp only at hg ⊢
 obtain⟨a,u⟩:=Jl (l:=A) (i:=0) (by omega) (by have:=hg.len; omega)
 have hp:=agP (hg.ag _ _ u)
 obtain⟨q,v⟩:=Jl (l:=a.ports) (i:=0) (by omega) (by omega)
 obtain⟨F,C⟩:∃F,fuel=F+1:=⟨fuel - 1,by rw [Af]⟩
 have p:20*4000+20≤F:=by rw [Af] at C; omega
 obtain⟨j,rs,h1,h2,h3⟩:=jw hg 4000 ⟨⟨A⟩,0,0,[],List.replicate A.length 0,[]⟩ ⟨⟨A⟩,0,0,[],[],[],0⟩ 0 0 1 [] [] (List.replicate A.length 0) [] q Ia none (ByteArray.mk #[]) F F rfl rfl rfl rfl rfl rfl (by omega) ⟨by omega,by omega,by simp,rfl,rfl,by simp⟩ (by omega) (by omega) (hg.pr _ _ _ _ u v) (by
  intro x hx
  simp_all [Stacks.l,Ia,stl]) (by simp [rbl]) (by simp [rbl]) (by show ((0:Nat):Int)≤_; omega) p p
 have J:j.2.2.net =⟨A⟩∨True:=.inr trivial
 refine⟨⟨j.1,j.2.1,⟨⟨A⟩,j.2.2.entered,j.2.2.nodes,j.2.2.origins,j.2.2.times,j.2.2.labels⟩⟩,rs,?_,?_,?_⟩
 ·unfold Hy
  rw [eF _ hs,hv,AA,if_neg (by decide),X8 (by have:=hg.len; grind),AA,P7 u v,AA,C,Cf]
  change Option.bind (Be F ⟨⟨A⟩,0,0,[],List.replicate A.length 0,[]⟩ none 1 0 0 [] (List.replicate A.length 0) [] q.agent q.slot Ia.e0 Ia.e1 Ia.e2 Ia.e3 Ia.e4 Ia.e5 Ia.e6 Ia.e7 Ia.e8 (ByteArray.mk #[])) _=_
  rw [h1,AA]
 ·unfold Ko
  have hb:=U6 ⟨A⟩ 9 0 fuel rfl (by rw [Af]; omega)
  have e0:List.replicate 0 ([] :List Int)=[] :=rfl
  rw [e0,show ((0:Nat):Int)=0 from rfl] at hb
  obtain⟨G,I⟩:∃G,fuel - 9=G+1:=⟨fuel - 10,by rw [Af]⟩
  rw [hb,I,C5,if_neg (by decide)]
  dsimp only
  rw [u,AA,v,AA,C,B7]
  rw [cV] at h2
  have e1:((rbl none).map (sbOf A)).reverse =[] :=rfl
  rw [e1] at h2
  dsimp only
  rw [h2,AA]
 ·rcases h3 with ⟨c1,c2,c3⟩|⟨c,e,k,E,O,T,L,rfl,rfl,hz,he,hk,hsz⟩
  ·exact .inl ⟨c1,c2,c3⟩
  ·exact .inr ⟨c,e,k,E,O,T,L,rfl,rfl,hz,he,hk,hsz⟩
def KF (a b:Agent) (x y:Int):Int:=
 if kcl a b=1∨kcl a b=6∨kcl a b=7 then (if pfi a b=2 then x else y)
 else if kcl a b=5∧(if pfi a b=2 then a else b).kind =8 then (if pfi a b=2 then x else y) else -1
theorem x6 {a b:Agent} (h:pfi a b=2):kcl b a=kcl a b:=by
 have j:ru a.kind a.level b.kind b.level=0∧ru b.kind b.level a.kind a.level≠0:=by
  unfold pfi at h
  by_cases h1:ru a.kind a.level b.kind b.level=0 <;> by_cases h2:ru b.kind b.level a.kind a.level=0 <;> simp_all
 have e:pcl b a=pcl a b:=by simp [pcl,j]
 unfold kcl
 rw [e]
 by_cases h1:Eh a b=true <;> by_cases h2:Eh b a=true <;> simp [h1,h2]
theorem jx {A:List Agent} {x y:Int} {a b:Agent} (ha:at? A x=some a) (hb:at? A y=some b) (h:Two a b):Ee ⟨A⟩ ⟨x,y⟩=some (KF a b x y):=by
 obtain⟨j,h1,h2⟩:=aG ha hb h
 unfold Ee
 rw [h1,AA]
 by_cases h8:kcl a b=8
 ·unfold KF
  cases j <;> simp [Bc,BH,h8]
 ·have h3:=h2 h8
  subst h3
  unfold KF
  by_cases hp:pfi a b=2
  ·simp only [hp,decide_true,if_true,Bc,BH]
   by_cases k1:kcl a b=1
   ·simp [k1]
   by_cases k6:kcl a b=6
   ·simp [k6]
   by_cases k7:kcl a b=7
   ·simp [k7]
   by_cases k5:kcl a b=5
   ·by_cases k8:a.kind=8 <;> simp [k5,ha,AA,k8]
   ·simp [k1,k6,k7,k5]
  ·simp only [hp,decide_false,Bool.false_eq_true,if_false,Bc,BH]
   by_cases k1:kcl a b=1
   ·simp [k1]
   by_cases k6:kcl a b=6
   ·simp [k6]
   by_cases k7:kcl a b=7
   ·simp [k7]
   by_cases k5:kcl a b=5
   ·by_cases k8:b.kind=8 <;> simp [k5,hb,AA,k8]
   ·simp [k1,k6,k7,k5]
theorem jy {A:List Agent} {x y:Int} {a b:Agent} (ha:at? A x=some a) (hb:at? A y=some b) (h:Two a b):FZ ⟨A⟩ ⟨x,y⟩=some (KF a b x y):=by
 unfold FZ LU
 dsimp only
 rw [ha,AA,hb,AA,gR h,AA]
 unfold KF
 by_cases hp:pfi a b=2
 ·rw [if_pos (decide_eq_true hp),AA]
  dsimp only
  rw [hb,AA,ha,AA,Sb h.symm,AA,x6 hp]
  simp only [hp,if_true,CR]
  by_cases k1:kcl a b=1
  ·simp [k1]
  by_cases k6:kcl a b=6
  ·simp [k6]
  by_cases k7:kcl a b=7
  ·simp [k7]
  by_cases k5:kcl a b=5
  ·by_cases k8:a.kind=8 <;> simp [k5,ha,AA,k8]
  ·simp [k1,k6,k7,k5]
 ·rw [if_neg (by simpa using hp),AA]
  dsimp only
  rw [ha,AA,hb,AA,Sb h,AA]
  simp only [hp,if_false,CR]
  by_cases k1:kcl a b=1
  ·simp [k1]
  by_cases k6:kcl a b=6
  ·simp [k6]
  by_cases k7:kcl a b=7
  ·simp [k7]
  by_cases k5:kcl a b=5
  ·by_cases k8:b.kind=8 <;> simp [k5,hb,AA,k8]
  ·simp [k1,k6,k7,k5]
def GJ (con:Int):Int→List Int→List Int
 |_,[] =>[]
 |i,x::l=>if 0≤con∧x=con then i::GJ con (i+1) l else GJ con (i+1) l
theorem U7 (con:Int):∀ (l:List Int) (i:Int),(GJ con i l).length ≤l.length
 | [],_=>by simp [GJ]
 |x::l,i=>by
  have:=U7 con l (i+1)
  rw [GJ]
  split <;> simp only [List.length_cons] <;> omega
theorem Mu (con:Int) (v:Core × L16Walk) (l:List Int) (hv:v.2.origins =l) (hl:l.length≤100000):∀ (post pre:List Int) (acc:List Int) (n:Nat),l=pre++post→2*post.length+1≤n→acc.length≤pre.length→B4 n con v acc (pre.length:Int)=some (acc++GJ con (pre.length:Int) post,v.1,0)
 | [],pre,acc,n,h,hn,ha=>by
  obtain⟨n,rfl⟩:∃m,n=m+1:=⟨n - 1,by omega⟩
  rw [B4,hv,Al h,if_neg (by simp),GJ,List.append_nil]
 | x::post,pre,acc,n,h,hn,ha=>by
  simp only [List.length_cons] at hn
  obtain⟨n,rfl⟩:∃m,n=m+2:=⟨n - 2,by omega⟩
  have j:pre.length+(post.length+1)=l.length:=by rw [h]; simp
  have p:∀b,EK (n+1) con acc (pre.length:Int) v b=some (acc++(if b=true then (pre.length:Int)::GJ con ((pre.length:Int)+1) post else GJ con ((pre.length:Int)+1) post),v.1,0):=fun b=>by
   have e:((List.length (pre++[x]):Nat):Int)=(pre.length:Int)+1:=by simp
   rw [EK]
   cases b with
   |true=>
    rw [if_pos rfl,A0 (by simp [Big]; omega),AA,AN h (by unfold Big; omega),Mu con v l hv hl post (pre++[x]) _ n (AM h) (by omega) (by simp; omega),e,if_pos rfl,List.append_assoc]
    rfl
   |false=>
    rw [if_neg (by simp),AN h (by unfold Big; omega),Mu con v l hv hl post (pre++[x]) _ n (AM h) (by omega) (by simp; omega),e,if_neg (by simp)]
  rw [B4,hv,if_pos (Ah h),AU h,AA,p,p,GJ]
  by_cases h0:0≤con
  ·rw [if_pos (decide_eq_true h0)]
   by_cases hx:x=con <;> simp [h0,hx]
  ·rw [if_neg (by simpa using h0)]
   simp [h0]
theorem Mv (con:Int) (v:Reading × Core × Int) (l:List Int) (hv:v.1.origins =l) (hl:l.length≤100000):∀ (post pre:List Int) (acc:List Int) (n:Nat),l=pre++post→2*post.length+1≤n→acc.length≤pre.length→DJ n v con acc (pre.length:Int)=some (v.2.1,acc++GJ con (pre.length:Int) post,0)
 | [],pre,acc,n,h,hn,ha=>by
  obtain⟨n,rfl⟩:∃m,n=m+1:=⟨n - 1,by omega⟩
  rw [DJ,hv,Al h,if_neg (by simp),GJ,List.append_nil]
 | x::post,pre,acc,n,h,hn,ha=>by
  simp only [List.length_cons] at hn
  obtain⟨n,rfl⟩:∃m,n=m+2:=⟨n - 2,by omega⟩
  have j:pre.length+(post.length+1)=l.length:=by rw [h]; simp
  have p:∀b,Fw (n+1) acc (pre.length:Int) v con b=some (v.2.1,acc++(if b=true then (pre.length:Int)::GJ con ((pre.length:Int)+1) post else GJ con ((pre.length:Int)+1) post),0):=fun b=>by
   have e:((List.length (pre++[x]):Nat):Int)=(pre.length:Int)+1:=by simp
   rw [Fw]
   cases b with
   |true=>
    rw [if_pos rfl,A0 (by simp [Big]; omega),AA,AN h (by unfold Big; omega),Mv con v l hv hl post (pre++[x]) _ n (AM h) (by omega) (by simp; omega),e,if_pos rfl,List.append_assoc]
    rfl
   |false=>
    rw [if_neg (by simp),AN h (by unfold Big; omega),Mv con v l hv hl post (pre++[x]) _ n (AM h) (by omega) (by simp; omega),e,if_neg (by simp)]
  rw [DJ,hv,if_pos (Ah h),AU h,AA,p,p,GJ]
  by_cases h0:0≤con
  ·rw [if_pos (decide_eq_true h0)]
   by_cases hx:x=con <;> simp [h0,hx]
  ·rw [if_neg (by simpa using h0)]
   simp [h0]
theorem agL {a:Agent} (h:agB a=true):levB a.kind a.level=true:=by
 unfold agB at h
 simp only [Bool.and_eq_true] at h
 exact h.1.2
theorem Zm {n:Net} (hv:n.valid=true) (I:n.Small) (p:Pair) (hp:p ∈ prs 1 (n.agents.drop 1)):∃ (con:Int) (c:Core) (m:List Int) (code:Int),FZ n p=some con∧JX n con=some (m,c,code)∧Mn n p=some (c,m,code)∧m.length≤400∧c.sz≤2000:=by
 obtain⟨ri,rs,h1,h2,h3⟩:=gQ hv I
 obtain⟨a,b,j,F,C,G,u⟩:=o9 (Net.valid_vn hv) hp
 have q:Two a b:=⟨agL F,agL C,G,u⟩
 obtain⟨A⟩:=n
 obtain⟨x,y⟩:=p
 have v:=jx j.hx j.hy q
 have J:=jy j.hx j.hy q
 refine⟨KF a b x y,?_⟩
 unfold JX Mn
 rw [J,h2,h1,AA,AA,v]
 rcases h3 with ⟨c1,c2,c3⟩|⟨c,e,k,E,O,T,L,rfl,rfl,hz,he,hk,hsz⟩
 ·have U:(!decide (ri.2.1 =0))=true:=by simpa using c1
  rw [c2,if_pos U,if_pos U]
  exact⟨_,_,_,rfl,rfl,rfl,by simp,by simp [Core.sz,Core.szs]⟩
 ·have W:¬ (!decide ((0:Int)=0))=true:=by decide
  have hO:=hz.hO
  have Y:=hz.hk
  dsimp only
  rw [if_neg W,if_neg W,AA]
  have I:=Mu (KF a b x y) (c,⟨⟨A⟩,e,k,E,O,L,0⟩) O rfl (by omega) O [] [] fuel rfl (by rw [Af]; omega) (by simp)
  have hi:=Mv (KF a b x y) (⟨⟨A⟩,e,k,O,T,L⟩,c,0) O rfl (by omega) O [] [] fuel rfl (by rw [Af]; omega) (by simp)
  have hm:=U7 (KF a b x y) O 0
  exact⟨c,GJ (KF a b x y) 0 O,0,rfl,I,hi,by omega,by omega⟩
end Go.Proofs.YtjnifengdhcojaaGreatDoor.Ab
