/-
  Clusters: every living address has a place of its own. No program is in sight.
-/
import Derived.Test.YtclmbjbbojdojaaGreatPlVk
namespace Go.Proofs.YtclmbjbbojdojaaGreat.Ab
set_option linter.unusedVariables false
set_option maxHeartbeats 1000000
set_option linter.unusedSimpArgs false
open Go.RowKit
theorem Qm:∀ (l:List ShardCell) (i k:Nat) (c:ShardCell),l[i]? =some c→i<k→tot (l.take i)+szC c≤tot (l.take k)
 | [],i,k,c,h,_=>by grind
 |x::l,0,k+1,c,h,_=>by
  grind [tot]
 |x::l,i+1,k+1,c,h,hk=>by
  simp only [List.getElem?_cons_succ] at h
  have:=Qm l i k c h (by omega)
  grind [tot]
theorem NU (l:List ShardCell) (i:Nat) (c:ShardCell) (h:l[i]? =some c):tot (l.take i)+szC c≤tot l:=by
 have:=Qm l i (l.length+(i+1)) c h (by omega)
 rwa [List.take_of_length_le (i:=l.length+(i+1)) (by omega)] at this
theorem OC:∀ (l:List Shard) (i k:Nat) (s:Shard),l[i]? =some s→i<k→totS (l.take i)+tot s.cells≤totS (l.take k)
 | [],i,k,c,h,_=>by grind
 |x::l,0,k+1,c,h,_=>by
  grind [totS]
 |x::l,i+1,k+1,c,h,hk=>by
  simp only [List.getElem?_cons_succ] at h
  have:=OC l i k c h (by omega)
  grind [totS]
theorem Xd (l:List Shard) (i:Nat) (s:Shard) (h:l[i]? =some s):totS (l.take i)+tot s.cells≤totS l:=by
 have:=OC l i (l.length+(i+1)) s h (by omega)
 rwa [List.take_of_length_le (i:=l.length+(i+1)) (by omega)] at this
theorem OD:∀ (l:List Shard) (i k:Nat) (s:Shard),l[i]? =some s→i<k→totV (l.take i)+s.vars.length≤totV (l.take k)
 | [],i,k,c,h,_=>by grind
 |x::l,0,k+1,c,h,_=>by
  grind [totV]
 |x::l,i+1,k+1,c,h,hk=>by
  simp only [List.getElem?_cons_succ] at h
  have:=OD l i k c h (by omega)
  grind [totV]
theorem Xe (l:List Shard) (i:Nat) (s:Shard) (h:l[i]? =some s):totV (l.take i)+s.vars.length≤totV l:=by
 have:=OD l i (l.length+(i+1)) s h (by omega)
 rwa [List.take_of_length_le (i:=l.length+(i+1)) (by omega)] at this
theorem ZP:∀ (l:List ShardCell) (i b:Nat) (c:ShardCell),l[i]? =some c→(offs b l)[i]? =some ((b+tot (l.take i):Nat):Int)
 | [],i,b,c,h=>by grind
 |x::l,0,b,c,h=>by rfl
 |x::l,i+1,b,c,h=>by
  simp only [List.getElem?_cons_succ] at h
  rw [offs,List.getElem?_cons_succ,ZP l i (b+szC x) c h,List.take_succ_cons,tot,Nat.add_assoc]
theorem ZQ:∀ (l:List Shard) (i b:Nat) (s:Shard),l[i]? =some s→(rows b l)[i]? =some (offs (b+totS (l.take i)) s.cells)
 | [],i,b,c,h=>by grind
 |x::l,0,b,c,h=>by
  grind [rows,totS]
 |x::l,i+1,b,c,h=>by
  simp only [List.getElem?_cons_succ] at h
  rw [rows,List.getElem?_cons_succ,ZQ l i (b+tot x.cells) c h,List.take_succ_cons,totS,Nat.add_assoc]
theorem Xf:∀ (r i b:Nat),i<r→(rng b r)[i]? =some ((b+i:Nat):Int)
 |0,i,b,h=>by omega
 |r+1,0,b,h=>by rfl
 |r+1,i+1,b,h=>by rw [rng,List.getElem?_cons_succ,Xf r i (b+1) (by omega),show b+1+i=b+(i+1) by omega]
theorem Ry:∀ (l:List Shard) (i b:Nat) (s:Shard),l[i]? =some s→(Eh b l)[i]? =some (rng (b+totV (l.take i)) s.vars.length)
 | [],i,b,c,h=>by grind
 |x::l,0,b,c,h=>by
  grind [Eh,totV]
 |x::l,i+1,b,c,h=>by
  simp only [List.getElem?_cons_succ] at h
  rw [Eh,List.getElem?_cons_succ,Ry l i (b+x.vars.length) c h,List.take_succ_cons,totV,Nat.add_assoc]
def plC (g:Grid) (m:Nat) (s:Shard) (i:Nat):Nat:=1+totS (g.shards.take m)+tot (s.cells.take i)
def plV (g:Grid) (T m i:Nat):Nat:=T+totV (g.shards.take m)+i
theorem Qn {g:Grid} {V:List (List Int)} {m i:Nat} {s:Shard} {c:ShardCell} (hs:g.shards[m]? =some s) (hc:s.cells[i]? =some c):itm (rows 1 g.shards) V ⟨m,1,i⟩=some ((plC g m s i:Nat):Int):=by
 unfold itm plC
 rw [if_pos rfl]
 simp only
 rw [FM,ZQ _ _ _ _ hs,AA,FM,ZP _ _ _ _ hc]
theorem Ti {g:Grid} {C:List (List Int)} {T m i:Nat} {s:Shard} (hs:g.shards[m]? =some s) (hi:i<s.vars.length):itm C (Eh T g.shards) ⟨m,2,i⟩=some ((plV g T m i:Nat):Int):=by
 unfold itm plV
 rw [if_neg (by simp)]
 simp only
 rw [FM,Ry _ _ _ _ hs,AA,FM,Xf _ _ _ hi]
theorem alive_cases {g:Grid} {a:Address} (h:aliveB g a=true):
  (∃ (m i:Nat) (s:Shard) (c:ShardCell),a=⟨m,1,i⟩∧g.shards[m]? =some s∧s.cells[i]? =some c∧c.kind≠0)∨
  (∃ (m i:Nat) (s:Shard) (v:ShardVar),a=⟨m,2,i⟩∧g.shards[m]? =some s∧s.vars[i]? =some v∧v.used=true):=by
 unfold aliveB at h
 obtain⟨am,ak,ai⟩:=a
 grind [at?]
theorem ae {g:Grid} {m i:Nat} {s:Shard} {c:ShardCell} (hs:g.shards[m]? =some s) (hc:s.cells[i]? =some c) (h0:c.kind≠0):plC g m s i<1+totS g.shards:=by
 have h1:=NU _ _ _ hc
 have h2:=Xd _ _ _ hs
 grind [szC,plC]
theorem gb {g:Grid} {T m i:Nat} {s:Shard} (hs:g.shards[m]? =some s) (hi:i<s.vars.length):plV g T m i<T+totV g.shards:=by
 have h2:=Xe _ _ _ hs
 grind [plV]
theorem jj {g:Grid} {m i m' i':Nat} {s s':Shard} {c c':ShardCell} (hs:g.shards[m]? =some s) (hc:s.cells[i]? =some c) (h0:c.kind≠0) (hs':g.shards[m']? =some s') (hc':s'.cells[i']? =some c') (h0':c'.kind≠0) (h:plC g m s i=plC g m' s' i'):m=m'∧i=i':=by
 have z:∀c:ShardCell,c.kind≠0→1≤szC c:=fun c h=>by grind [szC]
 have zc:=z c h0
 have zc':=z c' h0'
 have t1:=NU _ _ _ hc
 have t2:=NU _ _ _ hc'
 unfold plC at h
 rcases Nat.lt_trichotomy m m' with hm|hm|hm
 ·have:=OC _ _ _ _ hs hm; omega
 ·subst hm
  rw [hs] at hs'; cases hs'
  rcases Nat.lt_trichotomy i i' with hi|hi|hi
  ·have:=Qm _ _ _ _ hc hi; omega
  ·omega
  ·have:=Qm _ _ _ _ hc' hi; omega
 ·have:=OC _ _ _ _ hs' hm; omega
theorem jk {g:Grid} {T m i m' i':Nat} {s s':Shard} (hs:g.shards[m]? =some s) (hi:i<s.vars.length) (hs':g.shards[m']? =some s') (hi':i'<s'.vars.length) (h:plV g T m i=plV g T m' i'):m=m'∧i=i':=by
 unfold plV at h
 rcases Nat.lt_trichotomy m m' with hm|hm|hm
 ·have:=OD _ _ _ _ hs hm; omega
 ·grind
 ·have:=OD _ _ _ _ hs' hm; omega
theorem ah {α:Type} {l:List α} {i:Nat} {x:α} (h:l[i]? =some x):i<l.length:=by
 grind
theorem mY (g:Grid) (T:Nat) (hT:1+totS g.shards≤T) (hl:g.shards.length≤4194304) (hs:∀s ∈ g.shards,s.Small):Places g (rows 1 g.shards) (Eh T g.shards) (T+totV g.shards):=by
 refine⟨hl,hs,fun a h=>?_⟩
 rcases alive_cases h with ⟨m,i,s,c,rfl,h1,h2,h3⟩|⟨m,i,s,v,rfl,h1,h2,h3⟩
 ·exact⟨_,Qn h1 h2,by grind [ae]⟩
 ·exact⟨_,Ti h1 (ah h2),gb h1 (ah h2)⟩
theorem jl {g:Grid} {T:Nat} (hT:1+totS g.shards≤T) {a b:Address} (ha:aliveB g a=true) (hb:aliveB g b=true) (h:itm (rows 1 g.shards) (Eh T g.shards) a=itm (rows 1 g.shards) (Eh T g.shards) b):a=b:=by
 grind [alive_cases,Qn,jj,Ti,ae,plV,jk]
def Lm:Nat→List ShardCell→Nat→Nat
 |_,[],_=>0
 |b,c::l,j=>(if c.kind=0 then 0 else oneV b j)+Lm (b+szC c) l j
def MW:Nat→List Shard→Nat→Nat
 |_,[],_=>0
 |b,s::l,j=>Lm b s.cells j+MW (b+tot s.cells) l j
theorem ZR (j:Nat):∀ (l:List ShardCell) (b:Nat),l.all ceB=true→PO b l j+Lm b l j=seg b (tot l) j
 | [],b,_=>by rw [PO,Lm,tot,Qk]
 |c::l,b,h=>by
  rw [List.all_cons,Bool.and_eq_true] at h
  have ih:=ZR j l (b+szC c) h.2
  rw [PO,Lm,tot,Ql]
  grind [cK,szC,Qk,Qj]
theorem Wu (j:Nat):∀ (l:List Shard) (b:Nat),(∀s ∈ l,s.cells.all ceB=true)→Rx b l j+MW b l j=seg b (totS l) j
 | [],b,_=>by rw [Rx,MW,totS,Qk]
 |s::l,b,h=>by
  have ih:=Wu j l (b+tot s.cells) (fun x hx=>h x (List.mem_cons_of_mem _ hx))
  grind [ZR,Rx,MW,totS,Ql]
theorem ZS (j:Nat):∀ (l:List ShardCell) (b:Nat),(∀c ∈ l,c.kind≠0)→Ll b l j=seg b (tot l) j
 | [],b,_=>by rw [Ll,tot,Qk]
 |c::l,b,h=>by
  have h0:=h c List.mem_cons_self
  rw [Ll,ZS j l _ (fun x hx=>h x (List.mem_cons_of_mem _ hx)),tot]
  have hz:szC c=c.aux.length+1:=by unfold szC; rw [if_neg h0]
  rw [hz,← Ql]
theorem Wv (j:Nat):∀ (l:List ShardCell) (b i:Nat) (c:ShardCell),l[i]? =some c→c.kind≠0→j=b+tot (l.take i)→1≤Lm b l j
 | [],b,i,c,h,_,_=>by grind
 |x::l,b,0,c,h,h0,hj=>by
  grind [tot,Lm,oneV]
 |x::l,b,i+1,c,h,h0,hj=>by
  simp only [List.getElem?_cons_succ] at h
  rw [List.take_succ_cons,tot] at hj
  have:=Wv j l (b+szC x) i c h h0 (by omega)
  rw [Lm]; omega
theorem Ww (j:Nat):∀ (l:List Shard) (b m i:Nat) (s:Shard) (c:ShardCell),l[m]? =some s→s.cells[i]? =some c→c.kind≠0→j=b+totS (l.take m)+tot (s.cells.take i)→1≤MW b l j
 | [],b,m,i,s,c,h,_,_,_=>by grind
 |x::l,b,0,i,s,c,h,hc,h0,hj=>by
  grind [totS,Wv,MW]
 |x::l,b,m+1,i,s,c,h,hc,h0,hj=>by
  simp only [List.getElem?_cons_succ] at h
  rw [List.take_succ_cons,totS] at hj
  have:=Ww j l (b+tot x.cells) m i s c h hc h0 (by omega)
  rw [MW]; omega
theorem ZT (j:Nat):∀ (l:List ShardCell) (b:Nat),1≤Lm b l j→∃i c,l[i]? =some c∧c.kind≠0∧j=b+tot (l.take i)
 | [],b,h=>by rw [Lm] at h; omega
 | x::l,b,h=>by
  rw [Lm] at h
  by_cases h1:1≤Lm (b+szC x) l j
  ·obtain⟨i,c,e1,e2,e3⟩:=ZT j l _ h1
   exact⟨i+1,c,by rw [List.getElem?_cons_succ]; exact e1,e2,by rw [List.take_succ_cons,tot]; omega⟩
  ·by_cases h0:x.kind=0
   ·rw [if_pos h0] at h; omega
   ·rw [if_neg h0] at h
    refine⟨0,x,rfl,h0,?_⟩
    rw [List.take_zero,tot]
    unfold oneV at h
    split at h <;> omega
theorem ZU (j:Nat):∀ (l:List Shard) (b:Nat),1≤MW b l j→∃m i s c,l[m]? =some s∧s.cells[i]? =some c∧c.kind≠0∧j=b+totS (l.take m)+tot (s.cells.take i)
 | [],b,h=>by rw [MW] at h; omega
 | x::l,b,h=>by
  rw [MW] at h
  by_cases h1:1≤Lm b x.cells j
  ·obtain⟨i,c,e1,e2,e3⟩:=ZT j x.cells _ h1
   exact⟨0,i,x,c,rfl,e1,e2,by rw [List.take_zero,totS]; omega⟩
  ·obtain⟨m,i,s,c,e1,e2,e3,e4⟩:=ZU j l _ (by omega:1≤MW (b+tot x.cells) l j)
   exact⟨m+1,i,s,c,by rw [List.getElem?_cons_succ]; exact e1,e2,e3,by rw [List.take_succ_cons,totS]; omega⟩
theorem gc {g:Grid} {T:Nat} (hT:1+totS g.shards≤T) {a:Address} {p:Nat} (ha:aliveB g a=true) (hp:itm (rows 1 g.shards) (Eh T g.shards) a=some (p:Int)):∀L:List Statement,L.all (stB g)=true→cN (rows 1 g.shards) (Eh T g.shards) L p=cntS L (keyA a)
 | [],_=>rfl
 | s ::L,h=>by
  have th:∀t:Thing,thB g t=true→cT (rows 1 g.shards) (Eh T g.shards) t p=cntT t (keyA a):=by
   intro t ht
   unfold cT cntT cA
   unfold thB at ht
   cases ho:t.own with
   |true=>rw [if_neg (by simp),if_neg (by simp)]
   | false=>
    rw [ho,Bool.false_or] at ht
    rw [if_pos rfl]
    by_cases he:t.att=a
    ·rw [he,hp,if_pos rfl,if_pos ⟨rfl,rfl⟩]
    ·rw [if_neg (fun hh=>he (jl hT ht ha (hh.trans hp.symm))),if_neg (fun hh=>he ?_)]
     have:=hh.2
     unfold keyA at this
     simp only [List.cons.injEq,and_true] at this
     obtain⟨h1,h2,h3⟩:=this
     cases hta:t.att; simp_all
  rw [List.all_cons,Bool.and_eq_true,stB,Bool.and_eq_true] at h
  rw [cN,cntS,gc hT ha hp L h.2,th _ h.1.1,th _ h.1.2,Nat.add_assoc]
theorem cL {g:Grid} {T p:Nat} (hp:∀a,aliveB g a=true→itm (rows 1 g.shards) (Eh T g.shards) a≠some (p:Int)):∀L:List Statement,L.all (stB g)=true→cN (rows 1 g.shards) (Eh T g.shards) L p=0
 | [],_=>rfl
 | s::L,h=>by
  have th:∀t:Thing,thB g t=true→cT (rows 1 g.shards) (Eh T g.shards) t p=0:=by
   grind [cT,cA,thB]
  rw [List.all_cons,Bool.and_eq_true,stB,Bool.and_eq_true] at h
  rw [cN,cL hp L h.2,th _ h.1.1,th _ h.1.2]
theorem mZ {g:Grid} {T:Nat} {st:L27Links} {f:Nat→Nat} {K n:Nat} (h:InvL (rows 1 g.shards) (Eh T g.shards) T n st f K) (hn:T+totV g.shards≤n) (L:List Statement) (m:Nat) (s:Shard) (hm:g.shards[m]? =some s) (hs:s.Small)
  (hf:∀i v,s.vars[i]? =some v→v.used=true→f (plV g T m i)=cntS L [(m:Int),2,(i:Int)]) (R:Option Bool) (N:Nat) (hR:∀n,N≤n→Bl n g st (IntKind.i64.wrap ((m:Int)+1))=R):
  ∀n,N+1+2*s.vars.length≤n→CG n g st (m:Int) 0=if allI (varR L m) 0 s.vars=true then R else some false:=by
 intro n' hn'
 have hvl:=hs.vl
 have hat:at? g.shards (m:Int)=some s:=by rw [FM]; exact hm
 refine On s.vars (varR L m) (fun _=>2) (fun n i=>CG n g st (m:Int) i) (some false) R (N+1) ?_ ?_ s.vars [] rfl n' (by rw [Bc]; omega)
 ·intro pre x post k B R h' hR hk
  obtain⟨k,rfl⟩:∃j,k=j+2:=⟨k - 2,by omega⟩
  have hlt:pre.length<s.vars.length:=by rw [h']; simp
  have hx:s.vars[pre.length]? =some x:=by rw [h']; simp
  have hend:∃r,st.ends[plV g T m pre.length]? =some r:=⟨_,List.getElem?_eq_getElem (by rw [h.e]; have:=gb (T:=T) hm hlt; omega)⟩
  obtain⟨r,hr⟩:=hend
  have hrl:=h.r _ _ hr
  have e:CG (k+2) g st (m:Int) (pre.length:Int)=Dv (k+1) g st (m:Int) (pre.length:Int) (!varR L m pre.length x):=by
   rw [CG,hat,AA,decide_eq_true (by omega),if_pos rfl,AA,Ak h',AA]
   unfold varR
   cases hu:x.used with
   |false=>rw [if_neg Bool.false_ne_true,if_neg Bool.false_ne_true]; rfl
   |true=>
    rw [if_pos rfl,if_pos rfl,h.v,FM,Ry _ _ _ _ hm,AA,FM,Xf _ _ _ hlt,AA,FM,show T+totV (g.shards.take m)+pre.length=plV g T m pre.length from rfl,hr,AA,hrl,hf _ _ hx hu]
    congr 2
    rw [decide_eq_decide]; omega
  rw [e,Dv]
  grind [AT]
 ·intro k hk
  obtain⟨k,rfl⟩:∃j,k=j+1:=⟨k - 1,by omega⟩
  rw [CG,hat,AA,decide_eq_false (by omega),if_neg Bool.false_ne_true]
  grind
def Wx (L:List Statement) (m:Nat) (s:Shard):Bool:=allI (varR L m) 0 s.vars
theorem eH {g:Grid} {T n:Nat} {st:L27Links} {O:Nat→Nat} {L:List Statement} (h:Inv2 (rows 1 g.shards) (Eh T g.shards) T n st O L) (hn:n=T+totV g.shards) (hT:1+totS g.shards≤T) (hTb:T≤1000000)
  (hs:∀s ∈ g.shards,s.Small) (hl:g.shards.length≤4194304) (hw:szw (fun s=>2+2*s.vars.length) g.shards≤1000000000) (hL:L.all (stB g)=true)
  (hO:∀j,O j+MW 1 g.shards j=seg 0 T j):Hr g st=some (KV g L):=by
 have hpl:=h.t
 have fV:∀m s,g.shards[m]? =some s→∀i v,s.vars[i]? =some v→v.used=true→O (plV g T m i)+cN (rows 1 g.shards) (Eh T g.shards) L (plV g T m i)=cntS L [(m:Int),2,(i:Int)] :=by
  intro m s hm i v hv hu
  have hi:=ah hv
  have ha:aliveB g ⟨m,2,i⟩=true:=by
   grind [aliveB,FM]
  rw [gc hT ha (Ti hm hi) L hL]
  have:=hO (plV g T m i)
  have hz:seg 0 T (plV g T m i)=0:=by unfold seg plV; rw [if_neg (by omega)]
  show O _+cntS L [(m:Int),2,(i:Int)] =_
  omega
 have sec:∀N,1+szw (fun s=>2+2*s.vars.length) g.shards≤N→Bl N g st 0=if allI (Wx L) 0 g.shards=true then some true else some false:=by
  intro N hN
  refine On g.shards (Wx L) (fun s=>2+2*s.vars.length) (fun n i=>Bl n g st i) (some false) (some true) 1 ?_ ?_ g.shards [] rfl N hN
  ·intro pre x post k B R h' hR hk
   obtain⟨k,rfl⟩:∃j,k=j+1:=⟨k - 1,by omega⟩
   have hlt:pre.length<g.shards.length:=by rw [h']; simp
   have hx:g.shards[pre.length]? =some x:=by rw [h']; simp
   rw [Bl,decide_eq_true (by omega),if_pos rfl]
   exact mZ h (by omega) L pre.length x hx (hs x (by rw [h']; simp)) (fV _ _ hx) R B (fun n hn=>by rw [AT h' (by grind)]; grind) k (by omega)
  ·intro k hk
   obtain⟨k,rfl⟩:∃j,k=j+1:=⟨k - 1,by omega⟩
   rw [Bl,decide_eq_false (by omega),if_neg Bool.false_ne_true]
 have fst:Hr g st=if allI (fun i _=>decide (O i+cN (rows 1 g.shards) (Eh T g.shards) L i=1)) 0 st.ports=true then (if allI (Wx L) 0 g.shards=true then some true else some false) else some false:=by
  unfold Hr
  refine On st.ports (fun i _=>decide (O i+cN (rows 1 g.shards) (Eh T g.shards) L i=1)) (fun _=>1) (fun n i=>Dg n g st i) (some false) _ 1 ?_ ?_ st.ports [] rfl fuel (by rw [Bc,Ax]; omega)
  ·intro pre x post k B R h' hR hk
   obtain⟨k,rfl⟩:∃j,k=j+1:=⟨k - 1,by omega⟩
   have hlt:pre.length<st.ports.length:=by rw [h']; simp
   obtain⟨r,hr⟩:∃r,st.ends[pre.length]? =some r:=⟨_,List.getElem?_eq_getElem (by rw [h.e]; omega)⟩
   have hrl:=h.r _ _ hr
   rw [Dg,decide_eq_true (by omega),if_pos rfl,FM,hr,AA,hrl,AT h' (by grind),hR k (by omega)]
   grind
  ·intro k hk
   obtain⟨k,rfl⟩:∃j,k=j+1:=⟨k - 1,by omega⟩
   rw [Dg,decide_eq_false (by omega),if_neg Bool.false_ne_true]
   grind [Ax]
 have live:∀m i s c,g.shards[m]? =some s→s.cells[i]? =some c→c.kind≠0→O (plC g m s i)+cN (rows 1 g.shards) (Eh T g.shards) L (plC g m s i)=cntS L [(m:Int),1,(i:Int)] :=by
  intro m i s c hm hc h0
  have ha:aliveB g ⟨m,1,i⟩=true:=by
   grind [aliveB,FM]
  rw [gc hT ha (Qn hm hc) L hL]
  have h1:=hO (plC g m s i)
  have h2:=Ww (plC g m s i) g.shards 1 m i s c hm hc h0 rfl
  have h3:seg 0 T (plC g m s i)≤1:=by unfold seg; split <;> omega
  show O _+cntS L [(m:Int),1,(i:Int)] =_
  omega
 rw [fst]
 have key:(allI (fun i _=>decide (O i+cN (rows 1 g.shards) (Eh T g.shards) L i=1)) 0 st.ports&&allI (Wx L) 0 g.shards)=KV g L:=by
  rw [Bool.eq_iff_iff,Bool.and_eq_true]
  constructor
  ·rintro ⟨h1,h2⟩
   unfold KV
   rw [Ef] at h1 h2 ⊢
   intro m s hm
   have hv:=h2 m s hm
   unfold Wx at hv
   unfold shR
   rw [hv,Bool.and_true,Ef]
   intro i c hc
   unfold U1
   by_cases h0:c.kind=0
   ·rw [if_pos h0]
   ·rw [if_neg h0]
    have hlt:=ae hm hc h0
    obtain⟨x,hx⟩:∃x,st.ports[plC g m s i]? =some x:=⟨_,List.getElem?_eq_getElem (by omega)⟩
    grind
  ·intro hr
   unfold KV at hr
   rw [Ef] at hr
   constructor
   ·rw [Ef]
    grind [seg,ZU,plC,shR,Ef,U1,cL,alive_cases,Qn,Ti,plV]
   ·rw [Ef]
    intro m s hm
    have:=hr m s hm
    unfold shR at this
    rw [Bool.and_eq_true] at this
    exact this.2
 rw [← key]
 cases allI (fun i _=>decide (O i+cN (rows 1 g.shards) (Eh T g.shards) L i=1)) 0 st.ports <;> cases allI (Wx L) 0 g.shards <;> rfl
theorem Xg {α:Type} {w:α→Nat} {b:Nat}:∀ {l:List α},(∀x ∈ l,w x≤b)→szw w l≤b*l.length
 | [],_=>by simp [szw]
 |x::l,h=>by
  have h1:=Xg (fun y hy=>h y (List.mem_cons_of_mem _ hy))
  grind [szw,Nat.mul_succ]
theorem Rz {α β:Type} {e:Nat→α→List β} {x:β}:∀ {l:List α} {k:Nat},x ∈ AM e k l→∃i y,y ∈ l∧x ∈ e i y
 | [],k,h=>by grind [AM]
 | y::l,k,h=>by
  rw [AM,List.mem_append] at h
  rcases h with h|h
  ·grind
  ·obtain⟨i,z,hz,hx⟩:=Rz h
   grind
theorem aj:∀ {l:List ShardCell},(∀c ∈ l,ceB c=true)→tot l≤4*l.length
 | [],_=>by simp [tot]
 |c::l,h=>by
  have h1:=aj (fun y hy=>h y (List.mem_cons_of_mem _ hy))
  grind [mT,mU,tot]
theorem OE {s:Shard} (h:shB s=true):s.cells.length≤400∧s.vars.length≤400∧s.redexes.length≤400∧s.cells.all ceB=true:=by
 grind [shB,lenB]
theorem Wy:∀ {l:List Shard},(∀s ∈ l,shB s=true)→LB l≤400*l.length∧totS l≤1600*l.length∧totV l≤400*l.length
 | [],_=>by simp [LB,totS,totV]
 |s::l,h=>by
  obtain⟨h1,h2,h3⟩:=Wy (fun y hy=>h y (List.mem_cons_of_mem _ hy))
  grind [OE,aj,LB,totS,totV]
theorem ma {x:L27Links} {A B:Option (L27Links × Bool)}:(if (!(true,x).1)=true then A else B)=B:=rfl
theorem gd (c:Cluster) (hc:c.Fits):Qa c=some (clB c):=by
 unfold Qa clB
 rw [ZF c hc.s,AA]
 cases hp:Jh c with
 |false=>rw [Bool.not_false,if_pos rfl,Bool.false_and]
 | true=>
  rw [Bool.not_true,if_neg Bool.false_ne_true,Bool.true_and]
  have hp':=hp
  unfold Jh at hp'
  simp only [Bool.and_eq_true,decide_eq_true_eq] at hp'
  obtain⟨hg,hcl,-,-,-,-,-,-,-,hch⟩:=hp'
  have hg0:=hg
  unfold Jb at hg
  simp only [Bool.and_eq_true,decide_eq_true_eq] at hg
  obtain⟨⟨hg1,hg2⟩,hg3⟩:=hg
  have hsh:∀s ∈ c.grid.shards,shB s=true:=fun s hs=>List.all_eq_true.mp hg3 s hs
  obtain⟨g1,g2,g3⟩:=Wy hsh
  have hcl16:c.channels.length≤16:=by
   rw [hcl]
   exact Nat.mul_le_mul hg2 hg2
  have hst:=U2 hg0
  have hpt:=Wr hcl16 hch
  have hx:∀x ∈ c.channels,x.length≤200∧∃to:Int,∀p ∈ x,paB p to=true:=by
   intro x hx
   obtain⟨i,hi⟩:=List.getElem?_of_mem hx
   have:=Ef.mp hch i x hi
   unfold chB at this
   simp only [Bool.and_eq_true,decide_eq_true_eq] at this
   exact⟨this.1,_,fun p hp=>List.all_eq_true.mp this.2 p hp⟩
  have hpc:∀q ∈ pcA c,q.Small∧ceB q=true∧q.kind≠0:=by
   intro q hq
   obtain⟨i,x,hxm,hq⟩:=Rz hq
   unfold pcC at hq
   obtain⟨k,p,hpm,hq⟩:=Rz hq
   unfold pc1 at hq
   obtain⟨-,to,hto⟩:=hx x hxm
   have hpb:=hto p hpm
   split at hq
   ·rename_i h3
    rw [List.mem_singleton] at hq
    subst hq
    refine⟨(hc.s.ch x hxm).2 p hpm,?_,pa3 hpb h3⟩
    grind [paB]
   grind
  have hpl:(pcA c).length ≤200*c.channels.length:=by
   unfold pcA
   refine IW fun i x hxm=>?_
   have h1:=(hx x hxm).1
   have h2:(pcC i x).length ≤1*x.length:=by
    unfold pcC
    exact IW fun k p _=>by unfold pc1; split <;> simp
   omega
  have htp:=aj (fun q hq=>(hpc q hq).2.1)
  obtain⟨ag,po,eb,hpo⟩:=eF c.grid (pcA c) hc.s.g hc.s.gl (fun q hq=>(hpc q hq).1) (by omega) (by omega) (by omega) (by omega) (by omega)
  have hP:=mY c.grid (1+totS c.grid.shards+tot (pcA c)) (by omega) hc.s.gl hc.s.g
  have h0:Inv2 (rows 1 c.grid.shards) (Eh (1+totS c.grid.shards+tot (pcA c)) c.grid.shards) (1+totS c.grid.shards+tot (pcA c)) (1+totS c.grid.shards+tot (pcA c)+totV c.grid.shards) ⟨ag,po,rows 1 c.grid.shards,Eh (1+totS c.grid.shards+tot (pcA c)) c.grid.shards,List.replicate (1+totS c.grid.shards+tot (pcA c)+totV c.grid.shards) [],[]⟩ (fun _=>0) [] :=by
   refine⟨rfl,rfl,hpo,List.length_replicate,?_,fun j=>?_,rfl⟩
   ·intro j r hj
    simp only [List.getElem?_replicate] at hj
    split at hj
    ·cases hj; rfl
    grind
   ·simp [cN]
  have hcg:szw ZM c.grid.shards≤1604*c.grid.shards.length:=Xg fun s hs=>by
   grind [OE,ZM]
  have hcv:szw (fun s=>2+2*s.vars.length) c.grid.shards≤802*c.grid.shards.length:=Xg fun s hs=>by
   obtain⟨k1,k2,k3,k4⟩:=OE (hsh s hs)
   omega
  have hcp:szw (fun x=>2+3*List.length x) c.channels≤602*c.channels.length:=Xg fun x hxm=>by
   grind
  have ha:=mV hP (by omega) hg3 (by omega) (by omega) (by omega) _ h0
  have hall:(Qh c).all (stB c.grid)=((It c.grid).all (stB c.grid)&&(KU c).all (stB c.grid)):=by unfold Qh; rw [List.all_append]
  have links:∀Z,((He c.grid (pcA c)).bind fun v=>(JG c.grid v.1).bind fun u=>if (!u.1)=true then some (u.2,false) else BG fuel c v u.2.agents u.2.ports u.2.cells u.2.vars u.2.ends u.2.pairs 0 0)=Z→Hf c=Z:=fun Z h=>p3 c hc.s Z (by grind) h
  rw [hall]
  cases hb1:(It c.grid).all (stB c.grid) with
  |false=>
   rw [hb1,if_neg Bool.false_ne_true] at ha
   obtain⟨s1,e1⟩:=ha
   grind
  | true=>
   rw [hb1,if_pos rfl] at ha
   obtain⟨s1,e1,hi1⟩:=ha
   have hT:ParTab c (rows 1 c.grid.shards) (Eh (1+totS c.grid.shards+tot (pcA c)) c.grid.shards) (1+totS c.grid.shards+tot (pcA c)) (1+totS c.grid.shards+tot (pcA c)+totV c.grid.shards) (1+totS c.grid.shards) (⟨ag,po,rows 1 c.grid.shards,Eh (1+totS c.grid.shards+tot (pcA c)) c.grid.shards,List.replicate (1+totS c.grid.shards+tot (pcA c)+totV c.grid.shards) [],[]⟩,offs (1+totS c.grid.shards) (pcA c)):=
    ⟨hP,by omega,rfl,by omega,hc.s,by omega⟩
   have hpa:=mW hT _ hch (by omega) _ (It c.grid) (by rw [List.length_append]; omega) s1 hi1
   cases hb2:(KU c).all (stB c.grid) with
   |false=>
    rw [hb2,if_neg Bool.false_ne_true] at hpa
    obtain⟨s2,e2⟩:=hpa
    grind
   | true=>
    rw [hb2,if_pos rfl] at hpa
    obtain⟨s2,e2,hi2⟩:=hpa
    have hall2:(Qh c).all (stB c.grid)=true:=by rw [hall,hb1,hb2]; rfl
    have hcnt:=eH hi2 rfl (by omega) (by omega) hc.s.g hc.s.gl (by omega) hall2 (fun j=>by
     have a1:=Wu j c.grid.shards 1 (fun s hs=>(OE (hsh s hs)).2.2.2)
     have a2:=ZS j (pcA c) (1+totS c.grid.shards) (fun q hq=>(hpc q hq).2.2)
     have a3:=Ql 0 1 (totS c.grid.shards+tot (pcA c)) j
     have a4:=Ql 1 (totS c.grid.shards) (tot (pcA c)) j
     grind [Qj])
    have el:Hf c=some (s2,true):=links _ (by rw [eb,AA,e1,AA,ma]; exact e2)
    rw [el,AA,Bool.and_true,Bool.true_and]
    simp only
    rw [if_pos trivial,hcnt,AA]
    rfl
end Go.Proofs.YtclmbjbbojdojaaGreat.Ab
