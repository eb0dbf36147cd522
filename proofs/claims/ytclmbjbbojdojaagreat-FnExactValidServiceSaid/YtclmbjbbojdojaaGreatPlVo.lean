/-
  Clusters: every living address has a place of its own. No program is in sight.
-/
import Derived.Test.YtclmbjbbojdojaaGreatPlVk
namespace Go.Proofs.YtclmbjbbojdojaaGreat.Ab
set_option linter.unusedVariables false
set_option maxHeartbeats 1000000
set_option linter.unusedSimpArgs false
open Go.RowKit
theorem O6:∀ (l:List ShardCell) (i k:Nat) (c:ShardCell),l[i]? =some c→i<k→tot (l.take i)+szC c≤tot (l.take k)
 | [],i,k,c,h,_=>by grind
 |x::l,0,k+1,c,h,_=>by
  grind [tot]
 |x::l,i+1,k+1,c,h,hk=>by
  simp only [List.getElem?_cons_succ] at h
  have:=O6 l i k c h (by omega)
  grind [tot]
theorem L0 (l:List ShardCell) (i:Nat) (c:ShardCell) (h:l[i]? =some c):tot (l.take i)+szC c≤tot l:=by
 have:=O6 l i (l.length+(i+1)) c h (by omega)
 rwa [List.take_of_length_le (i:=l.length+(i+1)) (by omega)] at this
theorem Mf:∀ (l:List Shard) (i k:Nat) (s:Shard),l[i]? =some s→i<k→totS (l.take i)+tot s.cells≤totS (l.take k)
 | [],i,k,c,h,_=>by grind
 |x::l,0,k+1,c,h,_=>by
  grind [totS]
 |x::l,i+1,k+1,c,h,hk=>by
  simp only [List.getElem?_cons_succ] at h
  have:=Mf l i k c h (by omega)
  grind [totS]
theorem VN (l:List Shard) (i:Nat) (s:Shard) (h:l[i]? =some s):totS (l.take i)+tot s.cells≤totS l:=by
 have:=Mf l i (l.length+(i+1)) s h (by omega)
 rwa [List.take_of_length_le (i:=l.length+(i+1)) (by omega)] at this
theorem Mg:∀ (l:List Shard) (i k:Nat) (s:Shard),l[i]? =some s→i<k→totV (l.take i)+s.vars.length≤totV (l.take k)
 | [],i,k,c,h,_=>by grind
 |x::l,0,k+1,c,h,_=>by
  grind [totV]
 |x::l,i+1,k+1,c,h,hk=>by
  simp only [List.getElem?_cons_succ] at h
  have:=Mg l i k c h (by omega)
  grind [totV]
theorem VO (l:List Shard) (i:Nat) (s:Shard) (h:l[i]? =some s):totV (l.take i)+s.vars.length≤totV l:=by
 have:=Mg l i (l.length+(i+1)) s h (by omega)
 rwa [List.take_of_length_le (i:=l.length+(i+1)) (by omega)] at this
theorem W9:∀ (l:List ShardCell) (i b:Nat) (c:ShardCell),l[i]? =some c→(offs b l)[i]? =some ((b+tot (l.take i):Nat):Int)
 | [],i,b,c,h=>by grind
 |x::l,0,b,c,h=>by rfl
 |x::l,i+1,b,c,h=>by
  simp only [List.getElem?_cons_succ] at h
  rw [offs,List.getElem?_cons_succ,W9 l i (b+szC x) c h,List.take_succ_cons,tot,Nat.add_assoc]
theorem XA:∀ (l:List Shard) (i b:Nat) (s:Shard),l[i]? =some s→(rows b l)[i]? =some (offs (b+totS (l.take i)) s.cells)
 | [],i,b,c,h=>by grind
 |x::l,0,b,c,h=>by
  grind [rows,totS]
 |x::l,i+1,b,c,h=>by
  simp only [List.getElem?_cons_succ] at h
  rw [rows,List.getElem?_cons_succ,XA l i (b+tot x.cells) c h,List.take_succ_cons,totS,Nat.add_assoc]
theorem VP:∀ (r i b:Nat),i<r→(rng b r)[i]? =some ((b+i:Nat):Int)
 |0,i,b,h=>by omega
 |r+1,0,b,h=>by rfl
 |r+1,i+1,b,h=>by rw [rng,List.getElem?_cons_succ,VP r i (b+1) (by omega),show b+1+i=b+(i+1) by omega]
theorem QC:∀ (l:List Shard) (i b:Nat) (s:Shard),l[i]? =some s→(D4 b l)[i]? =some (rng (b+totV (l.take i)) s.vars.length)
 | [],i,b,c,h=>by grind
 |x::l,0,b,c,h=>by
  grind [D4,totV]
 |x::l,i+1,b,c,h=>by
  simp only [List.getElem?_cons_succ] at h
  rw [D4,List.getElem?_cons_succ,QC l i (b+x.vars.length) c h,List.take_succ_cons,totV,Nat.add_assoc]
def plC (g:Grid) (m:Nat) (s:Shard) (i:Nat):Nat:=1+totS (g.shards.take m)+tot (s.cells.take i)
def plV (g:Grid) (T m i:Nat):Nat:=T+totV (g.shards.take m)+i
theorem O7 {g:Grid} {V:List (List Int)} {m i:Nat} {s:Shard} {c:ShardCell} (hs:g.shards[m]? =some s) (hc:s.cells[i]? =some c):itm (rows 1 g.shards) V ⟨m,1,i⟩=some ((plC g m s i:Nat):Int):=by
 unfold itm plC
 rw [if_pos rfl]
 simp only
 rw [B3,XA _ _ _ _ hs,AA,B3,W9 _ _ _ _ hc]
theorem RW {g:Grid} {C:List (List Int)} {T m i:Nat} {s:Shard} (hs:g.shards[m]? =some s) (hi:i<s.vars.length):itm C (D4 T g.shards) ⟨m,2,i⟩=some ((plV g T m i:Nat):Int):=by
 unfold itm plV
 rw [if_neg (by simp)]
 simp only
 rw [B3,QC _ _ _ _ hs,AA,B3,VP _ _ _ hi]
theorem alive_cases {g:Grid} {a:Address} (h:aliveB g a=true):
  (∃ (m i:Nat) (s:Shard) (c:ShardCell),a=⟨m,1,i⟩∧g.shards[m]? =some s∧s.cells[i]? =some c∧c.kind≠0)∨
  (∃ (m i:Nat) (s:Shard) (v:ShardVar),a=⟨m,2,i⟩∧g.shards[m]? =some s∧s.vars[i]? =some v∧v.used=true):=by
 unfold aliveB at h
 obtain⟨am,ak,ai⟩:=a
 grind [at?]
theorem YE {g:Grid} {m i:Nat} {s:Shard} {c:ShardCell} (hs:g.shards[m]? =some s) (hc:s.cells[i]? =some c) (h0:c.kind≠0):plC g m s i<1+totS g.shards:=by
 have h1:=L0 _ _ _ hc
 have h2:=VN _ _ _ hs
 grind [szC,plC]
theorem dG {g:Grid} {T m i:Nat} {s:Shard} (hs:g.shards[m]? =some s) (hi:i<s.vars.length):plV g T m i<T+totV g.shards:=by
 have h2:=VO _ _ _ hs
 grind [plV]
theorem fe {g:Grid} {m i m' i':Nat} {s s':Shard} {c c':ShardCell} (hs:g.shards[m]? =some s) (hc:s.cells[i]? =some c) (h0:c.kind≠0) (hs':g.shards[m']? =some s') (hc':s'.cells[i']? =some c') (h0':c'.kind≠0) (h:plC g m s i=plC g m' s' i'):m=m'∧i=i':=by
 have z:∀c:ShardCell,c.kind≠0→1≤szC c:=fun c h=>by grind [szC]
 have zc:=z c h0
 have zc':=z c' h0'
 have t1:=L0 _ _ _ hc
 have t2:=L0 _ _ _ hc'
 unfold plC at h
 rcases Nat.lt_trichotomy m m' with hm|hm|hm
 ·have:=Mf _ _ _ _ hs hm; omega
 ·subst hm
  rw [hs] at hs'; cases hs'
  rcases Nat.lt_trichotomy i i' with hi|hi|hi
  ·have:=O6 _ _ _ _ hc hi; omega
  ·omega
  ·have:=O6 _ _ _ _ hc' hi; omega
 ·have:=Mf _ _ _ _ hs' hm; omega
theorem ff {g:Grid} {T m i m' i':Nat} {s s':Shard} (hs:g.shards[m]? =some s) (hi:i<s.vars.length) (hs':g.shards[m']? =some s') (hi':i'<s'.vars.length) (h:plV g T m i=plV g T m' i'):m=m'∧i=i':=by
 unfold plV at h
 rcases Nat.lt_trichotomy m m' with hm|hm|hm
 ·have:=Mg _ _ _ _ hs hm; omega
 ·grind
 ·have:=Mg _ _ _ _ hs' hm; omega
theorem YF {α:Type} {l:List α} {i:Nat} {x:α} (h:l[i]? =some x):i<l.length:=by
 grind
theorem jF (g:Grid) (T:Nat) (hT:1+totS g.shards≤T) (hl:g.shards.length≤4194304) (hs:∀s ∈ g.shards,s.Small):Places g (rows 1 g.shards) (D4 T g.shards) (T+totV g.shards):=by
 refine⟨hl,hs,fun a h=>?_⟩
 rcases alive_cases h with ⟨m,i,s,c,rfl,h1,h2,h3⟩|⟨m,i,s,v,rfl,h1,h2,h3⟩
 ·exact⟨_,O7 h1 h2,by grind [YE]⟩
 ·exact⟨_,RW h1 (YF h2),dG h1 (YF h2)⟩
theorem fg {g:Grid} {T:Nat} (hT:1+totS g.shards≤T) {a b:Address} (ha:aliveB g a=true) (hb:aliveB g b=true) (h:itm (rows 1 g.shards) (D4 T g.shards) a=itm (rows 1 g.shards) (D4 T g.shards) b):a=b:=by
 grind [alive_cases,O7,fe,RW,YE,plV,ff]
def KV:Nat→List ShardCell→Nat→Nat
 |_,[],_=>0
 |b,c::l,j=>(if c.kind=0 then 0 else oneV b j)+KV (b+szC c) l j
def K7:Nat→List Shard→Nat→Nat
 |_,[],_=>0
 |b,s::l,j=>KV b s.cells j+K7 (b+tot s.cells) l j
theorem XB (j:Nat):∀ (l:List ShardCell) (b:Nat),l.all ceB=true→Nm b l j+KV b l j=seg b (tot l) j
 | [],b,_=>by rw [Nm,KV,tot,O4]
 |c::l,b,h=>by
  rw [List.all_cons,Bool.and_eq_true] at h
  have ih:=XB j l (b+szC c) h.2
  rw [Nm,KV,tot,O5]
  grind [ZF,szC,O4,O3]
theorem Uf (j:Nat):∀ (l:List Shard) (b:Nat),(∀s ∈ l,s.cells.all ceB=true)→QB b l j+K7 b l j=seg b (totS l) j
 | [],b,_=>by rw [QB,K7,totS,O4]
 |s::l,b,h=>by
  have ih:=Uf j l (b+tot s.cells) (fun x hx=>h x (List.mem_cons_of_mem _ hx))
  grind [XB,QB,K7,totS,O5]
theorem XC (j:Nat):∀ (l:List ShardCell) (b:Nat),(∀c ∈ l,c.kind≠0)→KU b l j=seg b (tot l) j
 | [],b,_=>by rw [KU,tot,O4]
 |c::l,b,h=>by
  have h0:=h c List.mem_cons_self
  rw [KU,XC j l _ (fun x hx=>h x (List.mem_cons_of_mem _ hx)),tot]
  have hz:szC c=c.aux.length+1:=by unfold szC; rw [if_neg h0]
  rw [hz,← O5]
theorem Ug (j:Nat):∀ (l:List ShardCell) (b i:Nat) (c:ShardCell),l[i]? =some c→c.kind≠0→j=b+tot (l.take i)→1≤KV b l j
 | [],b,i,c,h,_,_=>by grind
 |x::l,b,0,c,h,h0,hj=>by
  grind [tot,KV,oneV]
 |x::l,b,i+1,c,h,h0,hj=>by
  simp only [List.getElem?_cons_succ] at h
  rw [List.take_succ_cons,tot] at hj
  have:=Ug j l (b+szC x) i c h h0 (by omega)
  rw [KV]; omega
theorem Uh (j:Nat):∀ (l:List Shard) (b m i:Nat) (s:Shard) (c:ShardCell),l[m]? =some s→s.cells[i]? =some c→c.kind≠0→j=b+totS (l.take m)+tot (s.cells.take i)→1≤K7 b l j
 | [],b,m,i,s,c,h,_,_,_=>by grind
 |x::l,b,0,i,s,c,h,hc,h0,hj=>by
  grind [totS,Ug,K7]
 |x::l,b,m+1,i,s,c,h,hc,h0,hj=>by
  simp only [List.getElem?_cons_succ] at h
  rw [List.take_succ_cons,totS] at hj
  have:=Uh j l (b+tot x.cells) m i s c h hc h0 (by omega)
  rw [K7]; omega
theorem XD (j:Nat):∀ (l:List ShardCell) (b:Nat),1≤KV b l j→∃i c,l[i]? =some c∧c.kind≠0∧j=b+tot (l.take i)
 | [],b,h=>by rw [KV] at h; omega
 | x::l,b,h=>by
  rw [KV] at h
  by_cases h1:1≤KV (b+szC x) l j
  ·obtain⟨i,c,e1,e2,e3⟩:=XD j l _ h1
   exact⟨i+1,c,by rw [List.getElem?_cons_succ]; exact e1,e2,by rw [List.take_succ_cons,tot]; omega⟩
  ·by_cases h0:x.kind=0
   ·rw [if_pos h0] at h; omega
   ·rw [if_neg h0] at h
    refine⟨0,x,rfl,h0,?_⟩
    rw [List.take_zero,tot]
    unfold oneV at h
    split at h <;> omega
theorem XE (j:Nat):∀ (l:List Shard) (b:Nat),1≤K7 b l j→∃m i s c,l[m]? =some s∧s.cells[i]? =some c∧c.kind≠0∧j=b+totS (l.take m)+tot (s.cells.take i)
 | [],b,h=>by rw [K7] at h; omega
 | x::l,b,h=>by
  rw [K7] at h
  by_cases h1:1≤KV b x.cells j
  ·obtain⟨i,c,e1,e2,e3⟩:=XD j x.cells _ h1
   exact⟨0,i,x,c,rfl,e1,e2,by rw [List.take_zero,totS]; omega⟩
  ·obtain⟨m,i,s,c,e1,e2,e3,e4⟩:=XE j l _ (by omega:1≤K7 (b+tot x.cells) l j)
   exact⟨m+1,i,s,c,by rw [List.getElem?_cons_succ]; exact e1,e2,e3,by rw [List.take_succ_cons,totS]; omega⟩
theorem dH {g:Grid} {T:Nat} (hT:1+totS g.shards≤T) {a:Address} {p:Nat} (ha:aliveB g a=true) (hp:itm (rows 1 g.shards) (D4 T g.shards) a=some (p:Int)):∀L:List Statement,L.all (stB g)=true→cN (rows 1 g.shards) (D4 T g.shards) L p=cntS L (keyA a)
 | [],_=>rfl
 | s ::L,h=>by
  have th:∀t:Thing,thB g t=true→cT (rows 1 g.shards) (D4 T g.shards) t p=cntT t (keyA a):=by
   intro t ht
   unfold cT cntT cA
   unfold thB at ht
   cases ho:t.own with
   |true=>rw [if_neg (by simp),if_neg (by simp)]
   | false=>
    rw [ho,Bool.false_or] at ht
    rw [if_pos rfl]
    by_cases he:t.att=a
    ·rw [he,hp,if_pos rfl,if_pos ⟨rfl,rfl⟩]
    ·rw [if_neg (fun hh=>he (fg hT ht ha (hh.trans hp.symm))),if_neg (fun hh=>he ?_)]
     have:=hh.2
     unfold keyA at this
     simp only [List.cons.injEq,and_true] at this
     obtain⟨h1,h2,h3⟩:=this
     cases hta:t.att; simp_all
  rw [List.all_cons,Bool.and_eq_true,stB,Bool.and_eq_true] at h
  rw [cN,cntS,dH hT ha hp L h.2,th _ h.1.1,th _ h.1.2,Nat.add_assoc]
theorem ZG {g:Grid} {T p:Nat} (hp:∀a,aliveB g a=true→itm (rows 1 g.shards) (D4 T g.shards) a≠some (p:Int)):∀L:List Statement,L.all (stB g)=true→cN (rows 1 g.shards) (D4 T g.shards) L p=0
 | [],_=>rfl
 | s::L,h=>by
  have th:∀t:Thing,thB g t=true→cT (rows 1 g.shards) (D4 T g.shards) t p=0:=by
   grind [cT,cA,thB]
  rw [List.all_cons,Bool.and_eq_true,stB,Bool.and_eq_true] at h
  rw [cN,ZG hp L h.2,th _ h.1.1,th _ h.1.2]
theorem jG {g:Grid} {T:Nat} {st:L27Links} {f:Nat→Nat} {K n:Nat} (h:InvL (rows 1 g.shards) (D4 T g.shards) T n st f K) (hn:T+totV g.shards≤n) (L:List Statement) (m:Nat) (s:Shard) (hm:g.shards[m]? =some s) (hs:s.Small)
  (hf:∀i v,s.vars[i]? =some v→v.used=true→f (plV g T m i)=cntS L [(m:Int),2,(i:Int)]) (R:Option Bool) (N:Nat) (hR:∀n,N≤n→Bc n g st (IntKind.i64.wrap ((m:Int)+1))=R):
  ∀n,N+1+2*s.vars.length≤n→Bz n g st (m:Int) 0=if allI (varR L m) 0 s.vars=true then R else some false:=by
 intro n' hn'
 have hvl:=hs.vl
 have hat:at? g.shards (m:Int)=some s:=by rw [B3]; exact hm
 refine M7 s.vars (varR L m) (fun _=>2) (fun n i=>Bz n g st (m:Int) i) (some false) R (N+1) ?_ ?_ s.vars [] rfl n' (by rw [A8]; omega)
 ·intro pre x post k B R h' hR hk
  obtain⟨k,rfl⟩:∃j,k=j+2:=⟨k - 2,by omega⟩
  have hlt:pre.length<s.vars.length:=by rw [h']; simp
  have hx:s.vars[pre.length]? =some x:=by rw [h']; simp
  have hend:∃r,st.ends[plV g T m pre.length]? =some r:=⟨_,List.getElem?_eq_getElem (by rw [h.e]; have:=dG (T:=T) hm hlt; omega)⟩
  obtain⟨r,hr⟩:=hend
  have hrl:=h.r _ _ hr
  have e:Bz (k+2) g st (m:Int) (pre.length:Int)=DL (k+1) g st (m:Int) (pre.length:Int) (!varR L m pre.length x):=by
   rw [Bz,hat,AA,decide_eq_true (by omega),if_pos rfl,AA,A1 h',AA]
   unfold varR
   cases hu:x.used with
   |false=>rw [if_neg Bool.false_ne_true,if_neg Bool.false_ne_true]; rfl
   |true=>
    rw [if_pos rfl,if_pos rfl,h.v,B3,QC _ _ _ _ hm,AA,B3,VP _ _ _ hlt,AA,B3,show T+totV (g.shards.take m)+pre.length=plV g T m pre.length from rfl,hr,AA,hrl,hf _ _ hx hu]
    congr 2
    rw [decide_eq_decide]; omega
  rw [e,DL]
  grind [AX]
 ·intro k hk
  obtain⟨k,rfl⟩:∃j,k=j+1:=⟨k - 1,by omega⟩
  rw [Bz,hat,AA,decide_eq_false (by omega),if_neg Bool.false_ne_true]
  grind
def Ui (L:List Statement) (m:Nat) (s:Shard):Bool:=allI (varR L m) 0 s.vars
theorem ah {g:Grid} {T n:Nat} {st:L27Links} {O:Nat→Nat} {L:List Statement} (h:Inv2 (rows 1 g.shards) (D4 T g.shards) T n st O L) (hn:n=T+totV g.shards) (hT:1+totS g.shards≤T) (hTb:T≤1000000)
  (hs:∀s ∈ g.shards,s.Small) (hl:g.shards.length≤4194304) (hw:szw (fun s=>2+2*s.vars.length) g.shards≤1000000000) (hL:L.all (stB g)=true)
  (hO:∀j,O j+K7 1 g.shards j=seg 0 T j):Gu g st=some (JT g L):=by
 have hpl:=h.t
 have fV:∀m s,g.shards[m]? =some s→∀i v,s.vars[i]? =some v→v.used=true→O (plV g T m i)+cN (rows 1 g.shards) (D4 T g.shards) L (plV g T m i)=cntS L [(m:Int),2,(i:Int)] :=by
  intro m s hm i v hv hu
  have hi:=YF hv
  have ha:aliveB g ⟨m,2,i⟩=true:=by
   grind [aliveB,B3]
  rw [dH hT ha (RW hm hi) L hL]
  have:=hO (plV g T m i)
  have hz:seg 0 T (plV g T m i)=0:=by unfold seg plV; rw [if_neg (by omega)]
  show O _+cntS L [(m:Int),2,(i:Int)] =_
  omega
 have sec:∀N,1+szw (fun s=>2+2*s.vars.length) g.shards≤N→Bc N g st 0=if allI (Ui L) 0 g.shards=true then some true else some false:=by
  intro N hN
  refine M7 g.shards (Ui L) (fun s=>2+2*s.vars.length) (fun n i=>Bc n g st i) (some false) (some true) 1 ?_ ?_ g.shards [] rfl N hN
  ·intro pre x post k B R h' hR hk
   obtain⟨k,rfl⟩:∃j,k=j+1:=⟨k - 1,by omega⟩
   have hlt:pre.length<g.shards.length:=by rw [h']; simp
   have hx:g.shards[pre.length]? =some x:=by rw [h']; simp
   rw [Bc,decide_eq_true (by omega),if_pos rfl]
   exact jG h (by omega) L pre.length x hx (hs x (by rw [h']; simp)) (fV _ _ hx) R B (fun n hn=>by rw [AX h' (by grind)]; grind) k (by omega)
  ·intro k hk
   obtain⟨k,rfl⟩:∃j,k=j+1:=⟨k - 1,by omega⟩
   rw [Bc,decide_eq_false (by omega),if_neg Bool.false_ne_true]
 have fst:Gu g st=if allI (fun i _=>decide (O i+cN (rows 1 g.shards) (D4 T g.shards) L i=1)) 0 st.ports=true then (if allI (Ui L) 0 g.shards=true then some true else some false) else some false:=by
  unfold Gu
  refine M7 st.ports (fun i _=>decide (O i+cN (rows 1 g.shards) (D4 T g.shards) L i=1)) (fun _=>1) (fun n i=>C7 n g st i) (some false) _ 1 ?_ ?_ st.ports [] rfl fuel (by rw [A8,Ar]; omega)
  ·intro pre x post k B R h' hR hk
   obtain⟨k,rfl⟩:∃j,k=j+1:=⟨k - 1,by omega⟩
   have hlt:pre.length<st.ports.length:=by rw [h']; simp
   obtain⟨r,hr⟩:∃r,st.ends[pre.length]? =some r:=⟨_,List.getElem?_eq_getElem (by rw [h.e]; omega)⟩
   have hrl:=h.r _ _ hr
   rw [C7,decide_eq_true (by omega),if_pos rfl,B3,hr,AA,hrl,AX h' (by grind),hR k (by omega)]
   grind
  ·intro k hk
   obtain⟨k,rfl⟩:∃j,k=j+1:=⟨k - 1,by omega⟩
   rw [C7,decide_eq_false (by omega),if_neg Bool.false_ne_true]
   grind [Ar]
 have live:∀m i s c,g.shards[m]? =some s→s.cells[i]? =some c→c.kind≠0→O (plC g m s i)+cN (rows 1 g.shards) (D4 T g.shards) L (plC g m s i)=cntS L [(m:Int),1,(i:Int)] :=by
  intro m i s c hm hc h0
  have ha:aliveB g ⟨m,1,i⟩=true:=by
   grind [aliveB,B3]
  rw [dH hT ha (O7 hm hc) L hL]
  have h1:=hO (plC g m s i)
  have h2:=Uh (plC g m s i) g.shards 1 m i s c hm hc h0 rfl
  have h3:seg 0 T (plC g m s i)≤1:=by unfold seg; split <;> omega
  show O _+cntS L [(m:Int),1,(i:Int)] =_
  omega
 rw [fst]
 have key:(allI (fun i _=>decide (O i+cN (rows 1 g.shards) (D4 T g.shards) L i=1)) 0 st.ports&&allI (Ui L) 0 g.shards)=JT g L:=by
  rw [Bool.eq_iff_iff,Bool.and_eq_true]
  constructor
  ·rintro ⟨h1,h2⟩
   unfold JT
   rw [DB] at h1 h2 ⊢
   intro m s hm
   have hv:=h2 m s hm
   unfold Ui at hv
   unfold shR
   rw [hv,Bool.and_true,DB]
   intro i c hc
   unfold So
   by_cases h0:c.kind=0
   ·rw [if_pos h0]
   ·rw [if_neg h0]
    have hlt:=YE hm hc h0
    obtain⟨x,hx⟩:∃x,st.ports[plC g m s i]? =some x:=⟨_,List.getElem?_eq_getElem (by omega)⟩
    grind
  ·intro hr
   unfold JT at hr
   rw [DB] at hr
   constructor
   ·rw [DB]
    grind [seg,XE,plC,shR,DB,So,ZG,alive_cases,O7,RW,plV]
   ·rw [DB]
    intro m s hm
    have:=hr m s hm
    unfold shR at this
    rw [Bool.and_eq_true] at this
    exact this.2
 rw [← key]
 cases allI (fun i _=>decide (O i+cN (rows 1 g.shards) (D4 T g.shards) L i=1)) 0 st.ports <;> cases allI (Ui L) 0 g.shards <;> rfl
theorem VQ {α:Type} {w:α→Nat} {b:Nat}:∀ {l:List α},(∀x ∈ l,w x≤b)→szw w l≤b*l.length
 | [],_=>by simp [szw]
 |x::l,h=>by
  have h1:=VQ (fun y hy=>h y (List.mem_cons_of_mem _ hy))
  grind [szw,Nat.mul_succ]
theorem QD {α β:Type} {e:Nat→α→List β} {x:β}:∀ {l:List α} {k:Nat},x ∈ AO e k l→∃i y,y ∈ l∧x ∈ e i y
 | [],k,h=>by grind [AO]
 | y::l,k,h=>by
  rw [AO,List.mem_append] at h
  rcases h with h|h
  ·grind
  ·obtain⟨i,z,hz,hx⟩:=QD h
   grind
theorem YG:∀ {l:List ShardCell},(∀c ∈ l,ceB c=true)→tot l≤4*l.length
 | [],_=>by simp [tot]
 |c::l,h=>by
  have h1:=YG (fun y hy=>h y (List.mem_cons_of_mem _ hy))
  grind [jA,jB,tot]
theorem Mh {s:Shard} (h:shB s=true):s.cells.length≤400∧s.vars.length≤400∧s.redexes.length≤400∧s.cells.all ceB=true:=by
 grind [shB,lenB]
theorem Uj:∀ {l:List Shard},(∀s ∈ l,shB s=true)→J4 l≤400*l.length∧totS l≤1600*l.length∧totV l≤400*l.length
 | [],_=>by simp [J4,totS,totV]
 |s::l,h=>by
  obtain⟨h1,h2,h3⟩:=Uj (fun y hy=>h y (List.mem_cons_of_mem _ hy))
  grind [Mh,YG,J4,totS,totV]
theorem jH {x:L27Links} {A B:Option (L27Links × Bool)}:(if (!(true,x).1)=true then A else B)=B:=rfl
theorem Wn (c:Cluster) (hc:c.Fits):MZ c=some (clB c):=by
 unfold MZ clB
 rw [Wz c hc.s,AA]
 cases hp:Jv c with
 |false=>rw [Bool.not_false,if_pos rfl,Bool.false_and]
 | true=>
  rw [Bool.not_true,if_neg Bool.false_ne_true,Bool.true_and]
  have hp':=hp
  unfold Jv at hp'
  simp only [Bool.and_eq_true,decide_eq_true_eq] at hp'
  obtain⟨hg,hcl,-,-,-,-,-,-,-,hch⟩:=hp'
  have hg0:=hg
  unfold IK at hg
  simp only [Bool.and_eq_true,decide_eq_true_eq] at hg
  obtain⟨⟨hg1,hg2⟩,hg3⟩:=hg
  have hsh:∀s ∈ c.grid.shards,shB s=true:=fun s hs=>List.all_eq_true.mp hg3 s hs
  obtain⟨g1,g2,g3⟩:=Uj hsh
  have hcl16:c.channels.length≤16:=by
   rw [hcl]
   exact Nat.mul_le_mul hg2 hg2
  have hst:=Sp hg0
  have hpt:=Uc hcl16 hch
  have hx:∀x ∈ c.channels,x.length≤200∧∃to:Int,∀p ∈ x,paB p to=true:=by
   intro x hx
   obtain⟨i,hi⟩:=List.getElem?_of_mem hx
   have:=DB.mp hch i x hi
   unfold chB at this
   simp only [Bool.and_eq_true,decide_eq_true_eq] at this
   exact⟨this.1,_,fun p hp=>List.all_eq_true.mp this.2 p hp⟩
  have hpc:∀q ∈ pcA c,q.Small∧ceB q=true∧q.kind≠0:=by
   intro q hq
   obtain⟨i,x,hxm,hq⟩:=QD hq
   unfold pcC at hq
   obtain⟨k,p,hpm,hq⟩:=QD hq
   unfold pc1 at hq
   obtain⟨-,to,hto⟩:=hx x hxm
   have hpb:=hto p hpm
   split at hq
   ·rename_i h3
    rw [List.mem_singleton] at hq
    subst hq
    refine⟨(hc.s.ch x hxm).2 p hpm,?_,pa3 hpb h3⟩
    grind [paB]
   grind
  have hpl:(pcA c).length ≤200*c.channels.length:=by
   unfold pcA
   refine HR fun i x hxm=>?_
   have h1:=(hx x hxm).1
   have h2:(pcC i x).length ≤1*x.length:=by
    unfold pcC
    exact HR fun k p _=>by unfold pc1; split <;> simp
   omega
  have htp:=YG (fun q hq=>(hpc q hq).2.1)
  obtain⟨ag,po,eb,hpo⟩:=aa c.grid (pcA c) hc.s.g hc.s.gl (fun q hq=>(hpc q hq).1) (by omega) (by omega) (by omega) (by omega) (by omega)
  have hP:=jF c.grid (1+totS c.grid.shards+tot (pcA c)) (by omega) hc.s.gl hc.s.g
  have h0:Inv2 (rows 1 c.grid.shards) (D4 (1+totS c.grid.shards+tot (pcA c)) c.grid.shards) (1+totS c.grid.shards+tot (pcA c)) (1+totS c.grid.shards+tot (pcA c)+totV c.grid.shards) ⟨ag,po,rows 1 c.grid.shards,D4 (1+totS c.grid.shards+tot (pcA c)) c.grid.shards,List.replicate (1+totS c.grid.shards+tot (pcA c)+totV c.grid.shards) [],[]⟩ (fun _=>0) [] :=by
   refine⟨rfl,rfl,hpo,List.length_replicate,?_,fun j=>?_,rfl⟩
   ·intro j r hj
    simp only [List.getElem?_replicate] at hj
    split at hj
    ·cases hj; rfl
    grind
   ·simp [cN]
  have hcg:szw W6 c.grid.shards≤1604*c.grid.shards.length:=VQ fun s hs=>by
   grind [Mh,W6]
  have hcv:szw (fun s=>2+2*s.vars.length) c.grid.shards≤802*c.grid.shards.length:=VQ fun s hs=>by
   obtain⟨k1,k2,k3,k4⟩:=Mh (hsh s hs)
   omega
  have hcp:szw (fun x=>2+3*List.length x) c.channels≤602*c.channels.length:=VQ fun x hxm=>by
   grind
  have ha:=jC hP (by omega) hg3 (by omega) (by omega) (by omega) _ h0
  have hall:(O1 c).all (stB c.grid)=((Hw c.grid).all (stB c.grid)&&(JS c).all (stB c.grid)):=by unfold O1; rw [List.all_append]
  have links:∀Z,((Ga c.grid (pcA c)).bind fun v=>(H9 c.grid v.1).bind fun u=>if (!u.1)=true then some (u.2,false) else BA fuel c v u.2.agents u.2.ports u.2.cells u.2.vars u.2.ends u.2.pairs 0 0)=Z→Gb c=Z:=fun Z h=>mS c hc.s Z (by grind) h
  rw [hall]
  cases hb1:(Hw c.grid).all (stB c.grid) with
  |false=>
   rw [hb1,if_neg Bool.false_ne_true] at ha
   obtain⟨s1,e1⟩:=ha
   grind
  | true=>
   rw [hb1,if_pos rfl] at ha
   obtain⟨s1,e1,hi1⟩:=ha
   have hT:ParTab c (rows 1 c.grid.shards) (D4 (1+totS c.grid.shards+tot (pcA c)) c.grid.shards) (1+totS c.grid.shards+tot (pcA c)) (1+totS c.grid.shards+tot (pcA c)+totV c.grid.shards) (1+totS c.grid.shards) (⟨ag,po,rows 1 c.grid.shards,D4 (1+totS c.grid.shards+tot (pcA c)) c.grid.shards,List.replicate (1+totS c.grid.shards+tot (pcA c)+totV c.grid.shards) [],[]⟩,offs (1+totS c.grid.shards) (pcA c)):=
    ⟨hP,by omega,rfl,by omega,hc.s,by omega⟩
   have hpa:=jD hT _ hch (by omega) _ (Hw c.grid) (by rw [List.length_append]; omega) s1 hi1
   cases hb2:(JS c).all (stB c.grid) with
   |false=>
    rw [hb2,if_neg Bool.false_ne_true] at hpa
    obtain⟨s2,e2⟩:=hpa
    grind
   | true=>
    rw [hb2,if_pos rfl] at hpa
    obtain⟨s2,e2,hi2⟩:=hpa
    have hall2:(O1 c).all (stB c.grid)=true:=by rw [hall,hb1,hb2]; rfl
    have hcnt:=ah hi2 rfl (by omega) (by omega) hc.s.g hc.s.gl (by omega) hall2 (fun j=>by
     have a1:=Uf j c.grid.shards 1 (fun s hs=>(Mh (hsh s hs)).2.2.2)
     have a2:=XC j (pcA c) (1+totS c.grid.shards) (fun q hq=>(hpc q hq).2.2)
     have a3:=O5 0 1 (totS c.grid.shards+tot (pcA c)) j
     have a4:=O5 1 (totS c.grid.shards) (tot (pcA c)) j
     grind [O3])
    have el:Gb c=some (s2,true):=links _ (by rw [eb,AA,e1,AA,jH]; exact e2)
    rw [el,AA,Bool.and_true,Bool.true_and]
    simp only
    rw [if_pos trivial,hcnt,AA]
    rfl
end Go.Proofs.YtclmbjbbojdojaaGreat.Ab
