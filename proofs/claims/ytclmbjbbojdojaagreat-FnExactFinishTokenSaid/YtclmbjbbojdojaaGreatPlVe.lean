/-
  Clusters: cells, shards, numbers, parcels, on both sides. No program is in sight.
-/
import Derived.Test.YtclmbjbbojdojaaGreatPlNet
import Derived.Test.YtclmbjbbojdojaaGreatModG
import Derived.Test.YtclmbjbbojdojaaGreatModI
namespace Go.Proofs.YtclmbjbbojdojaaGreat.Ab
set_option linter.unusedVariables false
set_option maxHeartbeats 1000000
set_option linter.unusedSimpArgs false
open Go.RowKit
def szw {α:Type} (w:α→Nat):List α→Nat
 | [] =>0
 |x::l=>w x+szw w l
theorem Uz {α β:Type} (l:List α) (p:α→Bool) (w:α→Nat) (L:Nat→Int→Option β) (F Rest:Option β) (N:Nat)
  (hL:∀ (pre:List α) (x:α) (post:List α) (m B:Nat) (R:Option β),l=pre++x::post→(∀n,B≤n→L n ((List.length (pre++[x]):Nat):Int)=R)→B+w x≤m→L m (pre.length:Int)=if p x=true then R else F)
  (hE:∀n,N≤n→L n (l.length:Int)=Rest):∀ (post pre:List α),l=pre++post→∀n,N+szw w post≤n→L n (pre.length:Int)=if post.all p=true then Rest else F
 | [],pre,h,n,hn=>by
  rw [h,List.append_nil] at hE
  grind
 |x::post,pre,h,n,hn=>by
  simp only [szw] at hn
  rw [hL pre x post n (N+szw w post) (if post.all p=true then Rest else F) h (fun k hk=>Uz l p w L F Rest N hL hE post (pre++[x]) (Ba h) k hk) (by omega),List.all_cons]
  cases p x <;> simp
theorem Bc {α:Type} (c:Nat):∀l:List α,szw (fun _=>c) l=c*l.length
 | [] =>rfl
 |x::l=>by rw [szw,Bc c l,List.length_cons,Nat.mul_succ,Nat.add_comm]
theorem Hx {α:Type} (L:Nat→List α→Int→(α→Option Bool)→Option Int) (C:List α→(α→Option Bool)→Option Bool)
  (hL:∀n l i f,L (n+1) l i f=(if (decide (i<(l.length:Int)))=true then ((at? l i).bind fun x=>((f x).bind fun b=>(if b=true then (some i) else (L n l (IntKind.i64.wrap (i+1)) f)))) else (some (-1))))
  (hC:∀l f,C l f=(L fuel l 0 f).bind fun v=>some (decide (0≤v))) (l:List α) (f:α→Option Bool) (p:α→Bool) (hl:l.length≤Big) (hf:∀x ∈ l,f x=some (!p x)):C l f=some (!l.all p):=by
 obtain⟨i,h1,h2,-⟩:=Qe L hL l f (fun x=> !p x) hl hf
 rw [hC]
 have e:l.any (fun x=> !p x)= !l.all p:=by rw [List.any_eq_not_all_not]; simp
 grind
theorem Lj {l:List Int} (h:l.length≤Big):HH l=some l:=by
 unfold HH
 rw [EF (by grind),AA,List.nil_append]
theorem Is {l:List Int} (h:l.length≤Big):CA l=some l:=Lj h
theorem Y9 {a:Agent} (h:agB a=true):1≤a.ports.length∧a.ports.length≤4∧a.data.length≤4∧a.kind≠0:=by
 unfold agB at h
 simp only [Bool.and_eq_true,decide_eq_true_eq] at h
 obtain⟨⟨⟨h1,h2⟩,h3⟩,h4⟩:=h
 have hk:1≤a.kind:=by
  grind [levB]
 refine⟨h1,?_,?_,by omega⟩
 ·grind [ports]
 grind [Wn]
structure ShardCell.Small (c:ShardCell):Prop where
 d:c.data.length≤4194304
 a:c.aux.length≤4194304
def emptyB (c:ShardCell):Bool:=decide (c.kind=0)&&(decide (c.level=0)&&(decide (c.value=0)&&(decide (c.data.length=0)&&decide (c.aux.length=0))))
def XX (c:ShardCell):Agent:=⟨c.kind,c.level,c.value,c.data,List.replicate (c.aux.length+1) ⟨0,0⟩⟩
def ceB (c:ShardCell):Bool:=if c.kind=0 then emptyB c else !decide (c.kind=1)&&agB (XX c)
theorem ZA {c:ShardCell} (h:c.Small):In c=some (XX c):=by
 have h1:=h.d
 have h2:=h.a
 unfold In
 rw [Lj (by grind),AA,w64 (by omega) (by omega),show ((c.aux.length:Int)+1)=((c.aux.length+1:Nat):Int) by omega,NO (by grind),AA]
 rfl
theorem gQ {c:ShardCell} (h:c.Small):IQ c=some (XX c):=by
 have h1:=h.d
 have h2:=h.a
 unfold IQ
 rw [Is (by grind),AA,w64 (by omega) (by omega),show ((c.aux.length:Int)+1)=((c.aux.length+1:Nat):Int) by omega,NO (by grind),AA]
 rfl
theorem U0 {c:ShardCell} (h:c.Small):(XX c).ports.length ≤Big∧(XX c).data.length ≤Big:=by
 have h1:=h.d
 have h2:=h.a
 grind [XX]
theorem ZB {c:ShardCell} (h:c.Small):Hq c=some (ceB c):=by
 grind [Hq,ceB,emptyB,ZA,dt,U0,XX,Y9,decide_eq_false]
theorem dx (l:List Int):Gs l [] =some (decide (l.length=0)):=by
 unfold Gs
 cases l with
 |nil=>
  have:fuel=(fuel - 1)+1:=by rw [Ax]
  rw [this,Dr]
  simp
 |cons x l=>rfl
theorem dy (l:List Address):DG l [] =some (decide (l.length=0)):=by
 unfold DG
 cases l with
 |nil=>
  have:fuel=(fuel - 1)+1:=by rw [Ax]
  rw [this,Bn]
  simp
 |cons x l=>rfl
theorem Sq (c:ShardCell):Em c ⟨0,0,0,[],[]⟩=some (emptyB c):=by
 unfold Em emptyB
 simp only [dx,dy,AA]
 by_cases h0:c.kind=0 <;> by_cases h1:c.level=0 <;> by_cases h2:c.value=0 <;> by_cases h3:c.data.length=0 <;> simp [h0,h1,h2,h3]
theorem ZC {c:ShardCell} (h:c.Small):EK c=some (ceB c):=by
 grind [EK,ceB,Sq,gQ,du,U0]
structure Shard.Small (s:Shard):Prop where
 c:∀c ∈ s.cells,c.Small
 cl:s.cells.length≤4194304
 vl:s.vars.length≤4194304
 rl:s.redexes.length≤4194304
def Qg (a:Address):Bool:=decide (a.machine=0)&&(decide (a.kind=0)&&decide (a.index=0))
def vaB (v:ShardVar):Bool:=if v.full=true then v.used else Qg v.held
def lenB (s:Shard):Bool:=decide (s.cells.length≤400∧s.vars.length≤400∧s.redexes.length≤400)
def shB (s:Shard):Bool:=lenB s&&(s.cells.all ceB&&s.vars.all vaB)
theorem jZ (v:ShardVar):Gt v=some (!vaB v):=by
 unfold Gt HZ vaB Qg
 by_cases h1:v.held.machine=0 <;> by_cases h2:v.held.kind=0 <;> by_cases h3:v.held.index=0 <;> cases v.used <;> cases v.full <;> simp [h1,h2,h3]
theorem d8 {s:Shard} (h:s.Small):IA s=some (shB s):=by
 have h1:=h.cl
 have h2:=h.vl
 have h3:=h.rl
 have hj:DE s false=some (s.cells.all ceB&&s.vars.all vaB):=by
  unfold DE
  rw [if_neg (by simp),Hx As CI (fun n l i f=>by rw [As]) (fun l f=>rfl) s.cells _ ceB (by unfold Big; omega) (fun c hc=>by unfold IR; rw [ZC (h.c c hc),AA]),AA,
   Hx Aw CP (fun n l i f=>by rw [Aw]) (fun l f=>rfl) s.vars _ vaB (by unfold Big; omega) (fun v hv=>jZ v),AA]
  cases s.cells.all ceB <;> simp
 have hj2:DE s true=some false:=rfl
 unfold IA shB lenB
 by_cases k1:s.cells.length≤400
 ·rw [decide_eq_false (by omega),if_neg (by simp)]
  by_cases k2:s.vars.length≤400
  ·rw [decide_eq_false (by omega),if_neg (by simp)]
   by_cases k3:s.redexes.length≤400
   ·rw [decide_eq_false (by omega),hj,decide_eq_true ⟨k1,k2,k3⟩,Bool.true_and]
   ·rw [decide_eq_true (by omega),hj2,decide_eq_false (by omega),Bool.false_and]
  ·rw [decide_eq_true (by omega),if_pos rfl,hj2,decide_eq_false (by omega),Bool.false_and]
 ·rw [decide_eq_true (by omega),if_pos rfl,hj2,decide_eq_false (by omega),Bool.false_and]
def Jb (g:Grid):Bool:=decide (1≤g.shards.length∧g.shards.length≤4)&&g.shards.all shB
def Uw (s:Shard):Nat:=4+(s.cells.length+2*s.vars.length)
theorem gR (g:Grid) (i:Int) (s:Shard) (hv:s.vars.length≤Big) (R:Option Bool) (B:Nat) (hR:∀n,B≤n→Ay n g (IntKind.i64.wrap (i+1))=R):∀n,B+1+2*s.vars.length≤n→BQ n g i s 0=if s.vars.all vaB=true then R else some false:=by
 intro n hn
 refine Uz s.vars vaB (fun _=>2) (fun n k=>BQ n g i s k) (some false) R (B+1) ?_ ?_ s.vars [] rfl n (by rw [Bc]; omega)
 ·intro pre x post m B' R' h hR' hm
  obtain⟨m,rfl⟩:∃k,m=k+2:=⟨m - 2,by omega⟩
  have e:BQ (m+2) g i s (pre.length:Int)=CF (m+1) g i (pre.length:Int) s (!vaB x):=by
   rw [BQ,if_pos (CD h),Ak h,AA]
   unfold vaB Qg
   cases x.full <;> cases x.used <;> simp
  show BQ (m+2) g i s (pre.length:Int)=_
  rw [e,CF,AT h hv]
  cases vaB x with
  |true=>rw [if_neg (by simp),if_pos rfl]; exact hR' m (by omega)
  |false=>simp
 ·intro n hn
  obtain⟨n,rfl⟩:∃k,n=k+1:=⟨n - 1,by omega⟩
  show BQ (n+1) g i s (s.vars.length:Int)=_
  rw [BQ,DF (pre:=s.vars) (List.append_nil _).symm,if_neg (by simp)]
  exact hR n (by omega)
theorem d9 (g:Grid) (i:Int) (s:Shard) (hs:s.Small) (R:Option Bool) (B:Nat) (hR:∀n,B≤n→Ay n g (IntKind.i64.wrap (i+1))=R):∀n,B+2+(s.cells.length+2*s.vars.length)≤n→BP n g i s 0=if (s.cells.all ceB&&s.vars.all vaB)=true then R else some false:=by
 intro n hn
 have h1:=hs.cl
 have h2:=hs.vl
 have:=Uz s.cells ceB (fun _=>1) (fun n k=>BP n g i s k) (some false) (if s.vars.all vaB=true then R else some false) (B+2+2*s.vars.length) ?_ ?_ s.cells [] rfl n (by rw [Bc]; omega)
 ·have this:BP n g i s 0=_:=this
  rw [this]
  cases s.cells.all ceB <;> simp
 ·intro pre x post m B' R' h hR' hm
  obtain⟨m,rfl⟩:∃k,m=k+1:=⟨m - 1,by omega⟩
  show BP (m+1) g i s (pre.length:Int)=_
  rw [BP,if_pos (CD h),Ak h,AA,ZB (hs.c x (by rw [h]; simp)),AA,AT h (by grind)]
  grind
 ·intro n hn
  obtain⟨n,rfl⟩:∃k,n=k+1:=⟨n - 1,by omega⟩
  show BP (n+1) g i s (s.cells.length:Int)=_
  rw [BP,DF (pre:=s.cells) (List.append_nil _).symm,if_neg (by simp)]
  exact gR g i s (by grind) R B hR n (by omega)
theorem aW {g:Grid} (hs:∀s ∈ g.shards,s.Small) (hw:szw Uw g.shards≤1099511627776) (hl:g.shards.length≤Big):JD g=some (Jb g):=by
 unfold JD Jb
 rw [Ee,AA,kJ]
 by_cases h:1≤g.shards.length∧g.shards.length≤4
 ·rw [decide_eq_true h,Bool.not_true,if_neg (by simp),Bool.true_and]
  have:=Uz g.shards shB Uw (fun n k=>Ay n g k) (some false) (some true) 1 ?_ ?_ g.shards [] rfl fuel (by rw [Ax]; omega)
  ·have this:Ay fuel g 0=_:=this
   rw [this]
   cases g.shards.all shB <;> rfl
  ·intro pre x post m B R h hR hm
   unfold Uw at hm
   obtain⟨m,rfl⟩:∃k,m=k+2:=⟨m - 2,by omega⟩
   have e:Ay (m+2) g (pre.length:Int)=C6 (m+1) g (pre.length:Int) x (!lenB x):=by
    rw [Ay,if_pos (CD h),Ak h,AA]
    grind [lenB]
   show Ay (m+2) g (pre.length:Int)=_
   rw [e,C6]
   unfold shB
   cases lenB x with
   |false=>simp
   |true=>
    rw [Bool.not_true,if_neg (by simp),Bool.true_and]
    exact d9 g _ x (hs x (by rw [h]; simp)) R B (fun n hn=>by rw [AT h hl]; grind) m (by omega)
  ·intro n hn
   obtain⟨n,rfl⟩:∃k,n=k+1:=⟨n - 1,by omega⟩
   show Ay (n+1) g (g.shards.length:Int)=_
   rw [Ay,DF (pre:=g.shards) (List.append_nil _).symm,if_neg (by simp)]
 grind [decide_eq_false]
def JL (x:Int):Bool:=decide (0≤x∧x≤1000000000)
theorem NR (l:List Int) (k:Nat) (hl:l.length≤Big):Fx l (k:Int)=some (decide (l.length=k)&&l.all JL):=by
 unfold Fx
 by_cases h:l.length=k
 ·subst h
  rw [decide_eq_true rfl,Bool.not_true,if_neg (by simp),decide_eq_true rfl,Bool.true_and]
  have:=pq (fun n i=>Du n l (l.length:Int) i) (fun x=>CK x 0 1000000000) JL l (fun n i=>by rw [Du]) hl (fun x hx=>Ee x 0 1000000000)
  omega
 grind
theorem NS (l:List Int) (hl:l.length≤Big):Gg 1000000000 l=some (l.all JL):=by
 unfold Gg
 rw [Hx Ap BC (fun n l i f=>by rw [Ap]) (fun l f=>rfl) l _ JL hl (fun w _=>?_),AA,Bool.not_not]
 unfold KI JL
 by_cases h0:w<0
 ·rw [decide_eq_true h0,if_pos rfl,decide_eq_false (by omega)]; rfl
 ·rw [decide_eq_false h0,if_neg (by simp)]
  by_cases h1:1000000000<w
  ·rw [decide_eq_true h1,decide_eq_false (by omega)]; rfl
  ·rw [decide_eq_false h1,decide_eq_true (by omega)]; rfl
theorem aX (l:List Int):Lf l [] =some (decide (l.length=0)):=by
 unfold Lf
 cases l with
 |nil=>
  have:fuel=(fuel - 1)+1:=by rw [Ax]
  rw [this,G1]
  simp
 |cons x l=>rfl
theorem aY (l:List Address):ES l [] =some (decide (l.length=0)):=by
 unfold ES
 cases l with
 |nil=>
  have:fuel=(fuel - 1)+1:=by rw [Ax]
  rw [this,CS]
  simp
 |cons x l=>rfl
theorem ZD (c:ShardCell):HI c ⟨0,0,0,[],[]⟩=some (emptyB c):=by
 unfold HI emptyB
 simp only [aX,aY,AA]
 by_cases h0:c.kind=0 <;> by_cases h1:c.level=0 <;> by_cases h2:c.value=0 <;> by_cases h3:c.data.length=0 <;> simp [h0,h1,h2,h3]
def paB (p:Parcel) (to:Int):Bool:=
 if p.kind=1 then emptyB p.cell&&decide (p.a.machine=to)
 else if p.kind=2 then emptyB p.cell&&(decide (p.a.machine=to)&&decide (p.a.kind=2))
 else if p.kind=3 then !decide (p.cell.kind=0)&&(ceB p.cell&&(Qg p.a&&decide (p.b.machine=to)))
 else if p.kind=4 then emptyB p.cell&&(Qg p.a&&Qg p.b) else false
theorem aZ {p:Parcel} (to:Int) (h:p.cell.Small):JE p to=some (paB p to):=by
 grind [JE,paB,ZD,ZB,Qg]
theorem aa {p:Parcel} (to:Int) (h:p.cell.Small):HJ p to=some (paB p to):=by
 unfold HJ Fa paB
 rw [Sq,AA,ZC h,AA]
 by_cases h1:p.kind=1
 ·simp only [h1]; cases emptyB p.cell <;> simp
 ·by_cases h2:p.kind=2
  ·simp only [h2]
   cases emptyB p.cell <;> by_cases k:p.a.machine=to <;> simp [k]
  ·by_cases h3:p.kind=3
   ·simp only [h3]
    unfold Qg
    by_cases k0:p.cell.kind=0 <;> cases ceB p.cell <;> by_cases k1:p.a.machine=0 <;> by_cases k2:p.a.kind=0 <;> by_cases k3:p.a.index=0 <;> by_cases k4:p.b.machine=to <;> simp [k0,k1,k2,k3,k4]
   ·by_cases h4:p.kind=4
    ·simp only [h4]
     unfold Qg
     cases emptyB p.cell <;> by_cases k1:p.a.machine=0 <;> by_cases k2:p.a.kind=0 <;> by_cases k3:p.a.index=0 <;> simp [k1,k2,k3]
    ·simp only [h1,h2,h3,h4]
     cases emptyB p.cell <;> simp
def allI {α:Type} (p:Nat→α→Bool):Nat→List α→Bool
 |_,[] =>true
 |i,x::l=>p i x&&allI p (i+1) l
theorem Ef {α:Type} {p:Nat→α→Bool}:∀ {l:List α} {k:Nat},allI p k l=true↔∀i x,l[i]? =some x→p (k+i) x=true
 | [],k=>by simp [allI]
 | y::l,k=>by
  rw [allI,Bool.and_eq_true,Ef]
  constructor
  ·grind
  ·intro h
   exact⟨h 0 y rfl,fun i x hi=>by rw [show k+1+i=k+(i+1) by omega]; simp_all⟩
theorem On {α β:Type} (l:List α) (p:Nat→α→Bool) (w:α→Nat) (L:Nat→Int→Option β) (F Rest:Option β) (N:Nat)
  (hL:∀ (pre:List α) (x:α) (post:List α) (m B:Nat) (R:Option β),l=pre++x::post→(∀n,B≤n→L n ((List.length (pre++[x]):Nat):Int)=R)→B+w x≤m→L m (pre.length:Int)=if p pre.length x=true then R else F)
  (hE:∀n,N≤n→L n (l.length:Int)=Rest):∀ (post pre:List α),l=pre++post→∀n,N+szw w post≤n→L n (pre.length:Int)=if allI p pre.length post=true then Rest else F
 | [],pre,h,n,hn=>by
  rw [h,List.append_nil] at hE
  simp only [szw,Nat.add_zero] at hn
  rw [hE n hn]; rfl
 |x::post,pre,h,n,hn=>by
  simp only [szw] at hn
  rw [hL pre x post n (N+szw w post) (if allI p (pre++[x]).length post=true then Rest else F) h (fun k hk=>On l p w L F Rest N hL hE post (pre++[x]) (Ba h) k hk) (by omega),allI,List.length_append,List.length_singleton]
  cases p pre.length x <;> simp
structure Cluster.Small (c:Cluster):Prop where
 g:∀s ∈ c.grid.shards,s.Small
 gl:c.grid.shards.length≤4194304
 gw:szw Uw c.grid.shards≤1099511627776
 ch:∀x ∈ c.channels,x.length≤4194304∧∀p ∈ x,p.cell.Small
 chl:c.channels.length≤4194304
 chw:szw (fun x=>2+List.length x) c.channels≤1099511627776
 co:∀x ∈ c.counts,x.length≤4194304
 col:c.counts.length≤4194304
 se:c.sent.length≤4194304
 go:c.got.length≤4194304
def chB (k:Nat) (i:Nat) (x:List Parcel):Bool:=decide (x.length≤200)&&x.all fun p=>paB p ((i % k:Nat):Int)
def dgB (k:Nat) (i:Nat) (x:List Parcel):Bool:=if i / k=i % k then decide (x.length=0) else true
def Jh (c:Cluster):Bool:=
 Jb c.grid&&(decide (c.channels.length=c.grid.shards.length*c.grid.shards.length)&&(decide (c.counts.length=c.grid.shards.length)&&(decide (c.sent.length=c.grid.shards.length)&&(decide (c.got.length=c.grid.shards.length)&&
  (c.sent.all JL&&(c.got.all JL&&(c.counts.all (fun x=>decide (x.length=7)&&x.all JL)&&(allI (dgB c.grid.shards.length) 0 c.channels&&allI (chB c.grid.shards.length) 0 c.channels))))))))
theorem gS {k:Nat} (h:1≤k):nz? (k:Int)=some ():=by
 unfold nz?
 rw [if_neg (by omega)]
theorem FM {α:Type} {l:List α} {i:Nat}:at? l (i:Int)=l[i]? :=by
 unfold at?
 rw [if_pos (by omega),Int.toNat_natCast]
theorem ZE (a b:Nat):Int.tmod (a:Int) (b:Int)=((a % b:Nat):Int):=rfl
theorem gT (a b:Nat):Int.tdiv (a:Int) (b:Int)=((a / b:Nat):Int):=rfl
theorem gU (c:Cluster) (hc:c.Small) (hk:1≤c.grid.shards.length):BT fuel c 0=some (allI (chB c.grid.shards.length) 0 c.channels):=by
 have h1:=hc.chl
 have:=On c.channels (chB c.grid.shards.length) (fun x=>2+List.length x) (fun n i=>BT n c i) (some false) (some true) 1 ?_ ?_ c.channels [] rfl fuel (by have:=hc.chw; rw [Ax]; omega)
 ·have this:BT fuel c 0=_:=this
  rw [this,List.length_nil]
  cases allI (chB c.grid.shards.length) 0 c.channels <;> rfl
 ·intro pre x post m B R h hR hm
  obtain⟨m,rfl⟩:∃k,m=k+1:=⟨m - 1,by omega⟩
  obtain⟨hx1,hx2⟩:=hc.ch x (by rw [h]; simp)
  show BT (m+1) c (pre.length:Int)=_
  rw [BT,if_pos (CD h),Ak h,AA]
  unfold chB
  by_cases h2:x.length≤200
  ·rw [decide_eq_false (by omega),if_neg (by simp),decide_eq_true h2,Bool.true_and]
   have:=Uz x (fun p=>paB p ((pre.length % c.grid.shards.length:Nat):Int)) (fun _=>1) (fun n j=>CU n c (pre.length:Int) j) (some false) R (B+1) ?_ ?_ x [] rfl m (by rw [Bc]; omega)
   ·omega
   ·intro pre2 y post2 m2 B2 R2 h2 hR2 hm2
    obtain⟨m2,rfl⟩:∃k,m2=k+1:=⟨m2 - 1,by omega⟩
    show CU (m2+1) c (pre.length:Int) (pre2.length:Int)=_
    rw [CU,Ak h,AA,if_pos (CD h2),AA,Ak h2,AA,gS hk,AA,ZE,aZ _ (hx2 y (by rw [h2]; simp)),AA,AT h2 (by grind)]
    grind
   ·intro n hn
    obtain⟨n,rfl⟩:∃k,n=k+1:=⟨n - 1,by omega⟩
    show CU (n+1) c (pre.length:Int) (x.length:Int)=_
    rw [CU,Ak h,AA,DF (pre:=x) (List.append_nil _).symm,if_neg (by simp),AT h (by grind)]
    grind
  grind
 ·intro n hn
  obtain⟨n,rfl⟩:∃k,n=k+1:=⟨n - 1,by omega⟩
  show BT (n+1) c (c.channels.length:Int)=_
  rw [BT,DF (pre:=c.channels) (List.append_nil _).symm,if_neg (by simp)]
theorem gV (C:List (List Parcel)) (k:Nat) (hk:1≤k∧k≤4) (hC:∀x ∈ C,x.length≤4194304∧∀p ∈ x,p.cell.Small) (hl:C.length≤4194304):GE C (k:Int)=some (decide (C.length=k*k)&&(allI (dgB k) 0 C&&allI (chB k) 0 C)):=by
 have hkk:k*k≤4*4:=Nat.mul_le_mul hk.2 hk.2
 unfold GE
 rw [← Int.natCast_mul,w64 (by omega) (by omega)]
 by_cases h0:C.length=k*k
 ·rw [decide_eq_true (by omega),Bool.not_true,if_neg (by simp),decide_eq_true h0,Bool.true_and]
  have:=On C (fun i x=>dgB k i x&&chB k i x) (fun _=>2) (fun n i=>Az n C (k:Int) i) (some false) (some true) 1 ?_ ?_ C [] rfl fuel (by rw [Bc,Ax]; omega)
  ·have this:Az fuel C (k:Int) 0=_:=this
   rw [this,List.length_nil]
   have e:allI (fun i x=>dgB k i x&&chB k i x) 0 C=(allI (dgB k) 0 C&&allI (chB k) 0 C):=by
    rw [Bool.eq_iff_iff,Bool.and_eq_true,Ef,Ef,Ef]
    grind
   rw [e]
   cases (allI (dgB k) 0 C&&allI (chB k) 0 C) <;> rfl
  ·intro pre x post m B R h hR hm
   obtain⟨m,rfl⟩:∃k,m=k+2:=⟨m - 2,by omega⟩
   obtain⟨hx1,hx2⟩:=hC x (by rw [h]; simp)
   have hlen:pre.length≤C.length:=by rw [h]; simp
   have hd:pre.length / k≤pre.length:=Nat.div_le_self _ _
   have hcf:BN x (fun y0=>Dq y0 ((pre.length % k:Nat):Int))=some (!x.all fun p=>paB p ((pre.length % k:Nat):Int)):=
    Hx A5 BN (fun n l i f=>by rw [A5]) (fun l f=>rfl) x _ _ (by grind) (fun p hp=>by unfold Dq; rw [aa _ (hx2 p hp),AA])
   have e:Az (m+2) C (k:Int) (pre.length:Int)=BK (m+1) C (k:Int) (pre.length:Int) (!(dgB k pre.length x&&chB k pre.length x)):=by
    rw [Az,if_pos (CD h),Ak h,AA,gS hk.1,AA,AA,ZE,gT,hcf,AA]
    grind [dgB,chB,w64,decide_eq_false]
   grind [BK,AT]
  ·intro n hn
   obtain⟨n,rfl⟩:∃k,n=k+1:=⟨n - 1,by omega⟩
   show Az (n+1) C (k:Int) (C.length:Int)=_
   rw [Az,DF (pre:=C) (List.append_nil _).symm,if_neg (by simp)]
 grind
def cdB (c:Cluster) (i:Nat):Bool:=((c.counts[i]?).map fun x=>decide (x.length=7)&&x.all JL).getD false&&((c.channels[i*c.grid.shards.length+i]?).map fun x=>decide (x.length=0)).getD false
theorem mP (c:Cluster) (hk:1≤c.grid.shards.length) (h1:c.channels.length=c.grid.shards.length*c.grid.shards.length) (h2:c.counts.length=c.grid.shards.length):
  allI (fun i (_:Shard)=>cdB c i) 0 c.grid.shards=(c.counts.all (fun x=>decide (x.length=7)&&x.all JL)&&allI (dgB c.grid.shards.length) 0 c.channels):=by
 generalize hkk:c.grid.shards.length=k at*
 have hr:∀i,i<k→i*k+i<k*k:=fun i hi=>by
  have:(i+1)*k≤k*k:=Nat.mul_le_mul_right k hi
  rw [Nat.add_mul] at this
  omega
 rw [Bool.eq_iff_iff,Bool.and_eq_true,Ef,Ef,List.all_eq_true]
 simp only [Nat.zero_add]
 constructor
 ·intro h
  have h':∀i,i<k→cdB c i=true:=fun i hi=>h i c.grid.shards[i] (List.getElem?_eq_getElem (by omega))
  constructor
  ·grind [List.getElem_of_mem,cdB]
  ·intro i x hi
   unfold dgB
   split
   ·rename_i e
    have hik:i<k*k:=by rw [← h1]; grind
    have hm:i % k<k:=Nat.mod_lt _ (by omega)
    have he:i % k*k+i % k=i:=by
     grind [Nat.div_add_mod]
    grind [cdB]
   ·rfl
 grind [cdB,dgB,Nat.mul_comm,Nat.mul_add_div,Nat.mul_add_mod,Nat.div_eq_of_lt,Nat.mod_eq_of_lt]
theorem ZF (c:Cluster) (hc:c.Small):JF c=some (Jh c):=by
 have h1:=hc.chl
 have h2:=hc.col
 have h3:=hc.gl
 unfold JF Jh
 rw [aW hc.g hc.gw (by grind),AA]
 have bad:CV c true=some false:=rfl
 cases hg:Jb c.grid with
 |false=>rw [Bool.not_false,if_pos rfl,bad]; rfl
 | true =>
  have hk:1≤c.grid.shards.length∧c.grid.shards.length≤4:=by
   grind [Jb]
  have hkk:c.grid.shards.length*c.grid.shards.length≤4*4:=Nat.mul_le_mul hk.2 hk.2
  rw [Bool.not_true,if_neg (by simp),Bool.true_and,← Int.natCast_mul,w64 (by omega) (by omega)]
  by_cases k1:c.channels.length=c.grid.shards.length*c.grid.shards.length
  ·rw [decide_eq_true (by omega),Bool.not_true,if_neg (by simp),decide_eq_true k1,Bool.true_and]
   by_cases k2:c.counts.length=c.grid.shards.length
   ·rw [decide_eq_true (by omega),Bool.not_true,if_neg (by simp),decide_eq_true k2,Bool.true_and,NR _ _ (by have:=hc.se; grind),AA,NR _ _ (by have:=hc.go; grind),AA]
    have hj:CV c false=some (c.counts.all (fun x=>decide (x.length=7)&&x.all JL)&&allI (dgB c.grid.shards.length) 0 c.channels&&allI (chB c.grid.shards.length) 0 c.channels):=by
     unfold CV
     rw [if_neg (by simp),← mP c hk.1 k1 k2]
     have:=On c.grid.shards (fun i (_:Shard)=>cdB c i) (fun _=>2) (fun n i=>B1 n c i) (some false) (some (allI (chB c.grid.shards.length) 0 c.channels)) 1 ?_ ?_ c.grid.shards [] rfl fuel (by rw [Bc,Ax]; omega)
     ·have this:B1 fuel c 0=_:=this
      rw [this,List.length_nil]
      cases allI (fun i (_:Shard)=>cdB c i) 0 c.grid.shards <;> simp
     ·intro pre x post m B R h hR hm
      obtain⟨m,rfl⟩:∃k,m=k+2:=⟨m - 2,by omega⟩
      have hlt:pre.length<c.grid.shards.length:=by rw [h]; simp
      have hlt2:pre.length*c.grid.shards.length+pre.length<c.channels.length:=by
       grind [Nat.add_mul]
      have e:B1 (m+2) c (pre.length:Int)=ET (m+1) c (pre.length:Int) (!cdB c pre.length):=by
       rw [B1,if_pos (CD h),FM,List.getElem?_eq_getElem (show pre.length<c.counts.length by omega),AA,show (7:Int)=((7:Nat):Int) from rfl,NR _ 7 (by have:=hc.co _ (List.getElem_mem (show pre.length<c.counts.length by omega)); grind),AA,
        ← Int.natCast_mul,(w64 (by omega) (by omega):IntKind.i64.wrap ((pre.length*c.grid.shards.length:Nat):Int)=_),← Int.natCast_add,w64 (by omega) (by omega),FM,List.getElem?_eq_getElem hlt2,AA]
       grind [cdB,decide_eq_false]
      grind [ET,AT]
     ·intro n hn
      obtain⟨n,rfl⟩:∃k,n=k+1:=⟨n - 1,by omega⟩
      grind [B1,gU]
    have hj2:=hj
    by_cases k3:c.sent.length=c.grid.shards.length <;> by_cases k4:c.got.length=c.grid.shards.length <;> cases c.sent.all JL <;> cases c.got.all JL <;> simp [k3,k4,hj,bad,Bool.and_assoc]
   grind
  grind
def AM {α β:Type} (e:Nat→α→List β):Nat→List α→List β
 |_,[] =>[]
 |i,x::l=>e i x++AM e (i+1) l
theorem Oo {α β γ:Type} (l:List α) (e:Nat→α→List β) (w:α→Nat) (L:Nat→List β→Int→Option γ) (T:List β) (Z:Option γ) (N:Nat)
  (hL:∀ (pre:List α) (x:α) (post:List α) (acc:List β) (m B:Nat) (R:Option γ),l=pre++x::post→acc.length+(e pre.length x).length ≤Big→(∀n,B≤n→L n (acc++e pre.length x) ((List.length (pre++[x]):Nat):Int)=R)→B+w x≤m→L m acc (pre.length:Int)=R)
  (hE:∀n,N≤n→L n T (l.length:Int)=Z) (hB:T.length≤Big):∀ (post pre:List α) (acc:List β) (n:Nat),l=pre++post→T=acc++AM e pre.length post→N+szw w post≤n→L n acc (pre.length:Int)=Z
 | [],pre,acc,n,h,hT,hn=>by
  rw [h,List.append_nil] at hE
  rw [AM,List.append_nil] at hT
  grind
 |x::post,pre,acc,n,h,hT,hn=>by
  simp only [szw] at hn
  rw [AM] at hT
  have hB':=hB
  rw [hT,List.length_append,List.length_append] at hB'
  refine hL pre x post acc n (N+szw w post) _ h (by omega) (fun k hk=>?_) (by omega)
  exact Oo l e w L T Z N hL hE hB post (pre++[x]) (acc++e pre.length x) k (Ba h) (by rw [hT,List.length_append,List.length_singleton,List.append_assoc]) hk
def nam (a:Address):Thing:=⟨a,0,false⟩
def G9 (a:Address) (k:Nat) (x:Address):List Statement:=[⟨⟨a,((k+1:Nat):Int),true⟩,nam x⟩]
def IV (m:Int) (i:Nat) (c:ShardCell):List Statement:=AM (G9 ⟨m,1,(i:Int)⟩) 0 c.aux
def Ig (_:Nat) (r:ShardRedex):List Statement:=[⟨nam r.a,nam r.b⟩]
def FN (m:Int) (i:Nat) (v:ShardVar):List Statement:=if v.full=true then [⟨nam ⟨m,2,(i:Int)⟩,nam v.held⟩] else []
def E4 (m:Nat) (s:Shard):List Statement:=AM (IV (m:Int)) 0 s.cells++(AM Ig 0 s.redexes++AM (FN (m:Int)) 0 s.vars)
def NT (g:Grid):Statement:=⟨⟨⟨0,0,0⟩,0,true⟩,nam g.root⟩
def It (g:Grid):List Statement:=NT g::AM E4 0 g.shards
def GA (ch:Int) (i:Nat) (p:Parcel):List Statement:=
 if p.kind=1∨p.kind=2 then [⟨nam p.a,nam p.b⟩]
 else if p.kind=3 then AM (G9 ⟨ch,3,(i:Int)⟩) 0 p.cell.aux++[⟨⟨⟨ch,3,(i:Int)⟩,0,true⟩,nam p.b⟩] else []
def GU (ch:Nat) (x:List Parcel):List Statement:=AM (GA (ch:Int)) 0 x
def KU (c:Cluster):List Statement:=AM GU 0 c.channels
theorem IW {α β:Type} {e:Nat→α→List β} {b:Nat}:∀ {l:List α} {k:Nat},(∀i x,x ∈ l→(e i x).length ≤b)→(AM e k l).length ≤b*l.length
 | [],_,_=>by simp [AM]
 |x::l,k,h=>by
  have h1:=IW (k:=k+1) (fun i y hy=>h i y (List.mem_cons_of_mem _ hy))
  grind [AM,Nat.mul_succ]
theorem bz (a:Address) (l:List Address) (hl:l.length≤4194304):En a l=some (AM (G9 a) 0 l):=by
 have hfl:(AM (G9 a) 0 l).length ≤1*l.length:=IW fun i x _=>Nat.le_refl _
 unfold En
 refine Oo l (G9 a) (fun _=>1) (fun n acc i=>BL n a l acc i) (AM (G9 a) 0 l) _ 1 ?_ ?_ (by grind) l [] [] fuel rfl rfl (by rw [Bc,Ax]; omega)
 ·intro pre x post acc m B R h hB hR hm
  obtain⟨m,rfl⟩:∃k,m=k+1:=⟨m - 1,by omega⟩
  have hlt:pre.length<l.length:=by rw [h]; simp
  show BL (m+1) a l acc (pre.length:Int)=R
  rw [BL,if_pos (CD h),Ak h,AA,AT h (by grind),List.length_append,List.length_singleton]
  unfold NK
  rw [decide_eq_true (by omega),if_pos rfl,AA,EF (by rw [G9] at hB; exact hB),AA]
  have:=hR m (by omega)
  rw [List.length_append,List.length_singleton] at this
  exact this
 ·intro n hn
  obtain⟨n,rfl⟩:∃k,n=k+1:=⟨n - 1,by omega⟩
  show BL (n+1) a l (AM (G9 a) 0 l) (l.length:Int)=_
  rw [BL,DF (pre:=l) (List.append_nil _).symm,if_neg (by simp)]
theorem ja (g:Grid) (m:Nat) (s:Shard) (hs:s.Small) (Z:Option (List Statement)) (N:Nat) (acc:List Statement) (hB:(acc++AM (FN (m:Int)) 0 s.vars).length ≤Big) (hZ:∀n,N≤n→AZ n g (acc++AM (FN (m:Int)) 0 s.vars) (IntKind.i64.wrap ((m:Int)+1))=Z):∀n,N+1+s.vars.length≤n→Ao n g (m:Int) s acc 0=Z:=by
 intro n hn
 have h1:=hs.vl
 refine Oo s.vars (FN (m:Int)) (fun _=>1) (fun n acc i=>Ao n g (m:Int) s acc i) (acc++AM (FN (m:Int)) 0 s.vars) Z (N+1) ?_ ?_ hB s.vars [] acc n rfl rfl (by rw [Bc]; omega)
 ·intro pre x post acc k B R h hB hR hm
  obtain⟨k,rfl⟩:∃j,k=j+1:=⟨k - 1,by omega⟩
  show Ao (k+1) g (m:Int) s acc (pre.length:Int)=R
  have hR':=hR k (by omega)
  rw [Ao,if_pos (CD h),Ak h,AA,AT h (by grind)]
  grind [FN,nam,G3,EF]
 ·intro n hn
  obtain⟨n,rfl⟩:∃k,n=k+1:=⟨n - 1,by omega⟩
  grind [Ao]
theorem mQ (g:Grid) (m:Nat) (s:Shard) (hs:s.Small) (Z:Option (List Statement)) (N:Nat) (acc:List Statement) (hB:(acc++(AM Ig 0 s.redexes++AM (FN (m:Int)) 0 s.vars)).length ≤Big) (hZ:∀n,N≤n→AZ n g (acc++(AM Ig 0 s.redexes++AM (FN (m:Int)) 0 s.vars)) (IntKind.i64.wrap ((m:Int)+1))=Z):∀n,N+2+(s.redexes.length+s.vars.length)≤n→An n g (m:Int) s acc 0=Z:=by
 intro n hn
 have h1:=hs.rl
 rw [← List.append_assoc] at hB hZ
 have hB2:=hB
 rw [List.length_append] at hB2
 refine Oo s.redexes Ig (fun _=>1) (fun n acc i=>An n g (m:Int) s acc i) (acc++AM Ig 0 s.redexes) Z (N+2+s.vars.length) ?_ ?_ (by omega) s.redexes [] acc n rfl rfl (by rw [Bc]; omega)
 ·intro pre x post acc k B R h hB hR hm
  obtain⟨k,rfl⟩:∃j,k=j+1:=⟨k - 1,by omega⟩
  show An (k+1) g (m:Int) s acc (pre.length:Int)=R
  have hR':=hR k (by omega)
  unfold Ig nam at hR' hB
  rw [An,if_pos (CD h),Ak h,AA,AT h (by grind),EF hB,AA]
  omega
 ·intro n hn
  obtain⟨n,rfl⟩:∃k,n=k+1:=⟨n - 1,by omega⟩
  show An (n+1) g (m:Int) s _ (s.redexes.length:Int)=_
  rw [An,DF (pre:=s.redexes) (List.append_nil _).symm,if_neg (by simp)]
  exact ja g m s hs Z N _ hB hZ n (by omega)
theorem jb (g:Grid) (m:Nat) (s:Shard) (hs:s.Small) (Z:Option (List Statement)) (N:Nat) (acc:List Statement) (hB:(acc++E4 m s).length ≤Big) (hZ:∀n,N≤n→AZ n g (acc++E4 m s) (IntKind.i64.wrap ((m:Int)+1))=Z):∀n,N+3+(s.cells.length+(s.redexes.length+s.vars.length))≤n→Am n g (m:Int) s acc 0=Z:=by
 intro n hn
 have h1:=hs.cl
 unfold E4 at hB hZ
 rw [← List.append_assoc] at hB hZ
 have hB2:=hB
 rw [List.length_append] at hB2
 refine Oo s.cells (IV (m:Int)) (fun _=>1) (fun n acc i=>Am n g (m:Int) s acc i) (acc++AM (IV (m:Int)) 0 s.cells) Z (N+3+(s.redexes.length+s.vars.length)) ?_ ?_ (by omega) s.cells [] acc n rfl rfl (by rw [Bc]; omega)
 ·intro pre x post acc k B R h hB hR hm
  obtain⟨k,rfl⟩:∃j,k=j+1:=⟨k - 1,by omega⟩
  show Am (k+1) g (m:Int) s acc (pre.length:Int)=R
  have hR':=hR k (by omega)
  unfold IV at hR' hB
  rw [Am,if_pos (CD h),Ak h,AA,AT h (by grind),GO,AA,bz _ _ (hs.c x (by rw [h]; simp)).a,AA,EF hB,AA]
  omega
 ·intro n hn
  obtain⟨n,rfl⟩:∃k,n=k+1:=⟨n - 1,by omega⟩
  show Am (n+1) g (m:Int) s _ (s.cells.length:Int)=_
  rw [Am,DF (pre:=s.cells) (List.append_nil _).symm,if_neg (by simp)]
  exact mQ g m s hs Z N _ hB hZ n (by omega)
def Ux (s:Shard):Nat:=4+(s.cells.length+(s.redexes.length+s.vars.length))
theorem jc (g:Grid) (hs:∀s ∈ g.shards,s.Small) (hl:g.shards.length≤4194304) (hw:szw Ux g.shards≤1099511627776) (hB:(It g).length ≤Big):Ez g=some (It g):=by
 unfold Ez NK
 rw [if_neg (by simp),AA]
 refine Oo g.shards E4 Ux (fun n acc i=>AZ n g acc i) (It g) _ 1 ?_ ?_ hB g.shards [] [NT g] fuel rfl rfl (by rw [Ax]; omega)
 ·intro pre x post acc k B R h hB hR hm
  unfold Ux at hm
  obtain⟨k,rfl⟩:∃j,k=j+1:=⟨k - 1,by omega⟩
  show AZ (k+1) g acc (pre.length:Int)=R
  rw [AZ,if_pos (CD h),Ak h,AA]
  exact jb g pre.length x (hs x (by rw [h]; simp)) R B acc (by rw [List.length_append]; exact hB) (fun n hn=>by rw [AT h (by grind)]; grind) k (by omega)
 ·intro n hn
  obtain⟨n,rfl⟩:∃k,n=k+1:=⟨n - 1,by omega⟩
  show AZ (n+1) g _ (g.shards.length:Int)=_
  rw [AZ,DF (pre:=g.shards) (List.append_nil _).symm,if_neg (by simp)]
theorem jd (c:Cluster) (i:Nat) (x:List Parcel) (hx:x.length≤4194304∧∀p ∈ x,p.cell.Small) (Z:Option (List Statement)) (N:Nat) (acc:List Statement) (hB:(acc++GU i x).length ≤Big) (hZ:∀n,N≤n→AR n c (acc++GU i x) (IntKind.i64.wrap ((i:Int)+1))=Z):∀n,N+1+2*x.length≤n→AN n c (i:Int) x acc 0=Z:=by
 intro n hn
 refine Oo x (GA (i:Int)) (fun _=>2) (fun n acc j=>AN n c (i:Int) x acc j) (acc++GU i x) Z (N+1) ?_ ?_ hB x [] acc n rfl rfl (by rw [Bc]; omega)
 ·intro pre p post acc k B R h hB hR hm
  obtain⟨k,rfl⟩:∃j,k=j+2:=⟨k - 2,by omega⟩
  have hR':=hR k (by omega)
  have hp:=hx.2 p (by rw [h]; simp)
  have e:AN (k+2) c (i:Int) x acc (pre.length:Int)=Ar (k+1) c (i:Int) acc (pre.length:Int) x p (decide (p.kind=1∨p.kind=2)):=by
   rw [AN,if_pos (CD h),Ak h,AA]
   grind
  show AN (k+2) c (i:Int) x acc (pre.length:Int)=R
  rw [e,Ar,AT h (by grind)]
  unfold GA nam at hR' hB
  by_cases h1:p.kind=1∨p.kind=2
  ·rw [if_pos h1] at hR' hB
   rw [decide_eq_true h1,if_pos rfl,EF hB,AA]
   omega
  ·rw [if_neg h1] at hR' hB
   rw [decide_eq_false h1,if_neg (by simp)]
   by_cases h3:p.kind=3
   ·rw [if_pos h3] at hR' hB
    rw [List.length_append] at hB
    rw [decide_eq_true h3,if_pos rfl,HY,AA,bz _ _ hp.a,AA,EF (by omega),AA,NK,if_neg (by simp),AA,EF (by rw [List.length_append]; omega),AA]
    rw [← List.append_assoc] at hR'
    grind
   grind
 ·intro n hn
  obtain⟨n,rfl⟩:∃k,n=k+1:=⟨n - 1,by omega⟩
  grind [AN]
theorem mR (c:Cluster) (hc:c.Small) (hw:szw (fun x=>2+2*List.length x) c.channels≤1099511627776) (hB:(KU c).length ≤Big):B9 c=some (KU c):=by
 have h1:=hc.chl
 unfold B9
 refine Oo c.channels GU (fun x=>2+2*List.length x) (fun n acc i=>AR n c acc i) (KU c) _ 1 ?_ ?_ hB c.channels [] [] fuel rfl rfl (by rw [Ax]; omega)
 ·intro pre x post acc k B R h hB hR hm
  obtain⟨k,rfl⟩:∃j,k=j+1:=⟨k - 1,by omega⟩
  show AR (k+1) c acc (pre.length:Int)=R
  rw [AR,if_pos (CD h),Ak h,AA]
  exact jd c pre.length x (hc.ch x (by rw [h]; simp)) R B acc (by rw [List.length_append]; exact hB) (fun n hn=>by rw [AT h (by grind)]; grind) k (by omega)
 ·intro n hn
  obtain⟨n,rfl⟩:∃k,n=k+1:=⟨n - 1,by omega⟩
  show AR (n+1) c _ (c.channels.length:Int)=_
  rw [AR,DF (pre:=c.channels) (List.append_nil _).symm,if_neg (by simp)]
def aliveB (g:Grid) (a:Address):Bool:=match at? g.shards a.machine with
 |some s=>if a.kind=1 then (match at? s.cells a.index with|some c=> !decide (c.kind=0)|none=>false)
  else if a.kind=2 then (match at? s.vars a.index with|some v=>v.used|none=>false) else false
 |none=>false
theorem eA (g:Grid) (a:Address):Fz g a=some (aliveB g a):=by
 have bad:Dw g a true=some false:=rfl
 unfold Fz aliveB
 by_cases h1:a.machine<0
 ·rw [decide_eq_true h1,if_pos rfl,bad,Jg (by omega)]
 ·rw [decide_eq_false h1,if_neg (by simp)]
  by_cases h2:(g.shards.length:Int)≤a.machine
  ·rw [decide_eq_true h2,if_pos rfl,bad,Jg (by omega)]
  ·rw [decide_eq_false h2,if_neg (by simp)]
   obtain⟨s,hs,-⟩:=Rq (l:=g.shards) (i:=a.machine) (by omega)
   rw [hs]
   simp only
   by_cases h3:a.index<0
   ·rw [decide_eq_true h3,bad,Jg (by omega),Jg (by omega)]
    simp
   ·rw [decide_eq_false h3]
    unfold Dw
    rw [if_neg (by simp),hs,AA]
    by_cases h4:a.kind=1
    ·rw [decide_eq_true h4,if_pos rfl,if_pos h4]
     by_cases h5:a.index<(s.cells.length:Int)
     ·obtain⟨c,hc,-⟩:=Rq (l:=s.cells) (i:=a.index) (by omega)
      rw [decide_eq_true h5,if_pos rfl,hc,AA]
     grind [Jg]
    ·rw [decide_eq_false h4,if_neg (by simp),if_neg h4]
     by_cases h6:a.kind=2
     ·rw [decide_eq_true h6,if_pos rfl,if_pos h6]
      by_cases h5:a.index<(s.vars.length:Int)
      ·obtain⟨c,hc,-⟩:=Rq (l:=s.vars) (i:=a.index) (by omega)
       rw [decide_eq_true h5,if_pos rfl,hc,AA]
      grind [Jg]
     grind
theorem Lk (g:Grid) (a:Address) (hl:g.shards.length≤4194304) (hs:∀s ∈ g.shards,s.Small):Fy g a=some (aliveB g a):=by
 unfold Fy aliveB
 rw [w64 (by omega) (by omega),Ee,AA]
 by_cases h1:0≤a.machine∧a.machine≤(g.shards.length:Int) - 1
 ·obtain⟨s,h2,hm⟩:=Rq (l:=g.shards) (i:=a.machine) (by omega)
  have k1:=(hs s hm).cl
  have k2:=(hs s hm).vl
  rw [decide_eq_true h1,Bool.not_true,if_neg (by simp),h2,AA]
  simp only
  by_cases h4:a.kind=1
  ·rw [decide_eq_true h4,if_pos rfl,if_pos h4,w64 (by omega) (by omega),Ee,AA]
   by_cases h5:0≤a.index∧a.index≤(s.cells.length:Int) - 1
   ·obtain⟨c,hc,-⟩:=Rq (l:=s.cells) (i:=a.index) (by omega)
    rw [decide_eq_true h5,if_pos rfl,hc,AA]
   ·rw [decide_eq_false h5,if_neg (by simp),Jg (by omega)]
  ·rw [decide_eq_false h4,if_neg (by simp),if_neg h4]
   by_cases h6:a.kind=2
   ·rw [decide_eq_true h6,if_pos rfl,if_pos h6,w64 (by omega) (by omega),Ee,AA]
    by_cases h5:0≤a.index∧a.index≤(s.vars.length:Int) - 1
    ·obtain⟨c,hc,-⟩:=Rq (l:=s.vars) (i:=a.index) (by omega)
     rw [decide_eq_true h5,if_pos rfl,hc,AA]
    ·rw [decide_eq_false h5,if_neg (by simp),Jg (by omega)]
   ·rw [decide_eq_false h6,if_neg (by simp),if_neg h6]
 ·rw [decide_eq_false h1,Bool.not_false,if_pos rfl,Jg (by omega)]
def thB (g:Grid) (t:Thing):Bool:=t.own||aliveB g t.att
def stB (g:Grid) (s:Statement):Bool:=thB g s.a&&thB g s.b
def keyA (a:Address):List Int:=[a.machine,a.kind,a.index]
def cntT (t:Thing) (k:List Int):Nat:=if t.own=false∧keyA t.att=k then 1 else 0
def cntS:List Statement→List Int→Nat
 | [],_=>0
 |s::l,k=>cntT s.a k+(cntT s.b k+cntS l k)
theorem XY (t:Thing) (k:List Int):cntT t k≤1:=by unfold cntT; split <;> omega
theorem cB (k:List Int):∀l:List Statement,cntS l k≤2*l.length
 | [] =>by simp [cntS]
 |s::l=>by have:=cB k l; have:=XY s.a k; have:=XY s.b k; rw [cntS,List.length_cons]; omega
theorem Sr (k:List Int):∀l m:List Statement,cntS (l++m) k=cntS l k+cntS m k
 | [],m=>by simp [cntS]
 |s::l,m=>by rw [List.cons_append,cntS,cntS,Sr k l m]; omega
structure Tells' (M:List (List Int × Int)) (f:List Int→Nat) (n:Nat):Prop where
 v:∀k,(EM M k).getD 0=((f k:Nat):Int)
 len:M.length≤n
theorem Wp {k:List Int} {v:Int}:∀ {M:List (List Int × Int)},(JT M k v).length ≤M.length+1
 | [] =>by simp [JT]
 |p::M=>by
  rw [JT]
  split
  ·simp
  ·have:=Wp (k:=k) (v:=v) (M:=M); grind
theorem ZG {k k':List Int} {v:Int}:∀ {M:List (List Int × Int)},EM (JT M k v) k'=if k'=k then some v else EM M k'
 | [] =>by simp [JT,EM]
 | p::M=>by
  rw [JT]
  by_cases h:k=p.1
  ·rw [if_pos h]
   simp only [EM]
   by_cases h2:k'=k
   ·rw [if_pos h2,if_pos h2]
   ·rw [if_neg h2,if_neg h2,if_neg (by rw [← h]; exact h2)]
  ·rw [if_neg h]
   simp only [EM]
   by_cases h2:k'=p.1
   ·rw [if_pos h2,if_pos h2,if_neg (by rw [h2]; exact fun e=>h e.symm)]
   ·rw [if_neg h2,if_neg h2,ZG]
theorem eC {M f n} {t:Thing} (h:Tells' M f n) (ho:t.own=false) (hn:n<68719476736) (hf:∀k,f k≤68719476736):
  ∃M',PL M [t.att.machine,t.att.kind,t.att.index] (IntKind.i64.wrap ((EM M [t.att.machine,t.att.kind,t.att.index]).getD 0+1))=some M'∧Tells' M' (fun k=>f k+cntT t k) (n+1):=by
 have h1:=h.len
 have h2:=hf (keyA t.att)
 have hv:=h.v (keyA t.att)
 unfold keyA at hv h2
 refine⟨JT M (keyA t.att) (((f (keyA t.att)+1:Nat):Int)),?_,⟨fun k=>?_,?_⟩⟩
 ·unfold PL
  rw [if_pos (by omega),hv,w64 (by omega) (by omega)]
  rfl
 ·rw [ZG]
  unfold cntT
  by_cases e:k=keyA t.att
  ·rw [if_pos e,if_pos ⟨ho,e.symm⟩,e]; rfl
  ·rw [if_neg e,if_neg (fun h=>e h.2.symm),h.v k,Nat.add_zero]
 grind [Wp]
theorem eD {M f n} {t:Thing} (h:Tells' M f n) (ho:t.own=true):Tells' M (fun k=>f k+cntT t k) (n+1):=
 ⟨fun k=>by rw [h.v k]; unfold cntT; rw [if_neg (by rw [ho]; simp),Nat.add_zero],Nat.le_succ_of_le h.len⟩
theorem ZH (L:List Statement) (hL:L.length≤4194304):∀ (post pre:List Statement) (M:List (List Int × Int)) (n:Nat),L=pre++post→Tells' M (cntS pre) (2*pre.length)→4*post.length<n→∃M',Ex n L M (pre.length:Int)=some M'∧Tells' M' (cntS L) (2*L.length)
 | [],pre,M,n,h,hT,hn=>by
  obtain⟨n,rfl⟩:∃k,n=k+1:=⟨n - 1,by omega⟩
  rw [h,List.append_nil] at*
  grind [Ex]
 | s::post,pre,M,n,h,hT,hn=>by
  rw [List.length_cons] at hn
  obtain⟨n,rfl⟩:∃k,n=k+4:=⟨n - 4,by omega⟩
  have hlt:pre.length<L.length:=by rw [h]; simp
  have one:∀ (M:List (List Int × Int)) (f:List Int→Nat) (q:Nat) (t:Thing) (i:Int) (k:Nat),at? [s.a,s.b] i=some t→decide (i<2)=true→Tells' M f q→q<68719476736→(∀k,f k≤68719476736)→
    ∃M',Dh (k+1) L (pre.length:Int) s M i=Dh k L (pre.length:Int) s M' (IntKind.i64.wrap (i+1))∧Tells' M' (fun k=>f k+cntT t k) (q+1):=by
   intro M f q t i k hi h2 hM hq hf
   cases ho:t.own with
   |true=>exact⟨M,by rw [Dh,if_pos h2,hi,AA,ho,if_neg (by simp)],eD hM ho⟩
   |false=>
    grind [eC,Dh]
  have hb:∀k,cntS pre k≤4194304*2:=fun k=>by grind [cB]
  obtain⟨M1,e1,t1⟩:=one M (cntS pre) (2*pre.length) s.a 0 (n+2) rfl (by decide) hT (by omega) (fun k=>by grind)
  obtain⟨M2,e2,t2⟩:=one M1 _ (2*pre.length+1) s.b 1 (n+1) rfl (by decide) t1 (by omega) (fun k=>by grind [XY])
  have hT':Tells' M2 (cntS (pre++[s])) (2*(pre++[s]).length):=by
   refine⟨fun k=>?_,by have:=t2.len; rw [List.length_append,List.length_singleton]; omega⟩
   rw [t2.v k,Sr]
   simp only [cntS]
   rw [show cntS pre k+cntT s.a k+cntT s.b k=cntS pre k+(cntT s.a k+(cntT s.b k+0)) by omega]
  obtain⟨M',e3,t3⟩:=ZH L hL post (pre++[s]) M2 n (Ba h) hT' (by omega)
  refine⟨M',?_,t3⟩
  rw [Ex,if_pos (CD h),Ak h,AA,e1,show IntKind.i64.wrap (0+1)=1 from rfl,e2,show IntKind.i64.wrap (1+1)=2 from rfl,Dh,if_neg (by decide),AT h (by grind)]
  exact e3
def U1 (L:List Statement) (m:Nat) (i:Nat) (c:ShardCell):Bool:=if c.kind=0 then true else decide (cntS L [(m:Int),1,(i:Int)] =1)
def varR (L:List Statement) (m:Nat) (i:Nat) (v:ShardVar):Bool:=if v.used=true then decide (cntS L [(m:Int),2,(i:Int)] =2) else true
def shR (L:List Statement) (m:Nat) (s:Shard):Bool:=allI (U1 L m) 0 s.cells&&allI (varR L m) 0 s.vars
def KV (g:Grid) (L:List Statement):Bool:=allI (shR L) 0 g.shards
theorem py (g:Grid) (m:Nat) (s:Shard) (hs:s.Small) (M:List (List Int × Int)) (L:List Statement) (n0:Nat) (hM:Tells' M (cntS L) n0) (R:Option Bool) (N:Nat) (hR:∀n,N≤n→AX n g M (IntKind.i64.wrap ((m:Int)+1))=R):∀n,N+1+2*s.vars.length≤n→Au n g (m:Int) M s 0=if allI (varR L m) 0 s.vars=true then R else some false:=by
 intro n hn
 have h1:=hs.vl
 refine On s.vars (varR L m) (fun _=>2) (fun n i=>Au n g (m:Int) M s i) (some false) R (N+1) ?_ ?_ s.vars [] rfl n (by rw [Bc]; omega)
 ·intro pre x post k B R h hR hm
  obtain⟨k,rfl⟩:∃j,k=j+2:=⟨k - 2,by omega⟩
  have e:Au (k+2) g (m:Int) M s (pre.length:Int)=Bh (k+1) g (m:Int) (pre.length:Int) M s (!varR L m pre.length x):=by
   rw [Au,if_pos (CD h),Ak h,AA]
   unfold varR
   cases x.used with
   |false=>simp
   |true=>
    rw [if_pos rfl,if_pos rfl,G3,AA]
    simp only
    rw [hM.v]
    grind [decide_eq_false]
  grind [Bh,AT]
 ·intro n hn
  obtain⟨n,rfl⟩:∃k,n=k+1:=⟨n - 1,by omega⟩
  grind [Au]
theorem mS (g:Grid) (m:Nat) (s:Shard) (hs:s.Small) (M:List (List Int × Int)) (L:List Statement) (n0:Nat) (hM:Tells' M (cntS L) n0) (R:Option Bool) (N:Nat) (hR:∀n,N≤n→AX n g M (IntKind.i64.wrap ((m:Int)+1))=R):∀n,N+2+(2*s.cells.length+2*s.vars.length)≤n→Ag n g (m:Int) M s 0=if shR L m s=true then R else some false:=by
 intro n hn
 have h1:=hs.cl
 have:=On s.cells (U1 L m) (fun _=>2) (fun n i=>Ag n g (m:Int) M s i) (some false) (if allI (varR L m) 0 s.vars=true then R else some false) (N+2+2*s.vars.length) ?_ ?_ s.cells [] rfl n (by rw [Bc]; omega)
 ·have this:Ag n g (m:Int) M s 0=_:=this
  rw [this,List.length_nil]
  unfold shR
  cases allI (U1 L m) 0 s.cells <;> simp
 ·intro pre x post k B R h hR hm
  obtain⟨k,rfl⟩:∃j,k=j+2:=⟨k - 2,by omega⟩
  have e:Ag (k+2) g (m:Int) M s (pre.length:Int)=Bg (k+1) g (m:Int) (pre.length:Int) M s (!U1 L m pre.length x):=by
   rw [Ag,if_pos (CD h),Ak h,AA]
   unfold U1
   by_cases h0:x.kind=0
   ·grind
   ·rw [decide_eq_false h0,Bool.not_false,if_pos rfl,if_neg h0,GO,AA]
    simp only
    rw [hM.v]
    grind [decide_eq_false]
  grind [Bg,AT]
 ·intro n hn
  obtain⟨n,rfl⟩:∃k,n=k+1:=⟨n - 1,by omega⟩
  show Ag (n+1) g (m:Int) M s (s.cells.length:Int)=_
  rw [Ag,DF (pre:=s.cells) (List.append_nil _).symm,if_neg (by simp)]
  exact py g m s hs M L n0 hM R N hR n (by omega)
def Uy (s:Shard):Nat:=3+(2*s.cells.length+2*s.vars.length)
theorem eE (g:Grid) (L:List Statement) (hs:∀s ∈ g.shards,s.Small) (hl:g.shards.length≤4194304) (hw:szw Uy g.shards≤1099511627776) (hL:L.length≤4194304):Ey g L=some (L.all (stB g)&&KV g L):=by
 unfold Ey
 obtain⟨M,hM1,hM2⟩:=ZH L hL L [] [] fuel rfl ⟨fun k=>rfl,Nat.zero_le _⟩ (by rw [Ax]; omega)
 rw [List.length_nil,Int.natCast_zero] at hM1
 have hrest:AX fuel g M 0=some (KV g L):=by
  have:=On g.shards (shR L) Uy (fun n i=>AX n g M i) (some false) (some true) 1 ?_ ?_ g.shards [] rfl fuel (by rw [Ax]; omega)
  ·have this:AX fuel g M 0=_:=this
   rw [this,List.length_nil]
   unfold KV
   cases allI (shR L) 0 g.shards <;> rfl
  ·intro pre x post k B R h hR hm
   unfold Uy at hm
   obtain⟨k,rfl⟩:∃j,k=j+1:=⟨k - 1,by omega⟩
   show AX (k+1) g M (pre.length:Int)=_
   rw [AX,if_pos (CD h),Ak h,AA]
   exact mS g pre.length x (hs x (by rw [h]; simp)) M L _ hM2 R B (fun n hn=>by rw [AT h (by grind)]; grind) k (by omega)
  ·intro n hn
   obtain⟨n,rfl⟩:∃k,n=k+1:=⟨n - 1,by omega⟩
   show AX (n+1) g M (g.shards.length:Int)=_
   rw [AX,DF (pre:=g.shards) (List.append_nil _).symm,if_neg (by simp)]
 have:=Uz L (stB g) (fun _=>2) (fun n i=>Av n g L i) (some false) (some (KV g L)) 1 ?_ ?_ L [] rfl fuel (by rw [Bc,Ax]; omega)
 ·have this:Av fuel g L 0=_:=this
  rw [this]
  cases L.all (stB g) <;> simp
 ·intro pre x post k B R h hR hm
  obtain⟨k,rfl⟩:∃j,k=j+2:=⟨k - 2,by omega⟩
  have e:Av (k+2) g L (pre.length:Int)=A7 (k+1) g L (pre.length:Int) (!stB g x):=by
   rw [Av,if_pos (CD h),Ak h,AA]
   simp only [eA,AA]
   unfold stB thB
   cases x.a.own <;> cases x.b.own <;> cases aliveB g x.a.att <;> simp
  grind [A7,AT]
 ·intro n hn
  obtain⟨n,rfl⟩:∃k,n=k+1:=⟨n - 1,by omega⟩
  grind [Av,Th]
theorem mT {c:ShardCell} (h:ceB c=true):c.aux.length≤3:=by
 unfold ceB at h
 split at h
 ·grind [emptyB]
 ·simp only [Bool.and_eq_true] at h
  have:=(Y9 h.2).2.1
  grind [XX]
theorem Wq (a:Address) (k:Nat) (l:List Address):(AM (G9 a) k l).length ≤1*l.length:=IW fun i x _=>Nat.le_refl _
theorem U2 {g:Grid} (h:Jb g=true):(It g).length ≤8001:=by
 unfold Jb at h
 simp only [Bool.and_eq_true,decide_eq_true_eq] at h
 have h1:(AM E4 0 g.shards).length ≤2000*g.shards.length:=by
  refine IW fun i s hs=>?_
  have h2:=List.all_eq_true.1 h.2 s hs
  unfold shB lenB at h2
  simp only [Bool.and_eq_true,decide_eq_true_eq] at h2
  obtain⟨⟨k1,k2,k3⟩,k4,-⟩:=h2
  have a1:(AM (IV (i:Int)) 0 s.cells).length ≤3*s.cells.length:=IW fun j c hc=>by
   grind [mT,Wq,IV]
  have a2:(AM Ig 0 s.redexes).length ≤1*s.redexes.length:=IW fun j r _=>Nat.le_refl _
  have a3:(AM (FN (i:Int)) 0 s.vars).length ≤1*s.vars.length:=IW fun j v _=>by
   unfold FN
   split <;> simp
  grind [E4]
 grind [It]
theorem Wr {c:Cluster} {k:Nat} (hk:c.channels.length≤16) (h:allI (chB k) 0 c.channels=true):(KU c).length ≤16000:=by
 rw [Ef] at h
 have h1:(AM GU 0 c.channels).length ≤1000*c.channels.length:=by
  refine IW fun i x hx=>?_
  obtain⟨j,hj,rfl⟩:=List.getElem_of_mem hx
  have h2:=h j _ (List.getElem?_eq_getElem hj)
  unfold chB at h2
  simp only [Bool.and_eq_true,decide_eq_true_eq] at h2
  have h3:(AM (GA (i:Int)) 0 (c.channels[j])).length ≤4*(c.channels[j]).length :=IW fun q p hp=>by
   grind [GA,paB,mT,Wq]
  grind [GU]
 grind [KU]
def Qh (c:Cluster):List Statement:=It c.grid++KU c
def clB (c:Cluster):Bool:=Jh c&&((Qh c).all (stB c.grid)&&KV c.grid (Qh c))
structure Cluster.Fits (c:Cluster):Prop where
 s:c.Small
 t:szw Ux c.grid.shards≤1099511627776
 r:szw Uy c.grid.shards≤1099511627776
 p:szw (fun x=>2+2*List.length x) c.channels≤1099511627776
theorem gW (c:Cluster) (hc:c.Fits) (hp:(KU c).length ≤16000):Fc c.grid (KU c)=some (Jb c.grid&&((Qh c).all (stB c.grid)&&KV c.grid (Qh c))):=by
 have h1:=hc.s.gl
 have bad:CJ c.grid (KU c) true=some false:=rfl
 have hsh:B8 c.grid.shards (fun y0=>EV y0)=some (!c.grid.shards.all shB):=
  Hx BB B8 (fun n l i f=>by rw [BB]) (fun l f=>rfl) c.grid.shards _ shB (by unfold Big; omega) (fun s hs=>by unfold EV; rw [d8 (hc.s.g s hs),AA])
 unfold Fc
 by_cases k1:c.grid.shards.length<1
 ·rw [decide_eq_true (by omega),if_pos rfl,bad]
  unfold Jb
  rw [decide_eq_false (by omega)]; rfl
 ·rw [decide_eq_false (by omega),if_neg (by simp)]
  by_cases k2:4<c.grid.shards.length
  ·rw [decide_eq_true (by omega),if_pos rfl,bad]
   unfold Jb
   rw [decide_eq_false (by omega)]; rfl
  ·rw [decide_eq_false (by omega),if_neg (by simp),hsh,AA]
   have hg:Jb c.grid=c.grid.shards.all shB:=by
    unfold Jb
    rw [decide_eq_true (by omega),Bool.true_and]
   rw [hg]
   cases hall:c.grid.shards.all shB with
   |false=>exact bad
   |true=>
    have hgl:=U2 (g:=c.grid) (by rw [hg,hall])
    unfold CJ
    rw [Bool.not_true,if_neg (by simp),Bool.true_and,jc c.grid hc.s.g h1 hc.t (by unfold Big; omega),AA,EF (by unfold Big; omega),AA,eE c.grid _ hc.s.g h1 hc.r (by rw [List.length_append]; omega),AA]
    rfl
theorem ZI (c:Cluster) (hc:c.Fits):Gi c=some (clB c):=by
 have h1:=hc.s.gl
 have h2:=hc.s.chl
 have h3:=hc.s.col
 unfold Gi B0
 rw [AA]
 have bad1:∀v,Cw c v true=some false:=fun v=>rfl
 have bad2:BV c true=some false:=rfl
 have small:¬ (1≤c.grid.shards.length∧c.grid.shards.length≤4)→clB c=false:=fun h=>by
  grind [clB,Jh,Jb]
 by_cases k1:c.grid.shards.length<1
 ·rw [decide_eq_true (by omega),if_pos rfl,bad1,small (by omega)]
 ·rw [decide_eq_false (by omega),if_neg (by simp)]
  by_cases k2:4<c.grid.shards.length
  ·rw [decide_eq_true (by omega),if_pos rfl,bad1,small (by omega)]
  ·rw [decide_eq_false (by omega),if_neg (by simp),gV c.channels c.grid.shards.length (by omega) hc.s.ch h2,AA]
   unfold clB Jh
   have hkk:c.grid.shards.length*c.grid.shards.length≤4*4:=Nat.mul_le_mul (by omega) (by omega)
   by_cases c1:(decide (c.channels.length=c.grid.shards.length*c.grid.shards.length)&&(allI (dgB c.grid.shards.length) 0 c.channels&&allI (chB c.grid.shards.length) 0 c.channels))=true
   ·rw [c1]
    simp only [Bool.and_eq_true,decide_eq_true_eq] at c1
    obtain⟨e1,e2,e3⟩:=c1
    unfold Cw
    rw [Bool.not_true,if_neg (by simp),NS _ (by have:=hc.s.se; grind),AA,NS _ (by have:=hc.s.go; grind),AA,e2,e3,decide_eq_true e1]
    have hj:BV c false=some (c.counts.all (fun x=>decide (x.length=7)&&x.all JL)&&(Jb c.grid&&((Qh c).all (stB c.grid)&&KV c.grid (Qh c)))):=by
     have hpl:=Wr (by omega) e3
     unfold BV
     rw [if_neg (by simp),Hx Bf EB (fun n l i f=>by rw [Bf]) (fun l f=>rfl) c.counts _ (fun x=>decide (x.length=7)&&x.all JL) (by grind) (fun x hx=>by
      unfold G2 GZ
      rw [NS _ (by have:=hc.s.co x hx; grind),AA]
      grind [decide_eq_false]),AA,mR c hc.s hc.p (by grind),AA,gW c hc hpl,AA]
     cases c.counts.all (fun x=>decide (x.length=7)&&x.all JL) <;> simp
    by_cases k3:c.counts.length=c.grid.shards.length
    ·rw [decide_eq_true (by omega),Bool.not_true,if_neg (by simp),decide_eq_true k3]
     grind [decide_eq_false]
    grind
   grind [decide]
end Go.Proofs.YtclmbjbbojdojaaGreat.Ab
