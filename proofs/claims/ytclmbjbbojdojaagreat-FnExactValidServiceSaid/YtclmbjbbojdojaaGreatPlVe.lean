/-
  Clusters: cells, shards, numbers, parcels, on both sides. No program is in sight.
-/
import Derived.Test.YtclmbjbbojdojaaGreatPlNet
import Derived.Test.YtclmbjbbojdojaaGreatModG
import Derived.Test.YtclmbjbbojdojaaGreatModI
namespace Go.Proofs.YtclmbjbbojdojaaGreat.Ab
set_option linter.unusedVariables false
set_option maxHeartbeats 1000000
set_option linter.unusedSimpArgs false
open Go.RowKit
def szw {α:Type} (w:α→Nat):List α→Nat
 | [] =>0
 |x::l=>w x+szw w l
theorem M6 {α β:Type} (l:List α) (p:α→Bool) (w:α→Nat) (L:Nat→Int→Option β) (F Rest:Option β) (N:Nat)
  (hL:∀ (pre:List α) (x:α) (post:List α) (m B:Nat) (R:Option β),l=pre++x::post→(∀n,B≤n→L n ((List.length (pre++[x]):Nat):Int)=R)→B+w x≤m→L m (pre.length:Int)=if p x=true then R else F)
  (hE:∀n,N≤n→L n (l.length:Int)=Rest):∀ (post pre:List α),l=pre++post→∀n,N+szw w post≤n→L n (pre.length:Int)=if post.all p=true then Rest else F
 | [],pre,h,n,hn=>by
  rw [h,List.append_nil] at hE
  grind
 |x::post,pre,h,n,hn=>by
  simp only [szw] at hn
  rw [hL pre x post n (N+szw w post) (if post.all p=true then Rest else F) h (fun k hk=>M6 l p w L F Rest N hL hE post (pre++[x]) (DA h) k hk) (by omega),List.all_cons]
  cases p x <;> simp
theorem A8 {α:Type} (c:Nat):∀l:List α,szw (fun _=>c) l=c*l.length
 | [] =>rfl
 |x::l=>by rw [szw,A8 c l,List.length_cons,Nat.mul_succ,Nat.add_comm]
theorem Hv {α:Type} (L:Nat→List α→Int→(α→Option Bool)→Option Int) (C:List α→(α→Option Bool)→Option Bool)
  (hL:∀n l i f,L (n+1) l i f=(if (decide (i<(l.length:Int)))=true then ((at? l i).bind fun x=>((f x).bind fun b=>(if b=true then (some i) else (L n l (IntKind.i64.wrap (i+1)) f)))) else (some (-1))))
  (hC:∀l f,C l f=(L fuel l 0 f).bind fun v=>some (decide (0≤v))) (l:List α) (f:α→Option Bool) (p:α→Bool) (hl:l.length≤Big) (hf:∀x ∈ l,f x=some (!p x)):C l f=some (!l.all p):=by
 obtain⟨i,h1,h2,-⟩:=Oq L hL l f (fun x=> !p x) hl hf
 rw [hC]
 have e:l.any (fun x=> !p x)= !l.all p:=by rw [List.any_eq_not_all_not]; simp
 grind
theorem Wt {l:List Int} (h:l.length≤Big):Ln l=some l:=by
 unfold Ln
 rw [Ew (by grind),AA,List.nil_append]
theorem YA {l:List Int} (h:l.length≤Big):HL l=some l:=Wt h
theorem Wu {a:Agent} (h:agB a=true):1≤a.ports.length∧a.ports.length≤4∧a.data.length≤4∧a.kind≠0:=by
 unfold agB at h
 simp only [Bool.and_eq_true,decide_eq_true_eq] at h
 obtain⟨⟨⟨h1,h2⟩,h3⟩,h4⟩:=h
 have hk:1≤a.kind:=by
  grind [levB]
 refine⟨h1,?_,?_,by omega⟩
 ·grind [ports]
 grind [UW]
structure ShardCell.Small (c:ShardCell):Prop where
 d:c.data.length≤4194304
 a:c.aux.length≤4194304
def emptyB (c:ShardCell):Bool:=decide (c.kind=0)&&(decide (c.level=0)&&(decide (c.value=0)&&(decide (c.data.length=0)&&decide (c.aux.length=0))))
def VH (c:ShardCell):Agent:=⟨c.kind,c.level,c.value,c.data,List.replicate (c.aux.length+1) ⟨0,0⟩⟩
def ceB (c:ShardCell):Bool:=if c.kind=0 then emptyB c else !decide (c.kind=1)&&agB (VH c)
theorem Wv {c:ShardCell} (h:c.Small):Hl c=some (VH c):=by
 have h1:=h.d
 have h2:=h.a
 unfold Hl
 rw [Wt (by grind),AA,w64 (by omega) (by omega),show ((c.aux.length:Int)+1)=((c.aux.length+1:Nat):Int) by omega,P5 (by grind),AA]
 rfl
theorem c9 {c:ShardCell} (h:c.Small):HM c=some (VH c):=by
 have h1:=h.d
 have h2:=h.a
 unfold HM
 rw [YA (by grind),AA,w64 (by omega) (by omega),show ((c.aux.length:Int)+1)=((c.aux.length+1:Nat):Int) by omega,P5 (by grind),AA]
 rfl
theorem Sn {c:ShardCell} (h:c.Small):(VH c).ports.length ≤Big∧(VH c).data.length ≤Big:=by
 have h1:=h.d
 have h2:=h.a
 grind [VH]
theorem Ww {c:ShardCell} (h:c.Small):Gs c=some (ceB c):=by
 grind [Gs,ceB,emptyB,Wv,aM,Sn,VH,Wu,decide_eq_false]
theorem aT (l:List Int):Fw l [] =some (decide (l.length=0)):=by
 unfold Fw
 cases l with
 |nil=>
  have:fuel=(fuel - 1)+1:=by rw [Ar]
  rw [this,DH]
  simp
 |cons x l=>rfl
theorem aU (l:List Address):Cn l [] =some (decide (l.length=0)):=by
 unfold Cn
 cases l with
 |nil=>
  have:fuel=(fuel - 1)+1:=by rw [Ar]
  rw [this,Bh]
  simp
 |cons x l=>rfl
theorem Qq (c:ShardCell):Ce c ⟨0,0,0,[],[]⟩=some (emptyB c):=by
 unfold Ce emptyB
 simp only [aT,aU,AA]
 by_cases h0:c.kind=0 <;> by_cases h1:c.level=0 <;> by_cases h2:c.value=0 <;> by_cases h3:c.data.length=0 <;> simp [h0,h1,h2,h3]
theorem Wx {c:ShardCell} (h:c.Small):Dg c=some (ceB c):=by
 grind [Dg,ceB,Qq,c9,aN,Sn]
structure Shard.Small (s:Shard):Prop where
 c:∀c ∈ s.cells,c.Small
 cl:s.cells.length≤4194304
 vl:s.vars.length≤4194304
 rl:s.redexes.length≤4194304
def O0 (a:Address):Bool:=decide (a.machine=0)&&(decide (a.kind=0)&&decide (a.index=0))
def vaB (v:ShardVar):Bool:=if v.full=true then v.used else O0 v.held
def lenB (s:Shard):Bool:=decide (s.cells.length≤400∧s.vars.length≤400∧s.redexes.length≤400)
def shB (s:Shard):Bool:=lenB s&&(s.cells.all ceB&&s.vars.all vaB)
theorem fQ (v:ShardVar):Fx v=some (!vaB v):=by
 unfold Fx GX vaB O0
 by_cases h1:v.held.machine=0 <;> by_cases h2:v.held.kind=0 <;> by_cases h3:v.held.index=0 <;> cases v.used <;> cases v.full <;> simp [h1,h2,h3]
theorem UY {s:Shard} (h:s.Small):F8 s=some (shB s):=by
 have h1:=h.cl
 have h2:=h.vl
 have h3:=h.rl
 have hj:Cj s false=some (s.cells.all ceB&&s.vars.all vaB):=by
  unfold Cj
  rw [if_neg (by simp),Hv Am B1 (fun n l i f=>by rw [Am]) (fun l f=>rfl) s.cells _ ceB (by unfold Big; omega) (fun c hc=>by unfold HN; rw [Wx (h.c c hc),AA]),AA,
   Hv Aq B6 (fun n l i f=>by rw [Aq]) (fun l f=>rfl) s.vars _ vaB (by unfold Big; omega) (fun v hv=>fQ v),AA]
  cases s.cells.all ceB <;> simp
 have hj2:Cj s true=some false:=rfl
 unfold F8 shB lenB
 by_cases k1:s.cells.length≤400
 ·rw [decide_eq_false (by omega),if_neg (by simp)]
  by_cases k2:s.vars.length≤400
  ·rw [decide_eq_false (by omega),if_neg (by simp)]
   by_cases k3:s.redexes.length≤400
   ·rw [decide_eq_false (by omega),hj,decide_eq_true ⟨k1,k2,k3⟩,Bool.true_and]
   ·rw [decide_eq_true (by omega),hj2,decide_eq_false (by omega),Bool.false_and]
  ·rw [decide_eq_true (by omega),if_pos rfl,hj2,decide_eq_false (by omega),Bool.false_and]
 ·rw [decide_eq_true (by omega),if_pos rfl,hj2,decide_eq_false (by omega),Bool.false_and]
def IK (g:Grid):Bool:=decide (1≤g.shards.length∧g.shards.length≤4)&&g.shards.all shB
def Oy (s:Shard):Nat:=4+(s.cells.length+2*s.vars.length)
theorem dA (g:Grid) (i:Int) (s:Shard) (hv:s.vars.length≤Big) (R:Option Bool) (B:Nat) (hR:∀n,B≤n→Av n g (IntKind.i64.wrap (i+1))=R):∀n,B+1+2*s.vars.length≤n→BO n g i s 0=if s.vars.all vaB=true then R else some false:=by
 intro n hn
 refine M6 s.vars vaB (fun _=>2) (fun n k=>BO n g i s k) (some false) R (B+1) ?_ ?_ s.vars [] rfl n (by rw [A8]; omega)
 ·intro pre x post m B' R' h hR' hm
  obtain⟨m,rfl⟩:∃k,m=k+2:=⟨m - 2,by omega⟩
  have e:BO (m+2) g i s (pre.length:Int)=By (m+1) g i (pre.length:Int) s (!vaB x):=by
   rw [BO,if_pos (DS h),A1 h,AA]
   unfold vaB O0
   cases x.full <;> cases x.used <;> simp
  show BO (m+2) g i s (pre.length:Int)=_
  rw [e,By,AX h hv]
  cases vaB x with
  |true=>rw [if_neg (by simp),if_pos rfl]; exact hR' m (by omega)
  |false=>simp
 ·intro n hn
  obtain⟨n,rfl⟩:∃k,n=k+1:=⟨n - 1,by omega⟩
  show BO (n+1) g i s (s.vars.length:Int)=_
  rw [BO,FI (pre:=s.vars) (List.append_nil _).symm,if_neg (by simp)]
  exact hR n (by omega)
theorem aV (g:Grid) (i:Int) (s:Shard) (hs:s.Small) (R:Option Bool) (B:Nat) (hR:∀n,B≤n→Av n g (IntKind.i64.wrap (i+1))=R):∀n,B+2+(s.cells.length+2*s.vars.length)≤n→BN n g i s 0=if (s.cells.all ceB&&s.vars.all vaB)=true then R else some false:=by
 intro n hn
 have h1:=hs.cl
 have h2:=hs.vl
 have:=M6 s.cells ceB (fun _=>1) (fun n k=>BN n g i s k) (some false) (if s.vars.all vaB=true then R else some false) (B+2+2*s.vars.length) ?_ ?_ s.cells [] rfl n (by rw [A8]; omega)
 ·have this:BN n g i s 0=_:=this
  rw [this]
  cases s.cells.all ceB <;> simp
 ·intro pre x post m B' R' h hR' hm
  obtain⟨m,rfl⟩:∃k,m=k+1:=⟨m - 1,by omega⟩
  show BN (m+1) g i s (pre.length:Int)=_
  rw [BN,if_pos (DS h),A1 h,AA,Ww (hs.c x (by rw [h]; simp)),AA,AX h (by grind)]
  grind
 ·intro n hn
  obtain⟨n,rfl⟩:∃k,n=k+1:=⟨n - 1,by omega⟩
  show BN (n+1) g i s (s.cells.length:Int)=_
  rw [BN,FI (pre:=s.cells) (List.append_nil _).symm,if_neg (by simp)]
  exact dA g i s (by grind) R B hR n (by omega)
theorem Sg {g:Grid} (hs:∀s ∈ g.shards,s.Small) (hw:szw Oy g.shards≤1099511627776) (hl:g.shards.length≤Big):Fo g=some (IK g):=by
 unfold Fo IK
 rw [FV,AA,gI]
 by_cases h:1≤g.shards.length∧g.shards.length≤4
 ·rw [decide_eq_true h,Bool.not_true,if_neg (by simp),Bool.true_and]
  have:=M6 g.shards shB Oy (fun n k=>Av n g k) (some false) (some true) 1 ?_ ?_ g.shards [] rfl fuel (by rw [Ar]; omega)
  ·have this:Av fuel g 0=_:=this
   rw [this]
   cases g.shards.all shB <;> rfl
  ·intro pre x post m B R h hR hm
   unfold Oy at hm
   obtain⟨m,rfl⟩:∃k,m=k+2:=⟨m - 2,by omega⟩
   have e:Av (m+2) g (pre.length:Int)=Cc (m+1) g (pre.length:Int) x (!lenB x):=by
    rw [Av,if_pos (DS h),A1 h,AA]
    grind [lenB]
   show Av (m+2) g (pre.length:Int)=_
   rw [e,Cc]
   unfold shB
   cases lenB x with
   |false=>simp
   |true=>
    rw [Bool.not_true,if_neg (by simp),Bool.true_and]
    exact aV g _ x (hs x (by rw [h]; simp)) R B (fun n hn=>by rw [AX h hl]; grind) m (by omega)
  ·intro n hn
   obtain⟨n,rfl⟩:∃k,n=k+1:=⟨n - 1,by omega⟩
   show Av (n+1) g (g.shards.length:Int)=_
   rw [Av,FI (pre:=g.shards) (List.append_nil _).symm,if_neg (by simp)]
 grind [decide_eq_false]
def cntB (x:Int):Bool:=decide (0≤x∧x≤1000000000)
theorem Ju (l:List Int) (k:Nat) (hl:l.length≤Big):DX l (k:Int)=some (decide (l.length=k)&&l.all cntB):=by
 unfold DX
 by_cases h:l.length=k
 ·subst h
  rw [decide_eq_true rfl,Bool.not_true,if_neg (by simp),decide_eq_true rfl,Bool.true_and]
  have:=mK (fun n i=>DK n l (l.length:Int) i) (fun x=>CQ x 0 1000000000) cntB l (fun n i=>by rw [DK]) hl (fun x hx=>FV x 0 1000000000)
  omega
 grind
theorem IJ (l:List Int) (hl:l.length≤Big):IA 1000000000 l=some (l.all cntB):=by
 unfold IA
 rw [Hv A7 BM (fun n l i f=>by rw [A7]) (fun l f=>rfl) l _ cntB hl (fun w _=>?_),AA,Bool.not_not]
 unfold Kt cntB
 by_cases h0:w<0
 ·rw [decide_eq_true h0,if_pos rfl,decide_eq_false (by omega)]; rfl
 ·rw [decide_eq_false h0,if_neg (by simp)]
  by_cases h1:1000000000<w
  ·rw [decide_eq_true h1,decide_eq_false (by omega)]; rfl
  ·rw [decide_eq_false h1,decide_eq_true (by omega)]; rfl
theorem YB (l:List Int):KO l [] =some (decide (l.length=0)):=by
 unfold KO
 cases l with
 |nil=>
  have:fuel=(fuel - 1)+1:=by rw [Ar]
  rw [this,F6]
  simp
 |cons x l=>rfl
theorem YC (l:List Address):Dn l [] =some (decide (l.length=0)):=by
 unfold Dn
 cases l with
 |nil=>
  have:fuel=(fuel - 1)+1:=by rw [Ar]
  rw [this,B7]
  simp
 |cons x l=>rfl
theorem Wy (c:ShardCell):FX c ⟨0,0,0,[],[]⟩=some (emptyB c):=by
 unfold FX emptyB
 simp only [YB,YC,AA]
 by_cases h0:c.kind=0 <;> by_cases h1:c.level=0 <;> by_cases h2:c.value=0 <;> by_cases h3:c.data.length=0 <;> simp [h0,h1,h2,h3]
def paB (p:Parcel) (to:Int):Bool:=
 if p.kind=1 then emptyB p.cell&&decide (p.a.machine=to)
 else if p.kind=2 then emptyB p.cell&&(decide (p.a.machine=to)&&decide (p.a.kind=2))
 else if p.kind=3 then !decide (p.cell.kind=0)&&(ceB p.cell&&(O0 p.a&&decide (p.b.machine=to)))
 else if p.kind=4 then emptyB p.cell&&(O0 p.a&&O0 p.b) else false
theorem Si {p:Parcel} (to:Int) (h:p.cell.Small):Gt p to=some (paB p to):=by
 grind [Gt,paB,Wy,Ww,O0]
theorem YD {p:Parcel} (to:Int) (h:p.cell.Small):GQ p to=some (paB p to):=by
 unfold GQ El paB
 rw [Qq,AA,Wx h,AA]
 by_cases h1:p.kind=1
 ·simp only [h1]; cases emptyB p.cell <;> simp
 ·by_cases h2:p.kind=2
  ·simp only [h2]
   cases emptyB p.cell <;> by_cases k:p.a.machine=to <;> simp [k]
  ·by_cases h3:p.kind=3
   ·simp only [h3]
    unfold O0
    by_cases k0:p.cell.kind=0 <;> cases ceB p.cell <;> by_cases k1:p.a.machine=0 <;> by_cases k2:p.a.kind=0 <;> by_cases k3:p.a.index=0 <;> by_cases k4:p.b.machine=to <;> simp [k0,k1,k2,k3,k4]
   ·by_cases h4:p.kind=4
    ·simp only [h4]
     unfold O0
     cases emptyB p.cell <;> by_cases k1:p.a.machine=0 <;> by_cases k2:p.a.kind=0 <;> by_cases k3:p.a.index=0 <;> simp [k1,k2,k3]
    ·simp only [h1,h2,h3,h4]
     cases emptyB p.cell <;> simp
def allI {α:Type} (p:Nat→α→Bool):Nat→List α→Bool
 |_,[] =>true
 |i,x::l=>p i x&&allI p (i+1) l
theorem DB {α:Type} {p:Nat→α→Bool}:∀ {l:List α} {k:Nat},allI p k l=true↔∀i x,l[i]? =some x→p (k+i) x=true
 | [],k=>by simp [allI]
 | y::l,k=>by
  rw [allI,Bool.and_eq_true,DB]
  constructor
  ·grind
  ·intro h
   exact⟨h 0 y rfl,fun i x hi=>by rw [show k+1+i=k+(i+1) by omega]; simp_all⟩
theorem M7 {α β:Type} (l:List α) (p:Nat→α→Bool) (w:α→Nat) (L:Nat→Int→Option β) (F Rest:Option β) (N:Nat)
  (hL:∀ (pre:List α) (x:α) (post:List α) (m B:Nat) (R:Option β),l=pre++x::post→(∀n,B≤n→L n ((List.length (pre++[x]):Nat):Int)=R)→B+w x≤m→L m (pre.length:Int)=if p pre.length x=true then R else F)
  (hE:∀n,N≤n→L n (l.length:Int)=Rest):∀ (post pre:List α),l=pre++post→∀n,N+szw w post≤n→L n (pre.length:Int)=if allI p pre.length post=true then Rest else F
 | [],pre,h,n,hn=>by
  rw [h,List.append_nil] at hE
  simp only [szw,Nat.add_zero] at hn
  rw [hE n hn]; rfl
 |x::post,pre,h,n,hn=>by
  simp only [szw] at hn
  rw [hL pre x post n (N+szw w post) (if allI p (pre++[x]).length post=true then Rest else F) h (fun k hk=>M7 l p w L F Rest N hL hE post (pre++[x]) (DA h) k hk) (by omega),allI,List.length_append,List.length_singleton]
  cases p pre.length x <;> simp
structure Cluster.Small (c:Cluster):Prop where
 g:∀s ∈ c.grid.shards,s.Small
 gl:c.grid.shards.length≤4194304
 gw:szw Oy c.grid.shards≤1099511627776
 ch:∀x ∈ c.channels,x.length≤4194304∧∀p ∈ x,p.cell.Small
 chl:c.channels.length≤4194304
 chw:szw (fun x=>2+List.length x) c.channels≤1099511627776
 co:∀x ∈ c.counts,x.length≤4194304
 col:c.counts.length≤4194304
 se:c.sent.length≤4194304
 go:c.got.length≤4194304
def chB (k:Nat) (i:Nat) (x:List Parcel):Bool:=decide (x.length≤200)&&x.all fun p=>paB p ((i % k:Nat):Int)
def dgB (k:Nat) (i:Nat) (x:List Parcel):Bool:=if i / k=i % k then decide (x.length=0) else true
def Jv (c:Cluster):Bool:=
 IK c.grid&&(decide (c.channels.length=c.grid.shards.length*c.grid.shards.length)&&(decide (c.counts.length=c.grid.shards.length)&&(decide (c.sent.length=c.grid.shards.length)&&(decide (c.got.length=c.grid.shards.length)&&
  (c.sent.all cntB&&(c.got.all cntB&&(c.counts.all (fun x=>decide (x.length=7)&&x.all cntB)&&(allI (dgB c.grid.shards.length) 0 c.channels&&allI (chB c.grid.shards.length) 0 c.channels))))))))
theorem X9 {k:Nat} (h:1≤k):nz? (k:Int)=some ():=by
 unfold nz?
 rw [if_neg (by omega)]
theorem B3 {α:Type} {l:List α} {i:Nat}:at? l (i:Int)=l[i]? :=by
 unfold at?
 rw [if_pos (by omega),Int.toNat_natCast]
theorem Sj (a b:Nat):Int.tmod (a:Int) (b:Int)=((a % b:Nat):Int):=rfl
theorem Wq (a b:Nat):Int.tdiv (a:Int) (b:Int)=((a / b:Nat):Int):=rfl
theorem dB (c:Cluster) (hc:c.Small) (hk:1≤c.grid.shards.length):BQ fuel c 0=some (allI (chB c.grid.shards.length) 0 c.channels):=by
 have h1:=hc.chl
 have:=M7 c.channels (chB c.grid.shards.length) (fun x=>2+List.length x) (fun n i=>BQ n c i) (some false) (some true) 1 ?_ ?_ c.channels [] rfl fuel (by have:=hc.chw; rw [Ar]; omega)
 ·have this:BQ fuel c 0=_:=this
  rw [this,List.length_nil]
  cases allI (chB c.grid.shards.length) 0 c.channels <;> rfl
 ·intro pre x post m B R h hR hm
  obtain⟨m,rfl⟩:∃k,m=k+1:=⟨m - 1,by omega⟩
  obtain⟨hx1,hx2⟩:=hc.ch x (by rw [h]; simp)
  show BQ (m+1) c (pre.length:Int)=_
  rw [BQ,if_pos (DS h),A1 h,AA]
  unfold chB
  by_cases h2:x.length≤200
  ·rw [decide_eq_false (by omega),if_neg (by simp),decide_eq_true h2,Bool.true_and]
   have:=M6 x (fun p=>paB p ((pre.length % c.grid.shards.length:Nat):Int)) (fun _=>1) (fun n j=>B9 n c (pre.length:Int) j) (some false) R (B+1) ?_ ?_ x [] rfl m (by rw [A8]; omega)
   ·omega
   ·intro pre2 y post2 m2 B2 R2 h2 hR2 hm2
    obtain⟨m2,rfl⟩:∃k,m2=k+1:=⟨m2 - 1,by omega⟩
    show B9 (m2+1) c (pre.length:Int) (pre2.length:Int)=_
    rw [B9,A1 h,AA,if_pos (DS h2),AA,A1 h2,AA,X9 hk,AA,Sj,Si _ (hx2 y (by rw [h2]; simp)),AA,AX h2 (by grind)]
    grind
   ·intro n hn
    obtain⟨n,rfl⟩:∃k,n=k+1:=⟨n - 1,by omega⟩
    show B9 (n+1) c (pre.length:Int) (x.length:Int)=_
    rw [B9,A1 h,AA,FI (pre:=x) (List.append_nil _).symm,if_neg (by simp),AX h (by grind)]
    grind
  grind
 ·intro n hn
  obtain⟨n,rfl⟩:∃k,n=k+1:=⟨n - 1,by omega⟩
  show BQ (n+1) c (c.channels.length:Int)=_
  rw [BQ,FI (pre:=c.channels) (List.append_nil _).symm,if_neg (by simp)]
theorem Ws (C:List (List Parcel)) (k:Nat) (hk:1≤k∧k≤4) (hC:∀x ∈ C,x.length≤4194304∧∀p ∈ x,p.cell.Small) (hl:C.length≤4194304):EA C (k:Int)=some (decide (C.length=k*k)&&(allI (dgB k) 0 C&&allI (chB k) 0 C)):=by
 have hkk:k*k≤4*4:=Nat.mul_le_mul hk.2 hk.2
 unfold EA
 rw [← Int.natCast_mul,w64 (by omega) (by omega)]
 by_cases h0:C.length=k*k
 ·rw [decide_eq_true (by omega),Bool.not_true,if_neg (by simp),decide_eq_true h0,Bool.true_and]
  have:=M7 C (fun i x=>dgB k i x&&chB k i x) (fun _=>2) (fun n i=>Aw n C (k:Int) i) (some false) (some true) 1 ?_ ?_ C [] rfl fuel (by rw [A8,Ar]; omega)
  ·have this:Aw fuel C (k:Int) 0=_:=this
   rw [this,List.length_nil]
   have e:allI (fun i x=>dgB k i x&&chB k i x) 0 C=(allI (dgB k) 0 C&&allI (chB k) 0 C):=by
    rw [Bool.eq_iff_iff,Bool.and_eq_true,DB,DB,DB]
    grind
   rw [e]
   cases (allI (dgB k) 0 C&&allI (chB k) 0 C) <;> rfl
  ·intro pre x post m B R h hR hm
   obtain⟨m,rfl⟩:∃k,m=k+2:=⟨m - 2,by omega⟩
   obtain⟨hx1,hx2⟩:=hC x (by rw [h]; simp)
   have hlen:pre.length≤C.length:=by rw [h]; simp
   have hd:pre.length / k≤pre.length:=Nat.div_le_self _ _
   have hcf:BJ x (fun y0=>DG y0 ((pre.length % k:Nat):Int))=some (!x.all fun p=>paB p ((pre.length % k:Nat):Int)):=
    Hv A2 BJ (fun n l i f=>by rw [A2]) (fun l f=>rfl) x _ _ (by grind) (fun p hp=>by unfold DG; rw [YD _ (hx2 p hp),AA])
   have e:Aw (m+2) C (k:Int) (pre.length:Int)=BG (m+1) C (k:Int) (pre.length:Int) (!(dgB k pre.length x&&chB k pre.length x)):=by
    rw [Aw,if_pos (DS h),A1 h,AA,X9 hk.1,AA,AA,Sj,Wq,hcf,AA]
    grind [dgB,chB,w64,decide_eq_false]
   grind [BG,AX]
  ·intro n hn
   obtain⟨n,rfl⟩:∃k,n=k+1:=⟨n - 1,by omega⟩
   show Aw (n+1) C (k:Int) (C.length:Int)=_
   rw [Aw,FI (pre:=C) (List.append_nil _).symm,if_neg (by simp)]
 grind
def cdB (c:Cluster) (i:Nat):Bool:=((c.counts[i]?).map fun x=>decide (x.length=7)&&x.all cntB).getD false&&((c.channels[i*c.grid.shards.length+i]?).map fun x=>decide (x.length=0)).getD false
theorem iz (c:Cluster) (hk:1≤c.grid.shards.length) (h1:c.channels.length=c.grid.shards.length*c.grid.shards.length) (h2:c.counts.length=c.grid.shards.length):
  allI (fun i (_:Shard)=>cdB c i) 0 c.grid.shards=(c.counts.all (fun x=>decide (x.length=7)&&x.all cntB)&&allI (dgB c.grid.shards.length) 0 c.channels):=by
 generalize hkk:c.grid.shards.length=k at*
 have hr:∀i,i<k→i*k+i<k*k:=fun i hi=>by
  have:(i+1)*k≤k*k:=Nat.mul_le_mul_right k hi
  rw [Nat.add_mul] at this
  omega
 rw [Bool.eq_iff_iff,Bool.and_eq_true,DB,DB,List.all_eq_true]
 simp only [Nat.zero_add]
 constructor
 ·intro h
  have h':∀i,i<k→cdB c i=true:=fun i hi=>h i c.grid.shards[i] (List.getElem?_eq_getElem (by omega))
  constructor
  ·grind [List.getElem_of_mem,cdB]
  ·intro i x hi
   unfold dgB
   split
   ·rename_i e
    have hik:i<k*k:=by rw [← h1]; grind
    have hm:i % k<k:=Nat.mod_lt _ (by omega)
    have he:i % k*k+i % k=i:=by
     grind [Nat.div_add_mod]
    grind [cdB]
   ·rfl
 grind [cdB,dgB,Nat.mul_comm,Nat.mul_add_div,Nat.mul_add_mod,Nat.div_eq_of_lt,Nat.mod_eq_of_lt]
theorem Wz (c:Cluster) (hc:c.Small):H8 c=some (Jv c):=by
 have h1:=hc.chl
 have h2:=hc.col
 have h3:=hc.gl
 unfold H8 Jv
 rw [Sg hc.g hc.gw (by grind),AA]
 have bad:CA c true=some false:=rfl
 cases hg:IK c.grid with
 |false=>rw [Bool.not_false,if_pos rfl,bad]; rfl
 | true =>
  have hk:1≤c.grid.shards.length∧c.grid.shards.length≤4:=by
   grind [IK]
  have hkk:c.grid.shards.length*c.grid.shards.length≤4*4:=Nat.mul_le_mul hk.2 hk.2
  rw [Bool.not_true,if_neg (by simp),Bool.true_and,← Int.natCast_mul,w64 (by omega) (by omega)]
  by_cases k1:c.channels.length=c.grid.shards.length*c.grid.shards.length
  ·rw [decide_eq_true (by omega),Bool.not_true,if_neg (by simp),decide_eq_true k1,Bool.true_and]
   by_cases k2:c.counts.length=c.grid.shards.length
   ·rw [decide_eq_true (by omega),Bool.not_true,if_neg (by simp),decide_eq_true k2,Bool.true_and,Ju _ _ (by have:=hc.se; grind),AA,Ju _ _ (by have:=hc.go; grind),AA]
    have hj:CA c false=some (c.counts.all (fun x=>decide (x.length=7)&&x.all cntB)&&allI (dgB c.grid.shards.length) 0 c.channels&&allI (chB c.grid.shards.length) 0 c.channels):=by
     unfold CA
     rw [if_neg (by simp),← iz c hk.1 k1 k2]
     have:=M7 c.grid.shards (fun i (_:Shard)=>cdB c i) (fun _=>2) (fun n i=>Bp n c i) (some false) (some (allI (chB c.grid.shards.length) 0 c.channels)) 1 ?_ ?_ c.grid.shards [] rfl fuel (by rw [A8,Ar]; omega)
     ·have this:Bp fuel c 0=_:=this
      rw [this,List.length_nil]
      cases allI (fun i (_:Shard)=>cdB c i) 0 c.grid.shards <;> simp
     ·intro pre x post m B R h hR hm
      obtain⟨m,rfl⟩:∃k,m=k+2:=⟨m - 2,by omega⟩
      have hlt:pre.length<c.grid.shards.length:=by rw [h]; simp
      have hlt2:pre.length*c.grid.shards.length+pre.length<c.channels.length:=by
       grind [Nat.add_mul]
      have e:Bp (m+2) c (pre.length:Int)=Do (m+1) c (pre.length:Int) (!cdB c pre.length):=by
       rw [Bp,if_pos (DS h),B3,List.getElem?_eq_getElem (show pre.length<c.counts.length by omega),AA,show (7:Int)=((7:Nat):Int) from rfl,Ju _ 7 (by have:=hc.co _ (List.getElem_mem (show pre.length<c.counts.length by omega)); grind),AA,
        ← Int.natCast_mul,(w64 (by omega) (by omega):IntKind.i64.wrap ((pre.length*c.grid.shards.length:Nat):Int)=_),← Int.natCast_add,w64 (by omega) (by omega),B3,List.getElem?_eq_getElem hlt2,AA]
       grind [cdB,decide_eq_false]
      grind [Do,AX]
     ·intro n hn
      obtain⟨n,rfl⟩:∃k,n=k+1:=⟨n - 1,by omega⟩
      grind [Bp,dB]
    have hj2:=hj
    by_cases k3:c.sent.length=c.grid.shards.length <;> by_cases k4:c.got.length=c.grid.shards.length <;> cases c.sent.all cntB <;> cases c.got.all cntB <;> simp [k3,k4,hj,bad,Bool.and_assoc]
   grind
  grind
def AO {α β:Type} (e:Nat→α→List β):Nat→List α→List β
 |_,[] =>[]
 |i,x::l=>e i x++AO e (i+1) l
theorem M8 {α β γ:Type} (l:List α) (e:Nat→α→List β) (w:α→Nat) (L:Nat→List β→Int→Option γ) (T:List β) (Z:Option γ) (N:Nat)
  (hL:∀ (pre:List α) (x:α) (post:List α) (acc:List β) (m B:Nat) (R:Option γ),l=pre++x::post→acc.length+(e pre.length x).length ≤Big→(∀n,B≤n→L n (acc++e pre.length x) ((List.length (pre++[x]):Nat):Int)=R)→B+w x≤m→L m acc (pre.length:Int)=R)
  (hE:∀n,N≤n→L n T (l.length:Int)=Z) (hB:T.length≤Big):∀ (post pre:List α) (acc:List β) (n:Nat),l=pre++post→T=acc++AO e pre.length post→N+szw w post≤n→L n acc (pre.length:Int)=Z
 | [],pre,acc,n,h,hT,hn=>by
  rw [h,List.append_nil] at hE
  rw [AO,List.append_nil] at hT
  grind
 |x::post,pre,acc,n,h,hT,hn=>by
  simp only [szw] at hn
  rw [AO] at hT
  have hB':=hB
  rw [hT,List.length_append,List.length_append] at hB'
  refine hL pre x post acc n (N+szw w post) _ h (by omega) (fun k hk=>?_) (by omega)
  exact M8 l e w L T Z N hL hE hB post (pre++[x]) (acc++e pre.length x) k (DA h) (by rw [hT,List.length_append,List.length_singleton,List.append_assoc]) hk
def nam (a:Address):Thing:=⟨a,0,false⟩
def GL (a:Address) (k:Nat) (x:Address):List Statement:=[⟨⟨a,((k+1:Nat):Int),true⟩,nam x⟩]
def HQ (m:Int) (i:Nat) (c:ShardCell):List Statement:=AO (GL ⟨m,1,(i:Int)⟩) 0 c.aux
def Hd (_:Nat) (r:ShardRedex):List Statement:=[⟨nam r.a,nam r.b⟩]
def Ed (m:Int) (i:Nat) (v:ShardVar):List Statement:=if v.full=true then [⟨nam ⟨m,2,(i:Int)⟩,nam v.held⟩] else []
def EM (m:Nat) (s:Shard):List Statement:=AO (HQ (m:Int)) 0 s.cells++(AO Hd 0 s.redexes++AO (Ed (m:Int)) 0 s.vars)
def Lz (g:Grid):Statement:=⟨⟨⟨0,0,0⟩,0,true⟩,nam g.root⟩
def Hw (g:Grid):List Statement:=Lz g::AO EM 0 g.shards
def FJ (ch:Int) (i:Nat) (p:Parcel):List Statement:=
 if p.kind=1∨p.kind=2 then [⟨nam p.a,nam p.b⟩]
 else if p.kind=3 then AO (GL ⟨ch,3,(i:Int)⟩) 0 p.cell.aux++[⟨⟨⟨ch,3,(i:Int)⟩,0,true⟩,nam p.b⟩] else []
def Fb (ch:Nat) (x:List Parcel):List Statement:=AO (FJ (ch:Int)) 0 x
def JS (c:Cluster):List Statement:=AO Fb 0 c.channels
theorem HR {α β:Type} {e:Nat→α→List β} {b:Nat}:∀ {l:List α} {k:Nat},(∀i x,x ∈ l→(e i x).length ≤b)→(AO e k l).length ≤b*l.length
 | [],_,_=>by simp [AO]
 |x::l,k,h=>by
  have h1:=HR (k:=k+1) (fun i y hy=>h i y (List.mem_cons_of_mem _ hy))
  grind [AO,Nat.mul_succ]
theorem Y5 (a:Address) (l:List Address) (hl:l.length≤4194304):EB a l=some (AO (GL a) 0 l):=by
 have hfl:(AO (GL a) 0 l).length ≤1*l.length:=HR fun i x _=>Nat.le_refl _
 unfold EB
 refine M8 l (GL a) (fun _=>1) (fun n acc i=>BH n a l acc i) (AO (GL a) 0 l) _ 1 ?_ ?_ (by grind) l [] [] fuel rfl rfl (by rw [A8,Ar]; omega)
 ·intro pre x post acc m B R h hB hR hm
  obtain⟨m,rfl⟩:∃k,m=k+1:=⟨m - 1,by omega⟩
  have hlt:pre.length<l.length:=by rw [h]; simp
  show BH (m+1) a l acc (pre.length:Int)=R
  rw [BH,if_pos (DS h),A1 h,AA,AX h (by grind),List.length_append,List.length_singleton]
  unfold Lo
  rw [decide_eq_true (by omega),if_pos rfl,AA,Ew (by rw [GL] at hB; exact hB),AA]
  have:=hR m (by omega)
  rw [List.length_append,List.length_singleton] at this
  exact this
 ·intro n hn
  obtain⟨n,rfl⟩:∃k,n=k+1:=⟨n - 1,by omega⟩
  show BH (n+1) a l (AO (GL a) 0 l) (l.length:Int)=_
  rw [BH,FI (pre:=l) (List.append_nil _).symm,if_neg (by simp)]
theorem fR (g:Grid) (m:Nat) (s:Shard) (hs:s.Small) (Z:Option (List Statement)) (N:Nat) (acc:List Statement) (hB:(acc++AO (Ed (m:Int)) 0 s.vars).length ≤Big) (hZ:∀n,N≤n→Aa n g (acc++AO (Ed (m:Int)) 0 s.vars) (IntKind.i64.wrap ((m:Int)+1))=Z):∀n,N+1+s.vars.length≤n→Ak n g (m:Int) s acc 0=Z:=by
 intro n hn
 have h1:=hs.vl
 refine M8 s.vars (Ed (m:Int)) (fun _=>1) (fun n acc i=>Ak n g (m:Int) s acc i) (acc++AO (Ed (m:Int)) 0 s.vars) Z (N+1) ?_ ?_ hB s.vars [] acc n rfl rfl (by rw [A8]; omega)
 ·intro pre x post acc k B R h hB hR hm
  obtain⟨k,rfl⟩:∃j,k=j+1:=⟨k - 1,by omega⟩
  show Ak (k+1) g (m:Int) s acc (pre.length:Int)=R
  have hR':=hR k (by omega)
  rw [Ak,if_pos (DS h),A1 h,AA,AX h (by grind)]
  grind [Ed,nam,F9,Ew]
 ·intro n hn
  obtain⟨n,rfl⟩:∃k,n=k+1:=⟨n - 1,by omega⟩
  grind [Ak]
theorem i7 (g:Grid) (m:Nat) (s:Shard) (hs:s.Small) (Z:Option (List Statement)) (N:Nat) (acc:List Statement) (hB:(acc++(AO Hd 0 s.redexes++AO (Ed (m:Int)) 0 s.vars)).length ≤Big) (hZ:∀n,N≤n→Aa n g (acc++(AO Hd 0 s.redexes++AO (Ed (m:Int)) 0 s.vars)) (IntKind.i64.wrap ((m:Int)+1))=Z):∀n,N+2+(s.redexes.length+s.vars.length)≤n→Aj n g (m:Int) s acc 0=Z:=by
 intro n hn
 have h1:=hs.rl
 rw [← List.append_assoc] at hB hZ
 have hB2:=hB
 rw [List.length_append] at hB2
 refine M8 s.redexes Hd (fun _=>1) (fun n acc i=>Aj n g (m:Int) s acc i) (acc++AO Hd 0 s.redexes) Z (N+2+s.vars.length) ?_ ?_ (by omega) s.redexes [] acc n rfl rfl (by rw [A8]; omega)
 ·intro pre x post acc k B R h hB hR hm
  obtain⟨k,rfl⟩:∃j,k=j+1:=⟨k - 1,by omega⟩
  show Aj (k+1) g (m:Int) s acc (pre.length:Int)=R
  have hR':=hR k (by omega)
  unfold Hd nam at hR' hB
  rw [Aj,if_pos (DS h),A1 h,AA,AX h (by grind),Ew hB,AA]
  omega
 ·intro n hn
  obtain⟨n,rfl⟩:∃k,n=k+1:=⟨n - 1,by omega⟩
  show Aj (n+1) g (m:Int) s _ (s.redexes.length:Int)=_
  rw [Aj,FI (pre:=s.redexes) (List.append_nil _).symm,if_neg (by simp)]
  exact fR g m s hs Z N _ hB hZ n (by omega)
theorem fS (g:Grid) (m:Nat) (s:Shard) (hs:s.Small) (Z:Option (List Statement)) (N:Nat) (acc:List Statement) (hB:(acc++EM m s).length ≤Big) (hZ:∀n,N≤n→Aa n g (acc++EM m s) (IntKind.i64.wrap ((m:Int)+1))=Z):∀n,N+3+(s.cells.length+(s.redexes.length+s.vars.length))≤n→Ai n g (m:Int) s acc 0=Z:=by
 intro n hn
 have h1:=hs.cl
 unfold EM at hB hZ
 rw [← List.append_assoc] at hB hZ
 have hB2:=hB
 rw [List.length_append] at hB2
 refine M8 s.cells (HQ (m:Int)) (fun _=>1) (fun n acc i=>Ai n g (m:Int) s acc i) (acc++AO (HQ (m:Int)) 0 s.cells) Z (N+3+(s.redexes.length+s.vars.length)) ?_ ?_ (by omega) s.cells [] acc n rfl rfl (by rw [A8]; omega)
 ·intro pre x post acc k B R h hB hR hm
  obtain⟨k,rfl⟩:∃j,k=j+1:=⟨k - 1,by omega⟩
  show Ai (k+1) g (m:Int) s acc (pre.length:Int)=R
  have hR':=hR k (by omega)
  unfold HQ at hR' hB
  rw [Ai,if_pos (DS h),A1 h,AA,AX h (by grind),FY,AA,Y5 _ _ (hs.c x (by rw [h]; simp)).a,AA,Ew hB,AA]
  omega
 ·intro n hn
  obtain⟨n,rfl⟩:∃k,n=k+1:=⟨n - 1,by omega⟩
  show Ai (n+1) g (m:Int) s _ (s.cells.length:Int)=_
  rw [Ai,FI (pre:=s.cells) (List.append_nil _).symm,if_neg (by simp)]
  exact i7 g m s hs Z N _ hB hZ n (by omega)
def Sl (s:Shard):Nat:=4+(s.cells.length+(s.redexes.length+s.vars.length))
theorem fT (g:Grid) (hs:∀s ∈ g.shards,s.Small) (hl:g.shards.length≤4194304) (hw:szw Sl g.shards≤1099511627776) (hB:(Hw g).length ≤Big):EJ g=some (Hw g):=by
 unfold EJ Lo
 rw [if_neg (by simp),AA]
 refine M8 g.shards EM Sl (fun n acc i=>Aa n g acc i) (Hw g) _ 1 ?_ ?_ hB g.shards [] [Lz g] fuel rfl rfl (by rw [Ar]; omega)
 ·intro pre x post acc k B R h hB hR hm
  unfold Sl at hm
  obtain⟨k,rfl⟩:∃j,k=j+1:=⟨k - 1,by omega⟩
  show Aa (k+1) g acc (pre.length:Int)=R
  rw [Aa,if_pos (DS h),A1 h,AA]
  exact fS g pre.length x (hs x (by rw [h]; simp)) R B acc (by rw [List.length_append]; exact hB) (fun n hn=>by rw [AX h (by grind)]; grind) k (by omega)
 ·intro n hn
  obtain⟨n,rfl⟩:∃k,n=k+1:=⟨n - 1,by omega⟩
  show Aa (n+1) g _ (g.shards.length:Int)=_
  rw [Aa,FI (pre:=g.shards) (List.append_nil _).symm,if_neg (by simp)]
theorem fU (c:Cluster) (i:Nat) (x:List Parcel) (hx:x.length≤4194304∧∀p ∈ x,p.cell.Small) (Z:Option (List Statement)) (N:Nat) (acc:List Statement) (hB:(acc++Fb i x).length ≤Big) (hZ:∀n,N≤n→AS n c (acc++Fb i x) (IntKind.i64.wrap ((i:Int)+1))=Z):∀n,N+1+2*x.length≤n→AP n c (i:Int) x acc 0=Z:=by
 intro n hn
 refine M8 x (FJ (i:Int)) (fun _=>2) (fun n acc j=>AP n c (i:Int) x acc j) (acc++Fb i x) Z (N+1) ?_ ?_ hB x [] acc n rfl rfl (by rw [A8]; omega)
 ·intro pre p post acc k B R h hB hR hm
  obtain⟨k,rfl⟩:∃j,k=j+2:=⟨k - 2,by omega⟩
  have hR':=hR k (by omega)
  have hp:=hx.2 p (by rw [h]; simp)
  have e:AP (k+2) c (i:Int) x acc (pre.length:Int)=Al (k+1) c (i:Int) acc (pre.length:Int) x p (decide (p.kind=1∨p.kind=2)):=by
   rw [AP,if_pos (DS h),A1 h,AA]
   grind
  show AP (k+2) c (i:Int) x acc (pre.length:Int)=R
  rw [e,Al,AX h (by grind)]
  unfold FJ nam at hR' hB
  by_cases h1:p.kind=1∨p.kind=2
  ·rw [if_pos h1] at hR' hB
   rw [decide_eq_true h1,if_pos rfl,Ew hB,AA]
   omega
  ·rw [if_neg h1] at hR' hB
   rw [decide_eq_false h1,if_neg (by simp)]
   by_cases h3:p.kind=3
   ·rw [if_pos h3] at hR' hB
    rw [List.length_append] at hB
    rw [decide_eq_true h3,if_pos rfl,GW,AA,Y5 _ _ hp.a,AA,Ew (by omega),AA,Lo,if_neg (by simp),AA,Ew (by rw [List.length_append]; omega),AA]
    rw [← List.append_assoc] at hR'
    grind
   grind
 ·intro n hn
  obtain⟨n,rfl⟩:∃k,n=k+1:=⟨n - 1,by omega⟩
  grind [AP]
theorem i8 (c:Cluster) (hc:c.Small) (hw:szw (fun x=>2+2*List.length x) c.channels≤1099511627776) (hB:(JS c).length ≤Big):Bw c=some (JS c):=by
 have h1:=hc.chl
 unfold Bw
 refine M8 c.channels Fb (fun x=>2+2*List.length x) (fun n acc i=>AS n c acc i) (JS c) _ 1 ?_ ?_ hB c.channels [] [] fuel rfl rfl (by rw [Ar]; omega)
 ·intro pre x post acc k B R h hB hR hm
  obtain⟨k,rfl⟩:∃j,k=j+1:=⟨k - 1,by omega⟩
  show AS (k+1) c acc (pre.length:Int)=R
  rw [AS,if_pos (DS h),A1 h,AA]
  exact fU c pre.length x (hc.ch x (by rw [h]; simp)) R B acc (by rw [List.length_append]; exact hB) (fun n hn=>by rw [AX h (by grind)]; grind) k (by omega)
 ·intro n hn
  obtain⟨n,rfl⟩:∃k,n=k+1:=⟨n - 1,by omega⟩
  show AS (n+1) c _ (c.channels.length:Int)=_
  rw [AS,FI (pre:=c.channels) (List.append_nil _).symm,if_neg (by simp)]
def aliveB (g:Grid) (a:Address):Bool:=match at? g.shards a.machine with
 |some s=>if a.kind=1 then (match at? s.cells a.index with|some c=> !decide (c.kind=0)|none=>false)
  else if a.kind=2 then (match at? s.vars a.index with|some v=>v.used|none=>false) else false
 |none=>false
theorem aW (g:Grid) (a:Address):E7 g a=some (aliveB g a):=by
 have bad:DM g a true=some false:=rfl
 unfold E7 aliveB
 by_cases h1:a.machine<0
 ·rw [decide_eq_true h1,if_pos rfl,bad,Im (by omega)]
 ·rw [decide_eq_false h1,if_neg (by simp)]
  by_cases h2:(g.shards.length:Int)≤a.machine
  ·rw [decide_eq_true h2,if_pos rfl,bad,Im (by omega)]
  ·rw [decide_eq_false h2,if_neg (by simp)]
   obtain⟨s,hs,-⟩:=P6 (l:=g.shards) (i:=a.machine) (by omega)
   rw [hs]
   simp only
   by_cases h3:a.index<0
   ·rw [decide_eq_true h3,bad,Im (by omega),Im (by omega)]
    simp
   ·rw [decide_eq_false h3]
    unfold DM
    rw [if_neg (by simp),hs,AA]
    by_cases h4:a.kind=1
    ·rw [decide_eq_true h4,if_pos rfl,if_pos h4]
     by_cases h5:a.index<(s.cells.length:Int)
     ·obtain⟨c,hc,-⟩:=P6 (l:=s.cells) (i:=a.index) (by omega)
      rw [decide_eq_true h5,if_pos rfl,hc,AA]
     grind [Im]
    ·rw [decide_eq_false h4,if_neg (by simp),if_neg h4]
     by_cases h6:a.kind=2
     ·rw [decide_eq_true h6,if_pos rfl,if_pos h6]
      by_cases h5:a.index<(s.vars.length:Int)
      ·obtain⟨c,hc,-⟩:=P6 (l:=s.vars) (i:=a.index) (by omega)
       rw [decide_eq_true h5,if_pos rfl,hc,AA]
      grind [Im]
     grind
theorem KS (g:Grid) (a:Address) (hl:g.shards.length≤4194304) (hs:∀s ∈ g.shards,s.Small):E6 g a=some (aliveB g a):=by
 unfold E6 aliveB
 rw [w64 (by omega) (by omega),FV,AA]
 by_cases h1:0≤a.machine∧a.machine≤(g.shards.length:Int) - 1
 ·obtain⟨s,h2,hm⟩:=P6 (l:=g.shards) (i:=a.machine) (by omega)
  have k1:=(hs s hm).cl
  have k2:=(hs s hm).vl
  rw [decide_eq_true h1,Bool.not_true,if_neg (by simp),h2,AA]
  simp only
  by_cases h4:a.kind=1
  ·rw [decide_eq_true h4,if_pos rfl,if_pos h4,w64 (by omega) (by omega),FV,AA]
   by_cases h5:0≤a.index∧a.index≤(s.cells.length:Int) - 1
   ·obtain⟨c,hc,-⟩:=P6 (l:=s.cells) (i:=a.index) (by omega)
    rw [decide_eq_true h5,if_pos rfl,hc,AA]
   ·rw [decide_eq_false h5,if_neg (by simp),Im (by omega)]
  ·rw [decide_eq_false h4,if_neg (by simp),if_neg h4]
   by_cases h6:a.kind=2
   ·rw [decide_eq_true h6,if_pos rfl,if_pos h6,w64 (by omega) (by omega),FV,AA]
    by_cases h5:0≤a.index∧a.index≤(s.vars.length:Int) - 1
    ·obtain⟨c,hc,-⟩:=P6 (l:=s.vars) (i:=a.index) (by omega)
     rw [decide_eq_true h5,if_pos rfl,hc,AA]
    ·rw [decide_eq_false h5,if_neg (by simp),Im (by omega)]
   ·rw [decide_eq_false h6,if_neg (by simp),if_neg h6]
 ·rw [decide_eq_false h1,Bool.not_false,if_pos rfl,Im (by omega)]
def thB (g:Grid) (t:Thing):Bool:=t.own||aliveB g t.att
def stB (g:Grid) (s:Statement):Bool:=thB g s.a&&thB g s.b
def keyA (a:Address):List Int:=[a.machine,a.kind,a.index]
def cntT (t:Thing) (k:List Int):Nat:=if t.own=false∧keyA t.att=k then 1 else 0
def cntS:List Statement→List Int→Nat
 | [],_=>0
 |s::l,k=>cntT s.a k+(cntT s.b k+cntS l k)
theorem VI (t:Thing) (k:List Int):cntT t k≤1:=by unfold cntT; split <;> omega
theorem Y6 (k:List Int):∀l:List Statement,cntS l k≤2*l.length
 | [] =>by simp [cntS]
 |s::l=>by have:=Y6 k l; have:=VI s.a k; have:=VI s.b k; rw [cntS,List.length_cons]; omega
theorem Qr (k:List Int):∀l m:List Statement,cntS (l++m) k=cntS l k+cntS m k
 | [],m=>by simp [cntS]
 |s::l,m=>by rw [List.cons_append,cntS,cntS,Qr k l m]; omega
structure Tells' (M:List (List Int × Int)) (f:List Int→Nat) (n:Nat):Prop where
 v:∀k,(Dl M k).getD 0=((f k:Nat):Int)
 len:M.length≤n
theorem Ua {k:List Int} {v:Int}:∀ {M:List (List Int × Int)},(IU M k v).length ≤M.length+1
 | [] =>by simp [IU]
 |p::M=>by
  rw [IU]
  split
  ·simp
  ·have:=Ua (k:=k) (v:=v) (M:=M); grind
theorem W0 {k k':List Int} {v:Int}:∀ {M:List (List Int × Int)},Dl (IU M k v) k'=if k'=k then some v else Dl M k'
 | [] =>by simp [IU,Dl]
 | p::M=>by
  rw [IU]
  by_cases h:k=p.1
  ·rw [if_pos h]
   simp only [Dl]
   by_cases h2:k'=k
   ·rw [if_pos h2,if_pos h2]
   ·rw [if_neg h2,if_neg h2,if_neg (by rw [← h]; exact h2)]
  ·rw [if_neg h]
   simp only [Dl]
   by_cases h2:k'=p.1
   ·rw [if_pos h2,if_pos h2,if_neg (by rw [h2]; exact fun e=>h e.symm)]
   ·rw [if_neg h2,if_neg h2,W0]
theorem aX {M f n} {t:Thing} (h:Tells' M f n) (ho:t.own=false) (hn:n<68719476736) (hf:∀k,f k≤68719476736):
  ∃M',Ni M [t.att.machine,t.att.kind,t.att.index] (IntKind.i64.wrap ((Dl M [t.att.machine,t.att.kind,t.att.index]).getD 0+1))=some M'∧Tells' M' (fun k=>f k+cntT t k) (n+1):=by
 have h1:=h.len
 have h2:=hf (keyA t.att)
 have hv:=h.v (keyA t.att)
 unfold keyA at hv h2
 refine⟨IU M (keyA t.att) (((f (keyA t.att)+1:Nat):Int)),?_,⟨fun k=>?_,?_⟩⟩
 ·unfold Ni
  rw [if_pos (by omega),hv,w64 (by omega) (by omega)]
  rfl
 ·rw [W0]
  unfold cntT
  by_cases e:k=keyA t.att
  ·rw [if_pos e,if_pos ⟨ho,e.symm⟩,e]; rfl
  ·rw [if_neg e,if_neg (fun h=>e h.2.symm),h.v k,Nat.add_zero]
 grind [Ua]
theorem aY {M f n} {t:Thing} (h:Tells' M f n) (ho:t.own=true):Tells' M (fun k=>f k+cntT t k) (n+1):=
 ⟨fun k=>by rw [h.v k]; unfold cntT; rw [if_neg (by rw [ho]; simp),Nat.add_zero],Nat.le_succ_of_le h.len⟩
theorem W1 (L:List Statement) (hL:L.length≤4194304):∀ (post pre:List Statement) (M:List (List Int × Int)) (n:Nat),L=pre++post→Tells' M (cntS pre) (2*pre.length)→4*post.length<n→∃M',EH n L M (pre.length:Int)=some M'∧Tells' M' (cntS L) (2*L.length)
 | [],pre,M,n,h,hT,hn=>by
  obtain⟨n,rfl⟩:∃k,n=k+1:=⟨n - 1,by omega⟩
  rw [h,List.append_nil] at*
  grind [EH]
 | s::post,pre,M,n,h,hT,hn=>by
  rw [List.length_cons] at hn
  obtain⟨n,rfl⟩:∃k,n=k+4:=⟨n - 4,by omega⟩
  have hlt:pre.length<L.length:=by rw [h]; simp
  have one:∀ (M:List (List Int × Int)) (f:List Int→Nat) (q:Nat) (t:Thing) (i:Int) (k:Nat),at? [s.a,s.b] i=some t→decide (i<2)=true→Tells' M f q→q<68719476736→(∀k,f k≤68719476736)→
    ∃M',C8 (k+1) L (pre.length:Int) s M i=C8 k L (pre.length:Int) s M' (IntKind.i64.wrap (i+1))∧Tells' M' (fun k=>f k+cntT t k) (q+1):=by
   intro M f q t i k hi h2 hM hq hf
   cases ho:t.own with
   |true=>exact⟨M,by rw [C8,if_pos h2,hi,AA,ho,if_neg (by simp)],aY hM ho⟩
   |false=>
    grind [aX,C8]
  have hb:∀k,cntS pre k≤4194304*2:=fun k=>by grind [Y6]
  obtain⟨M1,e1,t1⟩:=one M (cntS pre) (2*pre.length) s.a 0 (n+2) rfl (by decide) hT (by omega) (fun k=>by grind)
  obtain⟨M2,e2,t2⟩:=one M1 _ (2*pre.length+1) s.b 1 (n+1) rfl (by decide) t1 (by omega) (fun k=>by grind [VI])
  have hT':Tells' M2 (cntS (pre++[s])) (2*(pre++[s]).length):=by
   refine⟨fun k=>?_,by have:=t2.len; rw [List.length_append,List.length_singleton]; omega⟩
   rw [t2.v k,Qr]
   simp only [cntS]
   rw [show cntS pre k+cntT s.a k+cntT s.b k=cntS pre k+(cntT s.a k+(cntT s.b k+0)) by omega]
  obtain⟨M',e3,t3⟩:=W1 L hL post (pre++[s]) M2 n (DA h) hT' (by omega)
  refine⟨M',?_,t3⟩
  rw [EH,if_pos (DS h),A1 h,AA,e1,show IntKind.i64.wrap (0+1)=1 from rfl,e2,show IntKind.i64.wrap (1+1)=2 from rfl,C8,if_neg (by decide),AX h (by grind)]
  exact e3
def So (L:List Statement) (m:Nat) (i:Nat) (c:ShardCell):Bool:=if c.kind=0 then true else decide (cntS L [(m:Int),1,(i:Int)] =1)
def varR (L:List Statement) (m:Nat) (i:Nat) (v:ShardVar):Bool:=if v.used=true then decide (cntS L [(m:Int),2,(i:Int)] =2) else true
def shR (L:List Statement) (m:Nat) (s:Shard):Bool:=allI (So L m) 0 s.cells&&allI (varR L m) 0 s.vars
def JT (g:Grid) (L:List Statement):Bool:=allI (shR L) 0 g.shards
theorem mQ (g:Grid) (m:Nat) (s:Shard) (hs:s.Small) (M:List (List Int × Int)) (L:List Statement) (n0:Nat) (hM:Tells' M (cntS L) n0) (R:Option Bool) (N:Nat) (hR:∀n,N≤n→AW n g M (IntKind.i64.wrap ((m:Int)+1))=R):∀n,N+1+2*s.vars.length≤n→An n g (m:Int) M s 0=if allI (varR L m) 0 s.vars=true then R else some false:=by
 intro n hn
 have h1:=hs.vl
 refine M7 s.vars (varR L m) (fun _=>2) (fun n i=>An n g (m:Int) M s i) (some false) R (N+1) ?_ ?_ s.vars [] rfl n (by rw [A8]; omega)
 ·intro pre x post k B R h hR hm
  obtain⟨k,rfl⟩:∃j,k=j+2:=⟨k - 2,by omega⟩
  have e:An (k+2) g (m:Int) M s (pre.length:Int)=Ba (k+1) g (m:Int) (pre.length:Int) M s (!varR L m pre.length x):=by
   rw [An,if_pos (DS h),A1 h,AA]
   unfold varR
   cases x.used with
   |false=>simp
   |true=>
    rw [if_pos rfl,if_pos rfl,F9,AA]
    simp only
    rw [hM.v]
    grind [decide_eq_false]
  grind [Ba,AX]
 ·intro n hn
  obtain⟨n,rfl⟩:∃k,n=k+1:=⟨n - 1,by omega⟩
  grind [An]
theorem i9 (g:Grid) (m:Nat) (s:Shard) (hs:s.Small) (M:List (List Int × Int)) (L:List Statement) (n0:Nat) (hM:Tells' M (cntS L) n0) (R:Option Bool) (N:Nat) (hR:∀n,N≤n→AW n g M (IntKind.i64.wrap ((m:Int)+1))=R):∀n,N+2+(2*s.cells.length+2*s.vars.length)≤n→Ae n g (m:Int) M s 0=if shR L m s=true then R else some false:=by
 intro n hn
 have h1:=hs.cl
 have:=M7 s.cells (So L m) (fun _=>2) (fun n i=>Ae n g (m:Int) M s i) (some false) (if allI (varR L m) 0 s.vars=true then R else some false) (N+2+2*s.vars.length) ?_ ?_ s.cells [] rfl n (by rw [A8]; omega)
 ·have this:Ae n g (m:Int) M s 0=_:=this
  rw [this,List.length_nil]
  unfold shR
  cases allI (So L m) 0 s.cells <;> simp
 ·intro pre x post k B R h hR hm
  obtain⟨k,rfl⟩:∃j,k=j+2:=⟨k - 2,by omega⟩
  have e:Ae (k+2) g (m:Int) M s (pre.length:Int)=BZ (k+1) g (m:Int) (pre.length:Int) M s (!So L m pre.length x):=by
   rw [Ae,if_pos (DS h),A1 h,AA]
   unfold So
   by_cases h0:x.kind=0
   ·grind
   ·rw [decide_eq_false h0,Bool.not_false,if_pos rfl,if_neg h0,FY,AA]
    simp only
    rw [hM.v]
    grind [decide_eq_false]
  grind [BZ,AX]
 ·intro n hn
  obtain⟨n,rfl⟩:∃k,n=k+1:=⟨n - 1,by omega⟩
  show Ae (n+1) g (m:Int) M s (s.cells.length:Int)=_
  rw [Ae,FI (pre:=s.cells) (List.append_nil _).symm,if_neg (by simp)]
  exact mQ g m s hs M L n0 hM R N hR n (by omega)
def Sm (s:Shard):Nat:=3+(2*s.cells.length+2*s.vars.length)
theorem aZ (g:Grid) (L:List Statement) (hs:∀s ∈ g.shards,s.Small) (hl:g.shards.length≤4194304) (hw:szw Sm g.shards≤1099511627776) (hL:L.length≤4194304):EI g L=some (L.all (stB g)&&JT g L):=by
 unfold EI
 obtain⟨M,hM1,hM2⟩:=W1 L hL L [] [] fuel rfl ⟨fun k=>rfl,Nat.zero_le _⟩ (by rw [Ar]; omega)
 rw [List.length_nil,Int.natCast_zero] at hM1
 have hrest:AW fuel g M 0=some (JT g L):=by
  have:=M7 g.shards (shR L) Sm (fun n i=>AW n g M i) (some false) (some true) 1 ?_ ?_ g.shards [] rfl fuel (by rw [Ar]; omega)
  ·have this:AW fuel g M 0=_:=this
   rw [this,List.length_nil]
   unfold JT
   cases allI (shR L) 0 g.shards <;> rfl
  ·intro pre x post k B R h hR hm
   unfold Sm at hm
   obtain⟨k,rfl⟩:∃j,k=j+1:=⟨k - 1,by omega⟩
   show AW (k+1) g M (pre.length:Int)=_
   rw [AW,if_pos (DS h),A1 h,AA]
   exact i9 g pre.length x (hs x (by rw [h]; simp)) M L _ hM2 R B (fun n hn=>by rw [AX h (by grind)]; grind) k (by omega)
  ·intro n hn
   obtain⟨n,rfl⟩:∃k,n=k+1:=⟨n - 1,by omega⟩
   show AW (n+1) g M (g.shards.length:Int)=_
   rw [AW,FI (pre:=g.shards) (List.append_nil _).symm,if_neg (by simp)]
 have:=M6 L (stB g) (fun _=>2) (fun n i=>Ap n g L i) (some false) (some (JT g L)) 1 ?_ ?_ L [] rfl fuel (by rw [A8,Ar]; omega)
 ·have this:Ap fuel g L 0=_:=this
  rw [this]
  cases L.all (stB g) <;> simp
 ·intro pre x post k B R h hR hm
  obtain⟨k,rfl⟩:∃j,k=j+2:=⟨k - 2,by omega⟩
  have e:Ap (k+2) g L (pre.length:Int)=A4 (k+1) g L (pre.length:Int) (!stB g x):=by
   rw [Ap,if_pos (DS h),A1 h,AA]
   simp only [aW,AA]
   unfold stB thB
   cases x.a.own <;> cases x.b.own <;> cases aliveB g x.a.att <;> simp
  grind [A4,AX]
 ·intro n hn
  obtain⟨n,rfl⟩:∃k,n=k+1:=⟨n - 1,by omega⟩
  grind [Ap,RU]
theorem jA {c:ShardCell} (h:ceB c=true):c.aux.length≤3:=by
 unfold ceB at h
 split at h
 ·grind [emptyB]
 ·simp only [Bool.and_eq_true] at h
  have:=(Wu h.2).2.1
  grind [VH]
theorem Ub (a:Address) (k:Nat) (l:List Address):(AO (GL a) k l).length ≤1*l.length:=HR fun i x _=>Nat.le_refl _
theorem Sp {g:Grid} (h:IK g=true):(Hw g).length ≤8001:=by
 unfold IK at h
 simp only [Bool.and_eq_true,decide_eq_true_eq] at h
 have h1:(AO EM 0 g.shards).length ≤2000*g.shards.length:=by
  refine HR fun i s hs=>?_
  have h2:=List.all_eq_true.1 h.2 s hs
  unfold shB lenB at h2
  simp only [Bool.and_eq_true,decide_eq_true_eq] at h2
  obtain⟨⟨k1,k2,k3⟩,k4,-⟩:=h2
  have a1:(AO (HQ (i:Int)) 0 s.cells).length ≤3*s.cells.length:=HR fun j c hc=>by
   grind [jA,Ub,HQ]
  have a2:(AO Hd 0 s.redexes).length ≤1*s.redexes.length:=HR fun j r _=>Nat.le_refl _
  have a3:(AO (Ed (i:Int)) 0 s.vars).length ≤1*s.vars.length:=HR fun j v _=>by
   unfold Ed
   split <;> simp
  grind [EM]
 grind [Hw]
theorem Uc {c:Cluster} {k:Nat} (hk:c.channels.length≤16) (h:allI (chB k) 0 c.channels=true):(JS c).length ≤16000:=by
 rw [DB] at h
 have h1:(AO Fb 0 c.channels).length ≤1000*c.channels.length:=by
  refine HR fun i x hx=>?_
  obtain⟨j,hj,rfl⟩:=List.getElem_of_mem hx
  have h2:=h j _ (List.getElem?_eq_getElem hj)
  unfold chB at h2
  simp only [Bool.and_eq_true,decide_eq_true_eq] at h2
  have h3:(AO (FJ (i:Int)) 0 (c.channels[j])).length ≤4*(c.channels[j]).length :=HR fun q p hp=>by
   grind [FJ,paB,jA,Ub]
  grind [Fb]
 grind [JS]
def O1 (c:Cluster):List Statement:=Hw c.grid++JS c
def clB (c:Cluster):Bool:=Jv c&&((O1 c).all (stB c.grid)&&JT c.grid (O1 c))
structure Cluster.Fits (c:Cluster):Prop where
 s:c.Small
 t:szw Sl c.grid.shards≤1099511627776
 r:szw Sm c.grid.shards≤1099511627776
 p:szw (fun x=>2+2*List.length x) c.channels≤1099511627776
theorem dC (c:Cluster) (hc:c.Fits) (hp:(JS c).length ≤16000):En c.grid (JS c)=some (IK c.grid&&((O1 c).all (stB c.grid)&&JT c.grid (O1 c))):=by
 have h1:=hc.s.gl
 have bad:B5 c.grid (JS c) true=some false:=rfl
 have hsh:Bv c.grid.shards (fun y0=>Dq y0)=some (!c.grid.shards.all shB):=
  Hv A6 Bv (fun n l i f=>by rw [A6]) (fun l f=>rfl) c.grid.shards _ shB (by unfold Big; omega) (fun s hs=>by unfold Dq; rw [UY (hc.s.g s hs),AA])
 unfold En
 by_cases k1:c.grid.shards.length<1
 ·rw [decide_eq_true (by omega),if_pos rfl,bad]
  unfold IK
  rw [decide_eq_false (by omega)]; rfl
 ·rw [decide_eq_false (by omega),if_neg (by simp)]
  by_cases k2:4<c.grid.shards.length
  ·rw [decide_eq_true (by omega),if_pos rfl,bad]
   unfold IK
   rw [decide_eq_false (by omega)]; rfl
  ·rw [decide_eq_false (by omega),if_neg (by simp),hsh,AA]
   have hg:IK c.grid=c.grid.shards.all shB:=by
    unfold IK
    rw [decide_eq_true (by omega),Bool.true_and]
   rw [hg]
   cases hall:c.grid.shards.all shB with
   |false=>exact bad
   |true=>
    have hgl:=Sp (g:=c.grid) (by rw [hg,hall])
    unfold B5
    rw [Bool.not_true,if_neg (by simp),Bool.true_and,fT c.grid hc.s.g h1 hc.t (by unfold Big; omega),AA,Ew (by unfold Big; omega),AA,aZ c.grid _ hc.s.g h1 hc.r (by rw [List.length_append]; omega),AA]
    rfl
theorem Ly (c:Cluster) (hc:c.Fits):Dr c=some (clB c):=by
 have h1:=hc.s.gl
 have h2:=hc.s.chl
 have h3:=hc.s.col
 unfold Dr BX
 rw [AA]
 have bad1:∀v,CT c v true=some false:=fun v=>rfl
 have bad2:BS c true=some false:=rfl
 have small:¬ (1≤c.grid.shards.length∧c.grid.shards.length≤4)→clB c=false:=fun h=>by
  grind [clB,Jv,IK]
 by_cases k1:c.grid.shards.length<1
 ·rw [decide_eq_true (by omega),if_pos rfl,bad1,small (by omega)]
 ·rw [decide_eq_false (by omega),if_neg (by simp)]
  by_cases k2:4<c.grid.shards.length
  ·rw [decide_eq_true (by omega),if_pos rfl,bad1,small (by omega)]
  ·rw [decide_eq_false (by omega),if_neg (by simp),Ws c.channels c.grid.shards.length (by omega) hc.s.ch h2,AA]
   unfold clB Jv
   have hkk:c.grid.shards.length*c.grid.shards.length≤4*4:=Nat.mul_le_mul (by omega) (by omega)
   by_cases c1:(decide (c.channels.length=c.grid.shards.length*c.grid.shards.length)&&(allI (dgB c.grid.shards.length) 0 c.channels&&allI (chB c.grid.shards.length) 0 c.channels))=true
   ·rw [c1]
    simp only [Bool.and_eq_true,decide_eq_true_eq] at c1
    obtain⟨e1,e2,e3⟩:=c1
    unfold CT
    rw [Bool.not_true,if_neg (by simp),IJ _ (by have:=hc.s.se; grind),AA,IJ _ (by have:=hc.s.go; grind),AA,e2,e3,decide_eq_true e1]
    have hj:BS c false=some (c.counts.all (fun x=>decide (x.length=7)&&x.all cntB)&&(IK c.grid&&((O1 c).all (stB c.grid)&&JT c.grid (O1 c)))):=by
     have hpl:=Uc (by omega) e3
     unfold BS
     rw [if_neg (by simp),Hv BY DY (fun n l i f=>by rw [BY]) (fun l f=>rfl) c.counts _ (fun x=>decide (x.length=7)&&x.all cntB) (by grind) (fun x hx=>by
      unfold F7 CS
      rw [IJ _ (by have:=hc.s.co x hx; grind),AA]
      grind [decide_eq_false]),AA,i8 c hc.s hc.p (by grind),AA,dC c hc hpl,AA]
     cases c.counts.all (fun x=>decide (x.length=7)&&x.all cntB) <;> simp
    by_cases k3:c.counts.length=c.grid.shards.length
    ·rw [decide_eq_true (by omega),Bool.not_true,if_neg (by simp),decide_eq_true k3]
     grind [decide_eq_false]
    grind
   grind [decide]
end Go.Proofs.YtclmbjbbojdojaaGreat.Ab
