/-
  Nets that are rewritten: copies, what a valid net is, its highest level. No program is in sight.
-/
import Derived.Test.YtckcfdggbbabfaaGreatPlRf
namespace Go.Proofs.YtckcfdggbbabfaaGreat.Ab
set_option linter.unusedVariables false
set_option linter.unusedSimpArgs false
open Go.RowKit
theorem VM {α:Type} (L:Nat→List α→Int→Option (List α)) (f:α→Option α) (l:List α) (hl:l.length≤Big) (hf:∀x ∈ l,f x=some x)
  (hL:∀n acc i,L (n+1) acc i=(if (decide (i<((List.length l:Nat):Int)))=true then (Option.bind (at? l i) fun v=>(Option.bind (f v) fun w=>(Option.bind (app? acc [w]) fun z=>(L n z (IntKind.i64.wrap (i+1)))))) else (some acc))):L fuel [] 0=some l:=by
 have loop:∀ (post pre:List α) (n:Nat),l=pre++post→post.length<n→L n pre ((List.length pre:Nat):Int)=some l:=by
  intro post
  induction post with
  |nil=>
   intro pre n h hn
   obtain⟨n,rfl⟩:∃m,n=m+1:=⟨n - 1,by omega⟩
   rw [hL,Cv h,if_neg (by simp),h,List.append_nil]
  |cons x post ih=>
   intro pre n h hn
   rw [List.length_cons] at hn
   obtain⟨n,rfl⟩:∃m,n=m+1:=⟨n - 1,by omega⟩
   have hx:x ∈ l:=by rw [h]; simp
   have hlen:pre.length+ [x].length ≤Big:=by rw [h] at hl; simp at hl ⊢; omega
   rw [hL,if_pos (Ck h),Bf h,AA,hf x hx,AA,DO hlen,AA,BI h hl]
   exact ih (pre++[x]) n (Aj h) (by omega)
 exact loop l [] fuel rfl (by rw [Au]; unfold Big at hl; omega)
theorem ZS (d:List Int) (hd:d.length≤Big):Ej d=some d:=by
 unfold Ej
 rw [DO (by simpa using hd)]; rfl
theorem Qd (a:Agent) (h:a.Small):i_copyAgent_z a=some a:=by
 unfold i_copyAgent_z
 rw [Ra _ h.2,AA,Rb _ h.1]; rfl
theorem M1 (a:Agent) (h:a.Small):i_copyAgent a=some a:=by
 unfold i_copyAgent
 rw [ZS _ h.2,AA,Rb _ h.1]; rfl
theorem Tz (n:Net) (hl:n.agents.length≤Big) (h:∀a ∈ n.agents,a.Small):Gt n=some n:=by
 unfold Gt
 rw [Po hl,AA]
 have hc:=VM (fun n' acc i=>(DD n' n acc i).map (·.agents)) i_copyAgent_z n.agents hl (fun a ha=>Qd a (h a ha)) fun n' acc i=>by
  rw [DD]
  split
  ·cases at? n.agents i with
   |none=>rfl
   |some v=>simp only [Option.bind]; cases i_copyAgent_z v with
    |none=>rfl
    |some w=>simp only; cases app? acc [w] <;> rfl
  ·rfl
 simp only [Option.map_eq_some_iff] at hc
 obtain⟨a,h1,h2⟩:=hc
 rw [h1]; congr 1
 cases a; cases n; simp_all
theorem VN (n:Net) (hl:n.agents.length≤Big) (h:∀a ∈ n.agents,a.Small):I2 n=some n:=by
 unfold I2
 rw [Po hl,AA]
 have hc:=VM (fun n' acc i=>(D9 n' n acc i).map (·.agents)) i_copyAgent n.agents hl (fun a ha=>M1 a (h a ha)) fun n' acc i=>by
  rw [D9]
  split
  ·cases at? n.agents i with
   |none=>rfl
   |some v=>simp only [Option.bind]; cases i_copyAgent v with
    |none=>rfl
    |some w=>simp only; cases app? acc [w] <;> rfl
  ·rfl
 simp only [Option.map_eq_some_iff] at hc
 obtain⟨a,h1,h2⟩:=hc
 rw [h1]; congr 1
 cases a; cases n; simp_all
theorem ZT (n:Net) (hl:n.agents.length≤Big) (h:∀a ∈ n.agents,a.Small):Ko n=some n:=by
 unfold Ko
 have hc:=VM (fun n' acc i=>(Ep n' n acc i).map (·.agents)) s_l11OwnAgent n.agents hl (fun a ha=>Ic a (h a ha).2 (h a ha).1) fun n' acc i=>by
  rw [Ep]
  split
  ·cases at? n.agents i with
   |none=>rfl
   |some v=>simp only [Option.bind]; cases s_l11OwnAgent v with
    |none=>rfl
    |some w=>simp only; cases app? acc [w] <;> rfl
  ·rfl
 simp only [Option.map_eq_some_iff] at hc
 obtain⟨a,h1,h2⟩:=hc
 rw [h1]; congr 1
 cases a; cases n; simp_all
theorem T0 (b:List Net) (n:Net) (hl:n.agents.length≤Big) (h:∀a ∈ n.agents,a.Small):ES b n=some ⟨n,b,[]⟩:=by
 unfold ES
 rw [Tz n hl h]; rfl
theorem T3:∀ (l:List Agent) (i:Nat),R5 i l=true→∀ (k:Nat) (a:Agent),l[k]? =some a→agB a=true∧(a.kind=1↔i+k=0)
 | [],_,_,k,a,h=>by simp at h
 |x::l,i,hb,0,a,h=>by
  rw [R5] at hb
  simp only [Bool.and_eq_true,beq_iff_eq] at hb
  simp only [List.getElem?_cons_zero,Option.some.injEq] at h
  subst h
  refine⟨hb.1.1,?_⟩
  have:=hb.1.2
  by_cases h1:x.kind=1 <;> by_cases h2:i=0 <;> simp_all
 |x::l,i,hb,k+1,a,h=>by
  rw [R5] at hb
  simp only [Bool.and_eq_true] at hb
  rw [List.getElem?_cons_succ] at h
  obtain⟨h1,h2⟩:=T3 l (i+1) hb.2 k a h
  exact⟨h1,by rw [h2]; omega⟩
theorem Pw {l:List Agent} {i:Nat}:∀ (ps:List Port) (k:Nat),GW l i k ps=true→∀ (j:Nat) (p:Port),ps[j]? =some p→RX l i (k+j) p=true
 | [],_,_,j,p,h=>by simp at h
 |x::ps,k,hb,0,p,h=>by
  rw [GW] at hb
  simp only [Bool.and_eq_true] at hb
  simp only [List.getElem?_cons_zero,Option.some.injEq] at h
  subst h; exact hb.1
 |x::ps,k,hb,j+1,p,h=>by
  rw [GW] at hb
  simp only [Bool.and_eq_true] at hb
  rw [List.getElem?_cons_succ] at h
  have:=Pw ps (k+1) hb.2 j p h
  rwa [show k+1+j=k+(j+1) from by omega] at this
theorem Lo {l:List Agent}:∀ (m:List Agent) (i:Nat),EV l i m=true→∀ (k:Nat) (a:Agent),m[k]? =some a→GW l (i+k) 0 a.ports=true
 | [],_,_,k,a,h=>by simp at h
 |x::m,i,hb,0,a,h=>by
  rw [EV] at hb
  simp only [Bool.and_eq_true] at hb
  simp only [List.getElem?_cons_zero,Option.some.injEq] at h
  subst h; exact hb.1
 |x::m,i,hb,k+1,a,h=>by
  rw [EV] at hb
  simp only [Bool.and_eq_true] at hb
  rw [List.getElem?_cons_succ] at h
  have:=Lo m (i+1) hb.2 k a h
  rwa [show i+1+k=i+(k+1) from by omega] at this
structure VnN (N:Nat) (l:List Agent):Prop where
 len:1≤l.length∧l.length≤N
 ag:∀k a,at? l k=some a→agB a=true∧(a.kind=1↔k=0)
 m:M l fun _=>False
abbrev Vn:=VnN 600
theorem Net.valid_vn {n:Net} (h:n.valid=true):Vn n.agents:=by
 unfold Net.valid agentsB at h
 simp only [Bool.and_eq_true,decide_eq_true_eq] at h
 obtain⟨⟨h1,h2⟩,h3⟩:=h
 refine⟨h1,fun k a hk=>?_,fun p q hp _=>?_⟩
 ·obtain⟨k1,k2⟩:=A5 hk
  obtain⟨g1,g2⟩:=T3 _ 0 h2 _ _ k2
  exact⟨g1,by rw [g2]; omega⟩
 ·obtain⟨a,ha,hq⟩:=Aq.1 hp
  obtain⟨k1,k2⟩:=A5 ha
  obtain⟨k3,k4⟩:=A5 hq
  have:=Pw _ 0 (Lo _ 0 h3 _ _ k2) _ _ k4
  rw [Nat.zero_add,Nat.zero_add] at this
  unfold RX at this
  simp only [Bool.and_eq_true,Bool.not_eq_true',Bool.and_eq_false_iff,decide_eq_false_iff_not] at this
  obtain⟨g1,g2⟩:=this
  refine⟨not_false,fun e=>?_,?_⟩
  ·subst e
   rcases g1 with g|g
   ·omega
   ·omega
  ·unfold get
   cases hq':EZ n.agents q with
   |none=>rw [hq'] at g2; cases g2
   |some r=>
    rw [hq'] at g2
    simp only [Bool.and_eq_true,decide_eq_true_eq] at g2
    congr 1
    exact Bw (by omega) (by omega)
theorem Js {a:Agent} (h:agB a=true):levB a.kind a.level=true:=by
 unfold agB at h; simp only [Bool.and_eq_true] at h; exact h.1.2
theorem Rc {a:Agent} (h:agB a=true):ports a.kind (if a.kind=9 then (a.ports.length:Int) - 1 else 0)=(a.ports.length:Int)∧0<a.ports.length:=by
 unfold agB at h; simp only [Bool.and_eq_true,decide_eq_true_eq] at h; exact⟨h.1.1.2,h.1.1.1⟩
theorem CI {a:Agent} (h:agB a=true):1≤a.ports.length∧a.ports.length≤4:=by
 obtain⟨h1,h2⟩:=Rc h
 unfold ports at h1
 repeat' split at h1
 all_goals omega
theorem Kv {a:Agent} (h:agB a=true):a.data.length≤4:=by
 unfold agB at h; simp only [Bool.and_eq_true] at h
 have h:=h.2
 unfold E8 at h
 repeat' split at h
 all_goals (simp only [Bool.and_eq_true,decide_eq_true_eq] at h; omega)
theorem Xa {a:Agent} (h:agB a=true):a.Small:=⟨by have:=CI h; unfold Big; omega,by have:=Kv h; unfold Big; omega⟩
theorem JH {a:Agent} (h:agB a=true):1≤a.kind∧a.kind≤12:=by
 have:=Js h; unfold levB at this; simp only [Bool.and_eq_true,decide_eq_true_eq] at this; exact this.1
theorem Hj {a:Agent} (h:agB a=true):0≤a.level∧a.level≤8:=by
 have:=Js h; unfold levB at this; simp only [Bool.and_eq_true,decide_eq_true_eq] at this
 have:=this.2
 split at this <;> simp only [decide_eq_true_eq] at this <;> omega
theorem Kw {a:Agent} (h:agB a=true):(a.kind=1∨a.kind=5∨a.kind=6∨a.kind=12→a.ports.length=1)∧(a.kind=8∨a.kind=10∨a.kind=11→a.ports.length=2)∧(a.kind=2∨a.kind=3∨a.kind=4∨a.kind=7→a.ports.length=3):=by
 obtain⟨h1,h2⟩:=Rc h
 unfold ports at h1
 repeat' split at h1
 all_goals omega
theorem VnN.mem {N:Nat} {l:List Agent} (h:VnN N l) {a:Agent} (ha:a ∈ l):agB a=true:=by
 obtain⟨i,hi,rfl⟩:=List.getElem_of_mem ha
 exact(h.ag i _ (Kq (by rw [List.getElem?_eq_getElem hi]))).1
theorem VnN.small {N:Nat} {l:List Agent} (h:VnN N l):∀a ∈ l,a.Small:=fun a ha=>Xa (h.mem ha)
def hiL:Int→List Agent→Int
 |m,[] =>m
 |m,a::l=>hiL (if a.level<m then m else a.level) l
theorem gd (n:Net) (hl:n.agents.length≤Big):HM n=some (hiL 0 n.agents):=by
 have loop:∀ (post pre:List Agent) (m:Int) (k:Nat),n.agents=pre++post→post.length<k→CL k n m ((List.length pre:Nat):Int)=some (hiL m post):=by
  intro post
  induction post with
  |nil=>
   intro pre m k h hk
   obtain⟨k,rfl⟩:∃q,k=q+1:=⟨k - 1,by omega⟩
   rw [CL,Cv h,if_neg (by simp),hiL]
  | cons x post ih=>
   intro pre m k h hk
   rw [List.length_cons] at hk
   obtain⟨k,rfl⟩:∃q,k=q+1:=⟨k - 1,by omega⟩
   rw [CL,if_pos (Ck h),Bf h,AA]
   have:F8 m x.level=some (if x.level<m then m else x.level):=by
    unfold F8
    by_cases e:x.level<m <;> simp [e]
   rw [this,AA,BI h hl,hiL]
   exact ih (pre++[x]) _ k (Aj h) (by omega)
 exact loop n.agents [] 0 fuel rfl (by rw [Au]; unfold Big at hl; omega)
theorem SF:∀ (l:List Agent) (m c:Int),(hiL m l≤c↔m≤c∧∀a ∈ l,a.level≤c)
 | [],m,c=>by simp [hiL]
 | a::l,m,c=>by
  rw [hiL,SF l]
  simp only [List.mem_cons,forall_eq_or_imp]
  constructor
  ·rintro ⟨h1,h2⟩
   split at h1 <;> exact⟨by omega,by omega,h2⟩
  ·rintro ⟨h1,h2,h3⟩
   split <;> exact⟨by omega,h3⟩
end Go.Proofs.YtckcfdggbbabfaaGreat.Ab
namespace Go.Proofs.YtckcfdggbbabfaaGreat.Ab
set_option linter.unusedVariables false
set_option linter.unusedSimpArgs false
open Go.RowKit
theorem Kx {α:Type} {pre post:List α} {x y:α}:D2 (pre++x::post) ((List.length pre:Nat):Int) y=some (pre++y::post):=by
 unfold D2 XM
 simp
theorem Jt {α:Type} {pre post:List α} {x:α}:at? (pre++x::post) ((List.length pre:Nat):Int)=some x:=Bf rfl
def lvA (lv:Int) (a:Agent):Agent:=if hasL a.kind=true then ⟨a.kind,a.level+lv,a.value,a.data,a.ports⟩ else a
def okL (lv:Int) (l:List Agent):Bool:=l.all fun a=> !hasL a.kind||decide (a.level+lv≤8)
theorem Px (T:Net) (lv:Int) (hT:Vn T.agents) (hlv:0≤lv∧lv≤8):Hc T lv=some (if okL lv T.agents=true then (⟨T.agents.map (lvA lv)⟩,true) else (⟨[]⟩,false)):=by
 have hl:T.agents.length≤Big:=by have:=hT.len; unfold Big; omega
 unfold Hc
 rw [VN T hl hT.small,AA]
 have loop:∀ (post pre:List Agent) (k:Nat),T.agents=pre++post→post.length<k→Cq k lv T (pre.map (lvA lv)++post) ((List.length pre:Nat):Int)=some (if okL lv post=true then (⟨(pre++post).map (lvA lv)⟩,true) else (⟨[]⟩,false)):=by
  intro post
  induction post with
  |nil=>
   intro pre k h hk
   obtain⟨k,rfl⟩:∃q,k=q+1:=⟨k - 1,by omega⟩
   rw [Cq,Cv h,if_neg (by simp)]
   simp [okL]
  | cons x post ih=>
   intro pre k h hk
   rw [List.length_cons] at hk
   obtain⟨k,rfl⟩:∃q,k=q+1:=⟨k - 1,by omega⟩
   have hx:=Hj (hT.mem (a:=x) (by rw [h]; simp))
   have e1:((List.length pre:Nat):Int)=((List.length (pre.map (lvA lv)):Nat):Int):=by rw [List.length_map]
   have ih':=ih (pre++[x]) k (Aj h) (by omega)
   rw [List.map_append,List.map_singleton,List.append_assoc,List.singleton_append,List.append_assoc,List.singleton_append] at ih'
   rw [Cq,if_pos (Ck h),e1,Jt,AA,WI,AA]
   by_cases hk':hasL x.kind=true
   ·rw [hk',if_neg (by simp),Kx,AA,Jt,AA,w64 (by omega) (by omega)]
    have e2:lvA lv x=⟨x.kind,x.level+lv,x.value,x.data,x.ports⟩:=by unfold lvA; rw [if_pos hk']
    by_cases h8:8<x.level+lv
    ·rw [if_pos (by simpa using h8)]
     simp only [okL,List.all_cons,hk',Bool.not_true,Bool.false_or,show decide (x.level+lv≤8)=false from by simp; omega,Bool.false_and,Bool.false_eq_true,if_false]
    ·rw [if_neg (by simpa using h8),← e1,BI h hl,← e2,ih']
     simp only [okL,List.all_cons,hk',Bool.not_true,Bool.false_or,show decide (x.level+lv≤8)=true from by simp; omega,Bool.true_and]
     rfl
   ·have hk2:hasL x.kind=false:=by simpa using hk'
    have e2:lvA lv x=x:=by unfold lvA; rw [if_neg hk']
    rw [hk2,if_pos (by simp),← e1,BI h hl]
    rw [e2] at ih'
    rw [ih']
    simp only [okL,List.all_cons,hk2,Bool.not_false,Bool.true_or,Bool.true_and]
    rfl
 have:=loop T.agents [] fuel rfl (by rw [Au]; unfold Big at hl; omega)
 simpa using this
theorem dZ {l:List Agent} {lv:Int} (hl:∀a ∈ l,agB a=true) (hlv:0≤lv∧lv≤8):okL lv l=decide (hiL 0 l+lv≤8):=by
 have:(okL lv l=true)↔hiL 0 l+lv≤8:=by
  rw [show (hiL 0 l+lv≤8)↔(hiL 0 l≤8 - lv) from by omega,SF]
  unfold okL
  rw [List.all_eq_true]
  constructor
  ·intro h
   refine⟨by omega,fun a ha=>?_⟩
   have h1:=h a ha
   have h2:=hl a ha
   have h3:=Js h2
   by_cases hk:hasL a.kind=true
   ·rw [hk] at h1; simp only [Bool.not_true,Bool.false_or,decide_eq_true_eq] at h1; omega
   ·have hk:=JH h2
    unfold levB at h3
    unfold hasL at*
    by_cases h4:a.kind=1∨a.kind=5∨a.kind=6
    ·rw [if_pos h4] at h3; simp only [Bool.and_eq_true,decide_eq_true_eq] at h3; omega
    ·exfalso
     simp only [not_or] at h4
     simp_all
  ·rintro ⟨-,h⟩ a ha
   have:=h a ha
   simp only [Bool.or_eq_true,decide_eq_true_eq]
   exact .inr (by omega)
 by_cases h:okL lv l=true
 ·rw [h,decide_eq_true (this.1 h)]
 ·have h':okL lv l=false:=by simpa using h
  rw [h',decide_eq_false fun e=>h (this.2 e)]
def sp (off:Int) (p:Port):Port:=⟨p.agent+off,p.slot⟩
def expA (off lv:Int) (a:Agent):Agent:=⟨a.kind,(lvA lv a).level,a.value,a.data,a.ports.map (sp off)⟩
def Pin (a:Agent):Prop:=∀q ∈ a.ports,0≤q.agent∧q.agent<600
theorem Vn.pin {l:List Agent} (h:Vn l):∀a ∈ l,Pin a:=fun a ha q hq=>by
 obtain⟨i,hi,rfl⟩:=List.getElem_of_mem ha
 obtain⟨j,hj,rfl⟩:=List.getElem_of_mem hq
 obtain⟨-,-,h3⟩:=h.m ⟨(i:Int),(j:Int)⟩ _ (Aq.2 ⟨l[i],Kq (by rw [List.getElem?_eq_getElem hi]),Kq (by rw [List.getElem?_eq_getElem hj])⟩) not_false
 have:=Cw h3
 have:=h.len
 omega
theorem T4 (T Bn:Net) (y i lvl:Int) (a x:Agent) (acc:List Agent) (hB:Bn.agents.length≤8000000) (hB1:1≤Bn.agents.length):∀ (post pre:List Port) (n:Nat),(∀q ∈ post,0≤q.agent∧q.agent<600)→pre.length+post.length≤Big→
  CM (post.length+1+n) T Bn y acc i lvl a x (pre.map (sp ((Bn.agents.length:Int) - 1))++post) ((List.length pre:Nat):Int)=Option.bind (app? acc [⟨x.kind,lvl,x.value,x.data,(pre++post).map (sp ((Bn.agents.length:Int) - 1))⟩]) fun v=>BG n T Bn y a v (IntKind.i64.wrap (i+1)):=by
 intro post
 induction post with
 |nil=>
  intro pre n hq hb
  rw [show ([] :List Port).length +1+n=n+1 from by simp; omega,CM,if_neg (by simp),List.append_nil,List.append_nil]
 |cons q post ih=>
  intro pre n hq hb
  rw [List.length_cons] at hb
  have e1:((List.length pre:Nat):Int)=((List.length (pre.map (sp ((Bn.agents.length:Int) - 1))):Nat):Int):=by rw [List.length_map]
  have hq0:=hq q List.mem_cons_self
  rw [show (q::post).length +1+n=(post.length+1+n)+1 from by simp; omega,CM,if_pos (by simp; omega),e1,Jt,AA,AA,Kx,AA,← e1,w64 (n:=(Bn.agents.length:Int) - 1) (by omega) (by omega),w64 (by omega) (by omega),w64 (by unfold Big at hb; omega) (by unfold Big at hb; omega)]
  have:=ih (pre++[q]) n (fun r hr=>hq r (List.mem_cons_of_mem _ hr)) (by simp; omega)
  rw [List.map_append,List.map_singleton,List.append_assoc,List.singleton_append,List.append_assoc,List.singleton_append,List.length_append,List.length_singleton] at this
  rw [show ((List.length pre:Nat):Int)+1=((List.length pre+1:Nat):Int) from by omega]
  exact this
theorem T5 (a0:Rewriter) (y i:Int) (v3:Port) (v4:List Agent) (hs:List HAgent) (x:Agent) (acc:List Agent) (hB:a0.net.agents.length≤8000000) (hB1:1≤a0.net.agents.length):∀ (post pre:List Port) (n:Nat),x.ports=pre++post→(∀q ∈ post,0≤q.agent∧q.agent<600)→pre.length+post.length≤Big→
  BE (post.length+1+n) a0 y acc hs i v3 v4 x (pre.map (sp ((a0.net.agents.length:Int) - 1))++post) ((List.length pre:Nat):Int)=Option.bind (app? acc [⟨x.kind,x.level,x.value,x.data,(pre++post).map (sp ((a0.net.agents.length:Int) - 1))⟩]) fun v=>Al n a0 y v3 v4 v (List.set hs (Int.toNat i) (HAgent.gone x)) (IntKind.i64.wrap (i+1)):=by
 intro post
 induction post with
 |nil=>
  intro pre n hx hq hb
  rw [show ([] :List Port).length +1+n=n+1 from by simp; omega,BE,if_neg (by rw [hx]; simp),List.append_nil,List.append_nil]
 |cons q post ih=>
  intro pre n hx hq hb
  rw [List.length_cons] at hb
  have e1:((List.length pre:Nat):Int)=((List.length (pre.map (sp ((a0.net.agents.length:Int) - 1))):Nat):Int):=by rw [List.length_map]
  have hq0:=hq q List.mem_cons_self
  rw [show (q::post).length +1+n=(post.length+1+n)+1 from by simp; omega,BE,if_pos (by rw [hx]; simp; omega),e1,Jt,AA,AA,Kx,AA,← e1,w64 (n:=(a0.net.agents.length:Int) - 1) (by omega) (by omega),w64 (by omega) (by omega),w64 (by unfold Big at hb; omega) (by unfold Big at hb; omega)]
  have:=ih (pre++[q]) n (by rw [hx]; simp) (fun r hr=>hq r (List.mem_cons_of_mem _ hr)) (by simp; omega)
  rw [List.map_append,List.map_singleton,List.append_assoc,List.singleton_append,List.append_assoc,List.singleton_append,List.length_append,List.length_singleton] at this
  rw [show ((List.length pre:Nat):Int)+1=((List.length pre+1:Nat):Int) from by omega]
  exact this
theorem Xb (T Bn:Net) (y:Int) (a r:Agent) (v:Port) (hB:Bn.agents.length≤8000000) (hB1:1≤Bn.agents.length) (hT:∀x ∈ T.agents,agB x=true∧Pin x) (hl:T.agents.length≤600) (hr:at? T.agents 0=some r) (hv:at? r.ports 0=some v) (hva:0≤v.agent∧v.agent<600) (ha:0≤a.level∧a.level≤8):∀ (post pre acc:List Agent) (n:Nat),T.agents=pre++post→acc.length+post.length≤Big→10*post.length<n→
  BG n T Bn y a acc ((List.length pre:Nat):Int)=s_l11Link ⟨acc++post.map (expA ((Bn.agents.length:Int) - 1) a.level)⟩ (sp ((Bn.agents.length:Int) - 1) v) ⟨y,0⟩:=by
 intro post
 induction post with
 |nil=>
  intro pre acc n h hb hn
  obtain⟨n,rfl⟩:∃q,n=q+1:=⟨n - 1,by omega⟩
  rw [BG,Cv h,if_neg (by simp),hr,AA,hv,AA,CH,AA,CH,AA,w64 (n:=(Bn.agents.length:Int) - 1) (by omega) (by omega),w64 (by omega) (by omega),List.map_nil,List.append_nil]
  unfold sp
  rw [show (Bn.agents.length:Int) - 1+v.agent=v.agent+((Bn.agents.length:Int) - 1) from by omega]
  cases s_l11Link ⟨acc⟩ ⟨v.agent+((Bn.agents.length:Int) - 1),v.slot⟩ ⟨y,0⟩ <;> rfl
 | cons x post ih=>
  intro pre acc n h hb hn
  rw [List.length_cons] at hb hn
  obtain⟨h1,h2⟩:=hT x (by rw [h]; simp)
  have hp4:=CI h1
  have hd:=Kv h1
  have hxl:=Hj h1
  have hlB:T.agents.length≤Big:=by unfold Big; omega
  obtain⟨n,rfl⟩:∃q,n=(x.ports.length+1+q)+1+1:=⟨n - x.ports.length - 3,by omega⟩
  have key:∀lvl,Cj ((x.ports.length+1+n)+1) T Bn y acc ((List.length pre:Nat):Int) a x lvl=Option.bind (app? acc [⟨x.kind,lvl,x.value,x.data,x.ports.map (sp ((Bn.agents.length:Int) - 1))⟩]) fun v=>BG n T Bn y a v (IntKind.i64.wrap (((List.length pre:Nat):Int)+1)):=fun lvl=>by
   rw [Cj]
   have:=T4 T Bn y ((List.length pre:Nat):Int) lvl a x acc hB hB1 x.ports [] n h2 (by simp; unfold Big; omega)
   simp only [List.map_nil,List.nil_append,List.length_nil,Int.natCast_zero] at this
   exact this
  have fin:(Option.bind (app? acc [expA ((Bn.agents.length:Int) - 1) a.level x]) fun v=>BG n T Bn y a v (IntKind.i64.wrap (((List.length pre:Nat):Int)+1)))=s_l11Link ⟨acc++(x::post).map (expA ((Bn.agents.length:Int) - 1) a.level)⟩ (sp ((Bn.agents.length:Int) - 1) v) ⟨y,0⟩:=by
   rw [DO (by simp; omega),AA,BI h hlB,ih (pre++[x]) (acc++[expA ((Bn.agents.length:Int) - 1) a.level x]) n (Aj h) (by simp; omega) (by omega),List.map_cons,List.append_assoc,List.singleton_append]
  rw [BG,if_pos (Ck h),Bf h,AA,Ic x (by unfold Big; omega) (by unfold Big; omega),AA,WJ,AA]
  by_cases hk:hasL x.kind=true
  ·rw [if_pos hk,w64 (by omega) (by omega),key]
   have:expA ((Bn.agents.length:Int) - 1) a.level x=⟨x.kind,x.level+a.level,x.value,x.data,x.ports.map (sp ((Bn.agents.length:Int) - 1))⟩:=by
    unfold expA lvA; rw [if_pos hk]
   rw [← this]; exact fin
  ·rw [if_neg hk,key]
   have:expA ((Bn.agents.length:Int) - 1) a.level x=⟨x.kind,x.level,x.value,x.data,x.ports.map (sp ((Bn.agents.length:Int) - 1))⟩:=by
    unfold expA lvA; rw [if_neg hk]
   rw [← this]; exact fin
theorem Rd (lv:Int) (x:Agent):(lvA lv x).ports =x.ports∧(lvA lv x).kind =x.kind∧(lvA lv x).value =x.value∧(lvA lv x).data =x.data:=by
 unfold lvA; split <;> exact⟨rfl,rfl,rfl,rfl⟩
theorem Xc (a0:Rewriter) (y:Int) (v:Port) (lv:Int) (tl:List Agent) (hB:a0.net.agents.length≤8000000) (hB1:1≤a0.net.agents.length) (hT:∀x ∈ tl,agB x=true∧Pin x) (hl:tl.length≤600) (hva:0≤v.agent∧v.agent<600):∀ (post pre acc:List Agent) (n:Nat),tl=pre++post→acc.length+post.length≤Big→10*post.length<n→
  Al n a0 y v (tl.map (lvA lv)) acc ((pre.map (lvA lv)).map HAgent.gone++(post.map (lvA lv)).map HAgent.full) ((List.length pre:Nat):Int)=Option.bind (CA ⟨acc++post.map (expA ((a0.net.agents.length:Int) - 1) lv)⟩ ⟨y,0⟩ (sp ((a0.net.agents.length:Int) - 1) v)) fun z=>some ⟨z,a0.book,a0.removed⟩:=by
 intro post
 induction post with
 |nil=>
  intro pre acc n h hb hn
  obtain⟨n,rfl⟩:∃q,n=q+1:=⟨n - 1,by omega⟩
  rw [Al,if_neg (by rw [h]; simp),w64 (n:=(a0.net.agents.length:Int) - 1) (by omega) (by omega),w64 (by omega) (by omega),List.map_nil,List.append_nil]
  rfl
 | cons x post ih=>
  intro pre acc n h hb hn
  rw [List.length_cons] at hb hn
  obtain⟨h1,h2⟩:=hT x (by rw [h]; simp)
  have hp4:=CI h1
  obtain⟨q1,q2,q3,q4⟩:=Rd lv x
  obtain⟨n,rfl⟩:∃q,n=(x.ports.length+1+q)+1:=⟨n - x.ports.length - 2,by omega⟩
  have e1:((List.length pre:Nat):Int)=((List.length ((pre.map (lvA lv)).map HAgent.gone):Nat):Int):=by simp
  have hlen:pre.length<tl.length:=by rw [h]; simp
  rw [Al,if_pos (by rw [h]; simp; omega),List.map_cons,List.map_cons,e1,Jt,AA]
  have hf:HAgent.full? (HAgent.full (lvA lv x))=some (lvA lv x):=rfl
  rw [hf,AA,← e1]
  have:=T5 a0 y ((List.length pre:Nat):Int) v (tl.map (lvA lv)) (((pre.map (lvA lv)).map HAgent.gone)++HAgent.full (lvA lv x)::(post.map (lvA lv)).map HAgent.full) (lvA lv x) acc hB hB1 x.ports [] n (by rw [q1]; rfl) h2 (by simp; unfold Big; omega)
  simp only [List.map_nil,List.nil_append,List.length_nil,Int.natCast_zero] at this
  rw [q1,this,DO (by simp; omega),AA,w64 (by omega) (by omega)]
  have e2:(((pre.map (lvA lv)).map HAgent.gone)++HAgent.full (lvA lv x)::(post.map (lvA lv)).map HAgent.full).set (Int.toNat ((List.length pre:Nat):Int)) (HAgent.gone (lvA lv x))=((pre++[x]).map (lvA lv)).map HAgent.gone++(post.map (lvA lv)).map HAgent.full:=by
   rw [Int.toNat_natCast,List.set_append_right _ _ (by simp)]
   simp
  have e3:(⟨(lvA lv x).kind,(lvA lv x).level,(lvA lv x).value,(lvA lv x).data,x.ports.map (sp ((a0.net.agents.length:Int) - 1))⟩:Agent)=expA ((a0.net.agents.length:Int) - 1) lv x:=by
   unfold expA; rw [q2,q3,q4]
  rw [e2,e3,show ((List.length pre:Nat):Int)+1=((List.length (pre++[x]):Nat):Int) from by simp,ih (pre++[x]) (acc++[expA ((a0.net.agents.length:Int) - 1) lv x]) n (Aj h) (by simp; omega) (by omega),List.map_cons,List.append_assoc,List.singleton_append]
end Go.Proofs.YtckcfdggbbabfaaGreat.Ab
namespace Go.Proofs.YtckcfdggbbabfaaGreat.Ab
set_option linter.unusedVariables false
set_option linter.unusedSimpArgs false
open Go.RowKit
theorem La {α:Type} {l m:List α} {k:Int}:at? (l++m) k=if k<(l.length:Int) then at? l k else at? m (k - l.length):=by
 unfold at?
 by_cases hk:0≤k
 ·rw [if_pos hk,if_pos hk]
  by_cases h:k<(l.length:Int)
  ·rw [if_pos h,List.getElem?_append_left (by omega)]
  ·rw [if_neg h,if_pos (by omega),List.getElem?_append_right (by omega)]
   congr 1
   omega
 ·rw [if_neg hk,if_neg hk,if_pos (by omega)]
theorem Py {α β:Type} {f:α→β} {l:List α} {k:Int}:at? (l.map f) k=(at? l k).map f:=by
 unfold at?
 split
 ·rw [List.getElem?_map]
 ·rfl
theorem bK {α:Type} {l:List α} {k:Int}:at? (l.drop 1) k=if 0≤k then at? l (k+1) else none:=by
 unfold at?
 by_cases hk:0≤k
 ·rw [if_pos hk,if_pos hk,if_pos (by omega),List.getElem?_drop]
  congr 1
  omega
 ·rw [if_neg hk,if_neg hk]
theorem GZ {l m:List Agent} {p:Port}:Ab.get (l++m) p=if p.agent<(l.length:Int) then Ab.get l p else Ab.get m ⟨p.agent - l.length,p.slot⟩:=by
 unfold Ab.get EZ
 rw [La]
 split <;> rfl
theorem SG {T:List Agent} {off lv:Int} {k s:Int}:Ab.get ((T.drop 1).map (expA off lv)) ⟨k,s⟩=if 0≤k then (Ab.get T ⟨k+1,s⟩).map (sp off) else none:=by
 unfold Ab.get EZ
 simp only
 rw [Py,bK]
 split
 ·cases at? T (k+1) with
  |none=>rfl
  |some a=>
   simp only [Option.map_some,Option.bind_some,expA]
   exact Py
 ·rfl
theorem bL (off lv:Int) (a:Agent):sh (expA off lv a)=(a.kind,(lvA lv a).level,a.value,a.data,a.ports.length):=by
 unfold sh expA; simp
section
variable {S:Int→Prop} {X:Port→Prop} {A B:List Agent}
theorem gf {X:Port→Prop} (hm:M A X) {T:List Agent} (hT:Vn T) {v r:Port} (hv:Ab.get T ⟨0,0⟩=some v) (lv:Int) (hA:1≤A.length) (hX:∀p,X p→p.agent<(A.length:Int)):
  M (A++(T.drop 1).map (expA ((A.length:Int) - 1) lv)) fun p=>X p∨p=sp ((A.length:Int) - 1) v:=by
 have hr1:∀s q,Ab.get T ⟨0,s⟩=some q→s=0:=fun s q h=>by
  obtain⟨a,h1,h2⟩:=Aq.1 h
  obtain⟨g1,g2⟩:=hT.ag _ _ h1
  have:=(Kw g1).1 (.inl (g2.2 rfl))
  have:=Cf h2
  simp only at this; omega
 have hv0:v.agent≠0:=fun e=>by
  obtain⟨-,h2,h3⟩:=hT.m _ _ hv not_false
  have e2:v=⟨0,v.slot⟩:=Bw e rfl
  have:=hr1 v.slot ⟨0,0⟩ (by rw [← e2]; exact h3)
  exact h2 (Bw e this)
 have hv1:1≤v.agent:=by
  obtain⟨-,-,h3⟩:=hT.m _ _ hv not_false
  have:=Cw h3; omega
 intro p q hp hx
 rw [GZ] at hp
 by_cases hlt:p.agent<(A.length:Int)
 ·rw [if_pos hlt] at hp
  obtain⟨h1,h2,h3⟩:=hm p q hp fun h=>hx (.inl h)
  have hq:=Cw h3
  refine⟨?_,h2,by rw [GZ,if_pos hq.2]; exact h3⟩
  rintro (h|h)
  ·exact h1 h
  ·have:=congrArg Port.agent h
   simp only [sp] at this; omega
 ·rw [if_neg hlt,SG,if_pos (by omega)] at hp
  simp only [Option.map_eq_some_iff] at hp
  obtain⟨q',hq',rfl⟩:=hp
  obtain⟨-,h2,h3⟩:=hT.m _ _ hq' not_false
  have hql:=Cw h3
  have hq0:q'.agent≠0:=fun e=>by
   have e2:q'=⟨0,q'.slot⟩:=Bw e rfl
   have hs:=hr1 q'.slot _ (by rw [← e2]; exact h3)
   have e3:q'=⟨0,0⟩:=Bw e hs
   rw [e3,hv] at h3
   cases h3
   exact hx (.inr (Bw (by simp only [sp]; omega) rfl))
  refine⟨?_,fun e=>?_,?_⟩
  ·rintro (h|h)
   ·have:=hX _ h
    simp only [sp] at this; omega
   ·have e1:=congrArg Port.agent h
    have e2:=congrArg Port.slot h
    simp only [sp] at e1 e2
    have e3:q'=v:=Bw (by omega) e2
    obtain⟨-,-,h4⟩:=hT.m _ _ hv not_false
    rw [e3,h4] at h3
    simp only [Option.some.injEq] at h3
    have:=congrArg Port.agent h3
    simp only at this; omega
  ·have e1:=congrArg Port.agent e
   have e2:=congrArg Port.slot e
   simp only [sp] at e1 e2
   exact h2 (Bw (by simp only; omega) e2)
  ·have hge:¬ (sp ((A.length:Int) - 1) q').agent <(A.length:Int):=by simp only [sp]; omega
   rw [GZ,if_neg hge,SG,if_pos (by simp only [sp]; omega)]
   simp only [sp]
   rw [show (q'.agent+((A.length:Int) - 1) - (A.length:Int)+1)=q'.agent from by omega]
   have:(⟨q'.agent,q'.slot⟩:Port)=q':=rfl
   rw [this,h3]
   simp only [Option.map_some,sp]
   congr 1
   exact Bw (by simp only; omega) rfl
theorem Ok.append (h:Ok S X A B) {E:List Agent} {Y:Port→Prop} (hm:M (A++E) Y) (hs:∀p,S p.agent→Y p):Ok S Y (A++E) (B++E):=by
 refine⟨by rw [List.length_append,List.length_append,h.len],fun k hk=>?_,fun k hk=>?_,hm,hs⟩
 ·rw [La,La,h.len,h.ag k hk]
 ·have:=h.s_lt hk
  rw [La,if_pos (by rw [← h.len]; omega)]; exact h.hl k hk
theorem Xd (h:Ok S (fun p=>S p.agent) A B) {x y:Int} {a b:Agent} (hp:Pr S A x y a b) (ha:a.ports.length=1) {T:Net} (hT:Vn T.agents) (hlv:0≤a.level∧a.level≤8) (hok:okL a.level T.agents=true) (hA:A.length≤8000000):
  ∃A2 B2 new,(∀bk r,at? bk a.value=some T→DX ⟨⟨A⟩,bk,r⟩ x y=some ⟨⟨A2⟩,bk,r⟩)∧G0 T ⟨B⟩ x y=some ⟨B2⟩∧Ok S (fun p=>S p.agent∨p.agent=x) A2 B2∧A2.map sh=A.map sh++new∧((∀n ∈ new,NB n)∧SV new)∧(new.length+1=T.agents.length∧1≤new.length)∧Fr A A2 (fun p=>S p.agent∨p.agent=x):=by
 obtain⟨h0,hne⟩:=h.start hp
 have hxl:=Cf hp.hx
 have hyl:=Cf hp.hy
 have hA1:1≤A.length:=by omega
 have hTl:=hT.len
 obtain⟨rt,hrt,-⟩:=EI (l:=T.agents) (i:=0) (by omega)
 have hr1:=(Kw (hT.ag _ _ hrt).1).1 (.inl ((hT.ag _ _ hrt).2.2 rfl))
 obtain⟨v,hv,-⟩:=EI (l:=rt.ports) (i:=0) (by omega)
 have hg:Ab.get T.agents ⟨0,0⟩=some v:=Aq.2 ⟨rt,hrt,hv⟩
 obtain⟨-,-,hv3⟩:=hT.m _ _ hg not_false
 have hvl:=Cw hv3
 have hM:=gf (r:=v) h0.m hT hg a.level hA1 (fun p hp'=>by
  rcases hp' with hs|hs|hs
  ·exact(h.s_lt hs).2
  ·rw [Af] at hs; omega
  ·rw [Af] at hs; omega)
 have hO:=h0.append hM fun p hs=>.inl (.inl hs)
 have hv1:1≤v.agent:=by
  have hq:=hT.m _ _ hg not_false
  by_cases e:v.agent=0
  ·exfalso
   have e2:v=⟨0,v.slot⟩:=Bw e rfl
   obtain⟨a',h1,h2⟩:=Aq.1 hv3
   rw [e] at h1
   rw [hrt] at h1; cases h1
   have:=Cf h2
   exact hq.2.1 (Bw e (by simp only; omega))
  ·omega
 have g1:Ab.get (A++(T.agents.drop 1).map (expA ((A.length:Int) - 1) a.level)) ⟨y,0⟩=some ⟨x,0⟩:=by
  rw [GZ,if_pos hyl.2]
  exact(h.m _ _ hp.w hp.sx).2.2
 have g2:Ab.get (A++(T.agents.drop 1).map (expA ((A.length:Int) - 1) a.level)) (sp ((A.length:Int) - 1) v)=some (sp ((A.length:Int) - 1) ⟨0,0⟩):=by
  rw [GZ,if_neg (by simp only [sp]; omega),SG,if_pos (by simp only [sp]; omega)]
  simp only [sp]
  rw [show (v.agent+((A.length:Int) - 1) - (A.length:Int)+1)=v.agent from by omega]
  have:(⟨v.agent,v.slot⟩:Port)=v:=rfl
  rw [this,hv3]; rfl
 have ngt:¬S (sp ((A.length:Int) - 1) v).agent :=fun hs=>by have:=h.s_lt hs; simp only [sp] at this; omega
 obtain⟨e1,e2,e3,e4,hO2⟩:=hO.link g1 g2 (fun e=>by have:=congrArg Port.agent e; simp only [sp] at this; omega) (.inl (.inr (.inr rfl))) (.inr rfl) hp.sy ngt
 refine⟨_,_,(T.agents.drop 1).map fun t=>(t.kind,(lvA a.level t).level,t.value,t.data,t.ports.length),fun bk r hbk=>?_,?_,hO2.mono' (fun p q hq=>?_) fun p hs=>.inl hs,?_,⟨fun n hn=>?_,fun n hn=>?_⟩,⟨by simp; omega,by simp; omega⟩,fun p q h1 h2 n1 n2=>?_⟩
 ·unfold DX
  rw [hp.hx,AA,hbk,AA,AA,Px T a.level hT hlv,if_pos hok,AA]
  have hpe:Ci ⟨T.agents.map (lvA a.level)⟩ ⟨0,0⟩=some v:=by
   rw [Mz]
   apply Jp
   refine Aq.2 ⟨lvA a.level rt,?_,?_⟩
   ·rw [Py,hrt]; rfl
   ·rw [(Rd _ _).1]; exact hv
  have hcut:cutL (T.agents.map (lvA a.level)) 1 ((List.length (T.agents.map (lvA a.level)):Nat):Int)=some ((T.agents.drop 1).map (lvA a.level)):=by
   unfold cutL
   rw [if_pos (by rw [List.length_map]; omega),← List.map_drop,List.take_of_length_le]
   ·rfl
   ·rw [List.length_map,List.length_drop,List.length_map]; omega
  simp only
  rw [hpe,AA,hcut,AA]
  have:=Xc ⟨⟨A⟩,bk,r⟩ y v a.level (T.agents.drop 1) hA hA1 (fun t ht=>⟨hT.mem (List.mem_of_mem_drop ht),hT.pin t (List.mem_of_mem_drop ht)⟩) (by simp; omega) (by omega) (T.agents.drop 1) [] A fuel rfl (by simp; unfold Big; omega) (by rw [Au]; simp; omega)
  simp only [List.map_nil,List.nil_append,List.length_nil,Int.natCast_zero] at this
  rw [this,e1,AA]
 ·unfold G0
  rw [hp.bx h,AA]
  obtain⟨t0,tl,htl⟩:∃t0 tl,T.agents=t0::tl:=by
   cases hh:T.agents with
   |nil=>rw [hh] at hTl; simp at hTl
   |cons t0 tl=>exact⟨t0,tl,rfl⟩
  have hd:T.agents.drop 1=tl:=by rw [htl]; rfl
  have:=Xb T ⟨B⟩ y a rt v (by simp only; rw [← h.len]; exact hA) (by simp only; rw [← h.len]; exact hA1) (fun t ht=>⟨hT.mem ht,hT.pin t ht⟩) hTl.2 hrt hv (by omega) hlv tl [t0] B fuel htl (by rw [← h.len]; rw [htl] at hTl; simp at hTl; unfold Big; omega) (by rw [Au]; rw [htl] at hTl; simp at hTl; omega)
  simp only [List.length_singleton,Int.natCast_one] at this
  rw [this,← hd,← h.len]
  exact e4
 ·have hx2:p.agent=x→p.slot=0:=fun e=>by
   have:=Bc hq (x:=sh a) (by rw [Ts,List.map_append,e]; exact Bx (DM hp.hx))
   simp only [sh,ha] at this; omega
  have hr:p=sp ((A.length:Int) - 1) v→(A.length:Int)≤p.agent:=fun e=>by rw [e]; simp only [sp]; omega
  constructor
  ·rintro ⟨((h1|h1|h1)|h1),h2,h3⟩
   ·exact .inl h1
   ·exact .inr (by rw [h1])
   ·exact absurd h1 h2
   ·exact absurd h1 h3
  ·rintro (h1|h1)
   ·refine⟨.inl (.inl h1),fun e=>hp.sy (by rw [e] at h1; exact h1),fun e=>?_⟩
    have:=h.s_lt h1
    have:=hr e; omega
   ·refine⟨.inl (.inr (.inl (Bw h1 (hx2 h1)))),fun e=>hne ?_,fun e=>?_⟩
    ·rw [← h1,e]
    ·have:=hr e; omega
 ·rw [Ts,List.map_append,List.map_map]
  congr 1
  exact List.map_congr_left fun t _=>bL _ _ _
 ·obtain⟨t,ht,rfl⟩:=List.mem_map.1 hn
  have g:=hT.mem (List.mem_of_mem_drop ht)
  exact⟨Kv g,(CI g).2,by have:=JH g; simp only; omega⟩
 ·obtain⟨t,ht,rfl⟩:=List.mem_map.1 hn
  have hm:=List.mem_of_mem_drop ht
  have g:=hT.mem hm
  have hk1:t.kind≠1:=by
   obtain⟨i,hi,e⟩:=List.getElem_of_mem ht
   rw [List.getElem_drop] at e
   rw [List.length_drop] at hi
   have:=(hT.ag ((1+i:Nat):Int) t (Kq (by rw [List.getElem?_eq_getElem (by omega),e]))).2
   intro h1
   have:=this.1 h1
   omega
  refine⟨hk1,?_⟩
  have hs:(t.kind,(lvA a.level t).level,t.value,t.data,t.ports.length)=sh (lvA a.level t):=by
   unfold lvA sh; split <;> rfl
  rw [hs,VJ]
  obtain⟨g1,g2,g3,g4⟩:=Gj g
  have ho:=List.all_eq_true.1 hok t hm
  unfold lvA
  split
  ·rename_i hh
   have ho':t.level+a.level≤8:=by simpa [hh] using ho
   have hl:levB t.kind (t.level+a.level)=true:=by
    unfold hasL at hh
    unfold levB at g1 ⊢
    simp only [Bool.and_eq_true,Bool.not_eq_true',Bool.or_eq_false_iff,decide_eq_true_eq,decide_eq_false_iff_not] at hh g1 ⊢
    rw [if_neg (by omega)] at g1 ⊢
    simp only [decide_eq_true_eq] at g1 ⊢
    omega
   unfold agB
   simp only [Bool.and_eq_true,decide_eq_true_eq]
   exact⟨⟨⟨g3,g4⟩,hl⟩,by unfold E8 at g2 ⊢; exact g2⟩
  ·exact g
 ·have l1:=Cw h1
  have py:p≠⟨y,0⟩:=fun e=>n2 (.inr (by
   have g3:=(h.m _ _ hp.w hp.sx).2.2
   rw [e,g3] at h1
   rw [← Option.some.inj h1]))
  have pr:p≠sp ((A.length:Int) - 1) v:=fun e=>by
   have:=congrArg Port.agent e
   simp only [sp] at this; omega
  rw [Ib g1 g2 py pr,GZ,if_pos l1.2]
  exact h1
end
end Go.Proofs.YtckcfdggbbabfaaGreat.Ab
namespace Go.Proofs.YtckcfdggbbabfaaGreat.Ab
set_option linter.unusedVariables false
set_option linter.unusedSimpArgs false
open Go.RowKit
def AR:List Agent→Nat
 | [] =>0
 |a::l=>(if a.kind=0 then 0 else 1)+AR l
theorem Hk (l m:List Agent):AR (l++m)=AR l+AR m:=by
 induction l with
 |nil=>simp [AR]
 |cons a l ih=>rw [List.cons_append,AR,AR,ih]; omega
theorem JI (l:List Agent):AR l≤l.length:=by
 induction l with
 |nil=>simp [AR]
 |cons a l ih=>rw [AR,List.length_cons]; split <;> omega
theorem Pz {l m:List Agent} (h:l.map (·.kind)=m.map (·.kind)):AR l=AR m:=by
 induction l generalizing m with
 |nil=>
  cases m with
  |nil=>rfl
  |cons b m=>cases h
 | cons a l ih=>
  cases m with
  |nil=>cases h
  |cons b m=>
   simp only [List.map_cons,List.cons.injEq] at h
   rw [AR,AR,h.1,ih h.2]
theorem Lb {l:List Agent} (h:∀a ∈ l,a.kind≠0):AR l=l.length:=by
 induction l with
 |nil=>rfl
 |cons a l ih=>rw [AR,if_neg (h a List.mem_cons_self),ih fun b hb=>h b (List.mem_cons_of_mem _ hb),List.length_cons]; omega
theorem WL (n:Net) (hl:n.agents.length≤Big):He n=some ((AR n.agents:Nat):Int):=by
 have loop:∀ (post pre:List Agent) (k:Nat),n.agents=pre++post→post.length<k→Cr k n ((AR pre:Nat):Int) ((List.length pre:Nat):Int)=some ((AR n.agents:Nat):Int):=by
  intro post
  induction post with
  |nil=>
   intro pre k h hk
   obtain⟨k,rfl⟩:∃q,k=q+1:=⟨k - 1,by omega⟩
   rw [Cr,Cv h,if_neg (by simp),h,List.append_nil]
  | cons x post ih=>
   intro pre k h hk
   rw [List.length_cons] at hk
   obtain⟨k,rfl⟩:∃q,k=q+1:=⟨k - 1,by omega⟩
   have ih':=ih (pre++[x]) k (Aj h) (by omega)
   have hle:=JI pre
   have hpl:pre.length≤Big:=by rw [h] at hl; simp at hl; omega
   rw [Hk] at ih'
   rw [Cr,if_pos (Ck h),Bf h,AA]
   by_cases hk0:x.kind=0
   ·rw [if_neg (by simp [hk0]),BI h hl]
    rw [show AR [x] =0 from by simp [AR,hk0],Nat.add_zero] at ih'
    exact ih'
   ·rw [if_pos (by simp [hk0]),BI h hl,w64 (by omega) (by unfold Big at hpl; omega)]
    rw [show AR [x] =1 from by simp [AR,hk0]] at ih'
    rw [show ((AR pre:Nat):Int)+1=((AR pre+1:Nat):Int) from by omega]
    exact ih'
 exact loop n.agents [] fuel rfl (by rw [Au]; unfold Big at hl; omega)
def remM (R:List Int):List (Int × Bool):=R.map fun k=>(k,true)
theorem T6:∀ (R:List Int) (k:Int),(Hx (remM R) k).getD false=decide (k ∈ R)
 | [],k=>by simp [remM,Hx]
 |r::R,k=>by
  have:=T6 R k
  unfold remM at this ⊢
  rw [List.map_cons,Hx]
  by_cases e:k=r
  ·rw [if_pos e]; simp [e]
  ·rw [if_neg e,this]; simp [e]
theorem T7:∀ (R:List Int) (k:Int),k ∉ R→Kj (remM R) k true=remM (R++[k])
 | [],k,_=>rfl
 |r::R,k,h=>by
  have:=T7 R k fun e=>h (List.mem_cons_of_mem _ e)
  unfold remM at this ⊢
  rw [List.map_cons,Kj,if_neg (fun e=>h (by simp only at e; rw [e]; exact List.mem_cons_self)),this]
  simp
theorem Nm (R:List Int) (k:Int) (h:k ∉ R) (hl:R.length<Big):OE (remM R) k true=some (remM (R++[k])):=by
 unfold OE
 rw [if_pos (by unfold remM; rw [List.length_map]; unfold Big at hl; omega),T7 R k h]
theorem bM (n:Net) (bk:List Net) (R:List Int) (x:Int) (h:x ∉ R) (hl:R.length<Big):BJ ⟨n,bk,remM R⟩ [x] =some ⟨n,bk,remM (R++[x])⟩:=by
 unfold BJ
 obtain⟨f,hf⟩:∃f,fuel=f+1+1:=⟨fuel - 2,by rw [Au]⟩
 rw [hf,As,if_pos (by simp)]
 have:at? [x] 0=some x:=rfl
 simp only
 rw [this,AA,Nm R x h hl,AA,w64 (by omega) (by omega),As,if_neg (by simp)]
theorem bN (n:Net) (bk:List Net) (R:List Int) (x y:Int) (hx:x ∉ R) (hy:y ∉ R) (hne:x≠y) (hl:R.length+1<Big):BJ ⟨n,bk,remM R⟩ [x,y] =some ⟨n,bk,remM (R++[x] ++[y])⟩:=by
 unfold BJ
 obtain⟨f,hf⟩:∃f,fuel=f+1+1+1:=⟨fuel - 3,by rw [Au]⟩
 rw [hf,As,if_pos (by simp)]
 have h0:at? [x,y] 0=some x:=rfl
 have h1:at? [x,y] (0+1)=some y:=rfl
 simp only
 rw [h0,AA,Nm R x hx (by omega),AA,w64 (by omega) (by omega),As,if_pos (by simp),h1,AA,Nm (R++[x]) y (by simp; exact⟨hy,fun e=>hne e.symm⟩) (by simp; omega),AA,w64 (by omega) (by omega),As,if_neg (by simp)]
structure Stt (R:List Int) (A B:List Agent):Prop where
 ok:Ok (fun k=>k ∈ R) (fun p=>p.agent ∈ R) A B
 cnt:AR B+R.length=B.length
 nb:∀a ∈ A,NB (sh a)
theorem T8 {R:List Int} {X Y:Port→Prop} {A B A' B':List Agent} {new:List Sh} (h:Ok (fun k=>k ∈ R) X A B) (h':Ok (fun k=>k ∈ R) Y A' B') (hs:A'.map sh=A.map sh++new):B'.map (·.kind)=B.map (·.kind)++new.map (·.1):=by
 have e:A'.map (·.kind)=A.map (·.kind)++new.map (·.1):=by
  have:=congrArg (List.map (·.1)) hs
  rw [List.map_append,List.map_map,List.map_map] at this
  exact this
 have hlA:=congrArg List.length e
 simp only [List.length_append,List.length_map] at hlA
 have l1:=h.len
 have l2:=h'.len
 apply List.ext_getElem?
 intro i
 by_cases hi:i<A'.length
 ·by_cases hr:(i:Int) ∈ R
  ·have k1:=h.hl _ hr
   have k2:=h'.hl _ hr
   have k3:=Cf k1
   rw [List.getElem?_append_left (by rw [List.length_map]; omega),List.getElem?_map,List.getElem?_map]
   obtain⟨-,k4⟩:=A5 k1
   obtain⟨-,k5⟩:=A5 k2
   rw [Int.toNat_natCast] at k4 k5
   rw [k4,k5]
  ·have k1:=h.ag _ hr
   have k2:=h'.ag _ hr
   unfold at? at k1 k2
   rw [if_pos (by omega),Int.toNat_natCast] at k1 k2
   rw [if_pos (by omega)] at k1 k2
   have e2:=congrArg (fun l=>l[i]?) e
   simp only at e2
   by_cases hi2:i<A.length
   ·rw [List.getElem?_append_left (by rw [List.length_map]; exact hi2),List.getElem?_map,List.getElem?_map] at e2
    rw [List.getElem?_append_left (by rw [List.length_map]; omega),List.getElem?_map,List.getElem?_map,← k1,← k2,e2]
   ·rw [List.getElem?_append_right (by rw [List.length_map]; omega),List.getElem?_map,List.length_map] at e2
    rw [List.getElem?_append_right (by rw [List.length_map]; omega),List.getElem?_map,← k2,e2,List.length_map,l1]
 ·rw [List.getElem?_eq_none (by rw [List.length_map]; omega),List.getElem?_eq_none (by simp; omega)]
theorem Xe {l:List Agent} {i:Nat} {a:Agent} (h:l[i]? =some a) (hk:a.kind≠0):AR (l.set i ZI)+1=AR l:=by
 induction l generalizing i with
 |nil=>simp at h
 | cons b l ih=>
  cases i with
  |zero=>
   simp only [List.getElem?_cons_zero,Option.some.injEq] at h
   subst h
   rw [List.set_cons_zero,AR,AR,if_neg hk,if_pos (by rfl)]; omega
  |succ i=>
   rw [List.getElem?_cons_succ] at h
   rw [List.set_cons_succ,AR,AR,← ih h]; omega
theorem Ok.rem {R:List Int} {X:Port→Prop} {A B:List Agent} (h:Ok (fun k=>k ∈ R) X A B) {x:Int} {a:Agent} (ha:at? A x=some a) (hx:x ∉ R) (hX:∀p:Port,p.agent=x→X p):
  DY ⟨B⟩ x=some ⟨B.set x.toNat ZI⟩∧Ok (fun k=>k ∈ R++[x]) X A (B.set x.toNat ZI)∧(a.kind≠0→AR (B.set x.toNat ZI)+1=AR B):=by
 have hb:at? B x=some a:=(h.ag x hx).symm.trans ha
 refine⟨?_,⟨by rw [List.length_set]; exact h.len,fun k hk=>?_,fun k hk=>?_,h.m,fun p hp=>?_⟩,fun hk=>?_⟩
 ·unfold DY D2 XM
  rw [hb,AA,AA]; rfl
 ·have hk':k ∉ R∧k≠x:=by simpa using hk
  rw [SA hb,if_neg hk'.2]; exact h.ag k hk'.1
 ·rw [SA hb]
  rcases List.mem_append.1 hk with e|e
  ·rw [if_neg (fun e2:k=x=>hx (e2 ▸ e))]; exact h.hl k e
  ·rw [if_pos (by simpa using e)]
 ·rcases List.mem_append.1 hp with e|e
  ·exact h.sx p e
  ·exact hX p (by simpa using e)
 ·exact Xe (A5 hb).2 hk
theorem Stt.both {R:List Int} {A B:List Agent} (hst:Stt R A B) {x y:Int} {a b:Agent} (hp:Pr (fun k=>k ∈ R) A x y a b) (hne:x≠y) {new:List Sh} {A2 B2:List Agent} (d:Done (fun k=>k ∈ R) A x y new A2 B2) (hn:∀n ∈ new,NB n) (bk:List Net) (hR:R.length+1<Big):
  ∃B3 B4,DY ⟨B2⟩ x=some ⟨B3⟩∧DY ⟨B3⟩ y=some ⟨B4⟩∧BJ ⟨⟨A2⟩,bk,remM R⟩ [x,y] =some ⟨⟨A2⟩,bk,remM (R++[x] ++[y])⟩∧Stt (R++[x] ++[y]) A2 B4:=by
 have nb2:∀a ∈ A2,NB (sh a):=fun a ha=>by
  have:=List.mem_map_of_mem (f:=sh) ha
  rw [d.shp] at this
  rcases List.mem_append.1 this with e|e
  ·obtain⟨c,hc,e⟩:=List.mem_map.1 e
   rw [← e]; exact hst.nb c hc
  ·exact hn _ e
 have hx2:=Bx (m:=new) (DM hp.hx)
 have hy2:=Bx (m:=new) (DM hp.hy)
 rw [← d.shp] at hx2 hy2
 obtain⟨a',ha',-⟩:=Ks hx2
 obtain⟨b',hb',-⟩:=Ks hy2
 have ka:a'.kind≠0:=(nb2 a' (List.mem_of_getElem? (A5 ha').2)).2.2
 have kb:b'.kind≠0:=(nb2 b' (List.mem_of_getElem? (A5 hb').2)).2.2
 obtain⟨e1,o1,c1⟩:=d.ok.rem ha' hp.sx fun p hp=>.inr (.inl hp)
 obtain⟨e2,o2,c2⟩:=o1.rem hb' (by simp only [List.mem_append,List.mem_singleton,not_or]; exact⟨hp.sy,fun e=>hne e.symm⟩) fun p hp=>.inr (.inr hp)
 refine⟨_,_,e1,e2,bN _ _ R x y hp.sx hp.sy hne hR,⟨o2.len,o2.ag,o2.hl,o2.m.mono fun p=>?_,fun p hp=>hp⟩,?_,nb2⟩
 ·simp only [List.mem_append,List.mem_singleton]
  constructor
  ·rintro (h|h|h)
   ·exact .inl (.inl h)
   ·exact .inl (.inr h)
   ·exact .inr h
  ·rintro ((h|h)|h)
   ·exact .inl h
   ·exact .inr (.inl h)
   ·exact .inr (.inr h)
 ·have hk:=T8 hst.ok d.ok d.shp
  have l1:=congrArg List.length hk
  simp only [List.length_map,List.length_append] at l1
  have c3:AR B2=AR B+new.length:=by
   have:AR B2=AR (B++new.map fun s=>(⟨s.1,0,0,[],[]⟩:Agent)):=Pz (by rw [hk,List.map_append,List.map_map]; rfl)
   rw [this,Hk,Lb (l:=new.map _),List.length_map]
   intro a ha
   obtain⟨s,hs,rfl⟩:=List.mem_map.1 ha
   exact(hn s hs).2.2
  have:=c1 ka
  have:=c2 kb
  have:=hst.cnt
  simp only [List.length_append,List.length_singleton,List.length_set]
  omega
theorem Stt.one {R:List Int} {A B:List Agent} (hst:Stt R A B) {x:Int} {a:Agent} (hx:at? A x=some a) (sx:x ∉ R) {new:List Sh} {A2 B2:List Agent} (ok:Ok (fun k=>k ∈ R) (fun p=>p.agent ∈ R∨p.agent=x) A2 B2) (hs:A2.map sh=A.map sh++new) (hn:∀n ∈ new,NB n) (bk:List Net) (hR:R.length<Big):
  ∃B3,DY ⟨B2⟩ x=some ⟨B3⟩∧BJ ⟨⟨A2⟩,bk,remM R⟩ [x] =some ⟨⟨A2⟩,bk,remM (R++[x])⟩∧Stt (R++[x]) A2 B3:=by
 have nb2:∀a ∈ A2,NB (sh a):=fun a ha=>by
  have:=List.mem_map_of_mem (f:=sh) ha
  rw [hs] at this
  rcases List.mem_append.1 this with e|e
  ·obtain⟨c,hc,e⟩:=List.mem_map.1 e
   rw [← e]; exact hst.nb c hc
  ·exact hn _ e
 have hx2:=Bx (m:=new) (DM hx)
 rw [← hs] at hx2
 obtain⟨a',ha',-⟩:=Ks hx2
 have ka:a'.kind≠0:=(nb2 a' (List.mem_of_getElem? (A5 ha').2)).2.2
 obtain⟨e1,o1,c1⟩:=ok.rem ha' sx fun p hp=>.inr hp
 refine⟨_,e1,bM _ _ R x sx hR,⟨o1.len,o1.ag,o1.hl,o1.m.mono fun p=>by simp,fun p hp=>hp⟩,?_,nb2⟩
 have hk:=T8 hst.ok ok hs
 have l1:=congrArg List.length hk
 simp only [List.length_map,List.length_append] at l1
 have c3:AR B2=AR B+new.length:=by
  have:AR B2=AR (B++new.map fun s=>(⟨s.1,0,0,[],[]⟩:Agent)):=Pz (by rw [hk,List.map_append,List.map_map]; rfl)
  rw [this,Hk,Lb (l:=new.map _),List.length_map]
  intro a ha
  obtain⟨s,hs,rfl⟩:=List.mem_map.1 ha
  exact(hn s hs).2.2
 have:=c1 ka
 have:=hst.cnt
 simp only [List.length_append,List.length_singleton,List.length_set]
 omega
end Go.Proofs.YtckcfdggbbabfaaGreat.Ab
namespace Go.Proofs.YtckcfdggbbabfaaGreat.Ab
set_option linter.unusedVariables false
set_option linter.unusedSimpArgs false
open Go.RowKit
theorem gh {a b:Agent} (h:pfi a b=0):kcl a b=8:=by
 unfold pfi at h
 unfold kcl pcl
 split at h
 ·omega
 ·split at h
  ·omega
  ·rename_i h1 h2
   rw [if_neg h1,if_neg h2]; split <;> rfl
theorem gi {a b:Agent} (h:pfi a b=1):ru a.kind a.level b.kind b.level≠0∧pcl a b=ru a.kind a.level b.kind b.level:=by
 unfold pfi at h
 unfold pcl
 split at h
 ·rename_i h1
  rw [if_pos h1]; exact⟨h1,rfl⟩
 ·split at h <;> omega
theorem gj {a b:Agent} (h:pfi a b=2):ru b.kind b.level a.kind a.level≠0∧pcl b a=ru b.kind b.level a.kind a.level∧pcl a b=pcl b a:=by
 unfold pfi at h
 unfold pcl
 split at h
 ·omega
 ·rename_i h1
  split at h
  ·rename_i h2
   rw [if_pos h2,if_neg h1,if_pos h2]; exact⟨h2,rfl,rfl⟩
  ·omega
theorem pfi_cases (a b:Agent):pfi a b=0∨pfi a b=1∨pfi a b=2:=by
 unfold pfi; repeat' split
 all_goals omega
theorem ZU {a b:Agent} (h:pcl a b=pcl b a):kcl a b=kcl b a:=by
 unfold kcl
 rw [h]
 by_cases h1:Cl a b=true <;> by_cases h2:Cl b a=true <;> simp [h1,h2]
def E9 (bk:List Net) (c:Int) (a:Agent):Int:=
 if c=8 then 11 else if c=7 then match at? bk a.value with
  |none=>3
  |some T=>if okL a.level T.agents=true then 0 else 9
 else 0
def gnum (bk:List Net) (c:Int) (a b:Agent):Int:=
 if c=3∨c=4 then (b.ports.length:Int) - 1 else if c=6 then (if a.kind=9 then (a.ports.length:Int) - 1 else 0)
 else if c=7 then match at? bk a.value with
  |none=>0
  |some T=>(T.agents.length:Int)
 else 0
section
variable {A B:List Agent} {bk:List Net}
theorem Nn {x y:Int} {a:Agent} (ha:at? A x=some a) (ga:agB a=true) (hbk:∀T ∈ bk,Vn T.agents) (r:List (Int × Bool)) (c:Int) (hv:c=7→0≤a.value) (sw:Bool):
  CJ ⟨⟨A⟩,bk,r⟩ (c,sw) x y=some (if E9 bk c a=0 then (c,x,y,0) else (0,0,0,E9 bk c a)):=by
 unfold CJ Cn E9
 by_cases h8:c=8
 ·subst h8; simp
 ·by_cases h7:c=7
  ·subst h7
   simp only [show ¬ ((7:Int)=8) from by omega,decide_false,Bool.false_eq_true,if_false,decide_true,if_true]
   have hv:=hv rfl
   rw [ha,AA]
   by_cases hlt:(bk.length:Int)≤a.value
   ·rw [if_pos (by simpa using hlt),Jm (by omega)]
    simp
   ·rw [if_neg (by simpa using hlt)]
    obtain⟨T,hT,hm⟩:=EI (l:=bk) (i:=a.value) (by omega)
    rw [hT,AA,Px T a.level (hbk T hm) (Hj ga),AA]
    by_cases ho:okL a.level T.agents=true
    ·simp [ho]
    ·simp [ho]
  ·simp [h8,h7]
theorem ZV {x y:Int} {a b:Agent} (ha:at? A x=some a) (hb:at? A y=some b) (ga:agB a=true) (gb:agB b=true) (r:List (Int × Bool)) (c:Int) (he:E9 bk c a=0):
  DU ⟨⟨A⟩,bk,r⟩ c x y=some (grow c (gnum bk c a b)):=by
 have hp:=CI ga
 have hq:=CI gb
 have hj:∀n,A7 ⟨⟨A⟩,bk,r⟩ c n=some (grow c n):=fun n=>by
  unfold A7
  obtain⟨e,h⟩:=VG c n
  rw [h,AA]
 unfold DU CX gnum
 by_cases h3:c=3
 ·subst h3
  simp only [decide_true,if_true,true_or]
  rw [hb,AA,hj,w64 (by omega) (by omega)]
 ·by_cases h4:c=4
  ·subst h4
   simp only [show ¬ ((4:Int)=3) from by omega,decide_false,decide_true,Bool.false_eq_true,if_true,if_false,or_true]
   rw [hb,AA,hj,w64 (by omega) (by omega)]
  ·by_cases h6:c=6
   ·subst h6
    simp only [show ¬ ((6:Int)=3) from by omega,show ¬ ((6:Int)=4) from by omega,decide_false,decide_true,Bool.false_eq_true,if_true,if_false,or_false]
    rw [ha,AA]
    by_cases h9:a.kind=9
    ·rw [if_pos (by simpa using h9),if_pos h9,AA,hj,w64 (by omega) (by omega)]
    ·rw [if_neg (by simpa using h9),if_neg h9,hj]
   ·by_cases h7:c=7
    ·subst h7
     simp only [show ¬ ((7:Int)=3) from by omega,show ¬ ((7:Int)=4) from by omega,show ¬ ((7:Int)=6) from by omega,decide_false,decide_true,Bool.false_eq_true,if_true,if_false,or_false]
     unfold E9 at he
     simp only [show ¬ ((7:Int)=8) from by omega,if_false,if_true] at he
     cases hT:at? bk a.value with
     |none=>rw [hT] at he; simp at he
     |some T=>rw [ha,AA,hT,AA,hj]
    ·simp only [h3,h4,h6,h7,decide_false,Bool.false_eq_true,if_false,or_false]
     exact hj 0
theorem ZW {px py x y:Int} {a b:Agent} (hF:Ek ⟨B⟩ px py=some (x,y)) (ha:at? B x=some a) (hb:at? B y=some b) (h2:Two a b) (ga:agB a=true) (gb:agB b=true) (hv:kcl a b=7→0≤a.value) (hbk:∀T ∈ bk,Vn T.agents):
  Gy bk ⟨B⟩ px py=some (if E9 bk (kcl a b) a=0 then (grow (kcl a b) (gnum bk (kcl a b) a b),0) else (0,E9 bk (kcl a b) a)):=by
 have hp:=CI ga
 have hq:=CI gb
 have hj:∀n,-1000000000000≤n∧n≤1000000000000→CZ (kcl a b) n=some (grow (kcl a b) n,0):=fun n hn=>by
  unfold CZ
  obtain⟨e,h⟩:=VH (kcl a b) n hn
  rw [h,AA]
 unfold Gy Em
 rw [hF,AA,ha,AA,hb,AA,Kt h2,AA]
 generalize kcl a b=c at*
 unfold E9 gnum
 by_cases h8:c=8
 ·subst h8; simp
 ·rw [if_neg (by simpa using h8),if_neg h8]
  by_cases h3:c=3
  ·subst h3
   simp only [decide_true,if_true,true_or,show ¬ ((3:Int)=7) from by omega,if_false]
   rw [w64 (by omega) (by omega)]
   exact hj _ (by omega)
  ·by_cases h4:c=4
   ·subst h4
    simp only [show ¬ ((4:Int)=3) from by omega,decide_false,decide_true,Bool.false_eq_true,if_true,if_false,or_true,show ¬ ((4:Int)=7) from by omega]
    rw [w64 (by omega) (by omega)]
    exact hj _ (by omega)
   ·by_cases h6:c=6
    ·subst h6
     simp only [show ¬ ((6:Int)=3) from by omega,show ¬ ((6:Int)=4) from by omega,show ¬ ((6:Int)=7) from by omega,decide_false,decide_true,Bool.false_eq_true,if_true,if_false,or_false]
     have hF:Ca a=some (if a.kind=9 then (a.ports.length:Int) - 1 else 0):=by
      unfold Ca
      by_cases h9:a.kind=9
      ·rw [if_pos (by simpa using h9),if_pos h9,w64 (by omega) (by omega)]
      ·rw [if_neg (by simpa using h9),if_neg h9]
     rw [hF,AA]
     exact hj _ (by split <;> omega)
    ·by_cases h7:c=7
     ·subst h7
      simp only [show ¬ ((7:Int)=3) from by omega,show ¬ ((7:Int)=4) from by omega,show ¬ ((7:Int)=6) from by omega,decide_false,decide_true,Bool.false_eq_true,if_true,if_false,or_false]
      have hv:=hv rfl
      by_cases hlt:(bk.length:Int)≤a.value
      ·rw [if_pos (by simpa using hlt),Jm (by omega)]
       simp
      ·rw [if_neg (by simpa using hlt)]
       obtain⟨T,hT,hm⟩:=EI (l:=bk) (i:=a.value) (by omega)
       have hV:=hbk T hm
       have hl:=Hj ga
       have hVl:=hV.len
       have hhi:hiL 0 T.agents≤8:=(SF _ _ _).2 ⟨by omega,fun t ht=>(Hj (hV.mem ht)).2⟩
       have hhi0:0≤hiL 0 T.agents:=by
        by_cases e:hiL 0 T.agents≤ -1
        ·have:=((SF _ _ _).1 e).1; omega
        ·omega
       rw [hT,AA,AA,gd T (by unfold Big; omega),AA,w64 (by omega) (by omega)]
       simp only
       rw [dZ (fun t ht=>hV.mem ht) hl]
       by_cases ho:8<hiL 0 T.agents+a.level
       ·rw [if_pos (by simpa using ho)]
        simp only [show ¬ (hiL 0 T.agents+a.level≤8) from by omega,decide_false,Bool.false_eq_true,if_false,show ¬ ((9:Int)=0) from by omega]
       ·rw [if_neg (by simpa using ho)]
        simp only [show (hiL 0 T.agents+a.level≤8) from by omega,decide_true,if_true]
        exact hj _ (by omega)
     ·simp only [h3,h4,h6,h7,decide_false,Bool.false_eq_true,if_false,or_false,if_true]
      exact hj 0 (by omega)
end
end Go.Proofs.YtckcfdggbbabfaaGreat.Ab
namespace Go.Proofs.YtckcfdggbbabfaaGreat.Ab
set_option linter.unusedVariables false
set_option linter.unusedSimpArgs false
open Go.RowKit
theorem No (a b:Agent):let c:=ru a.kind a.level b.kind b.level
  (0≤c∧c≤7)∧(c=1→a.kind=2∧b.kind=3)∧(c=2→a.kind=4∧b.kind=4)∧(c=3→a.kind=4)∧(c=4→a.kind=5)∧(c=5→a.kind=6∧(b.kind=7∨b.kind=8))∧(c=6→(a.kind=6∧b.kind=11)∨(a.kind=9∧b.kind=10))∧(c=7→a.kind=12):=by
 intro c
 have hc:c=ru a.kind a.level b.kind b.level:=rfl
 clear_value c
 unfold ru at hc
 repeat' split at hc
 all_goals omega
structure RuInv (c:Int) (a b:Agent):Prop where
 k1:c=1→a.kind=2∧b.kind=3
 k2:c=2→a.kind=4∧b.kind=4
 k3:c=3→a.kind=4
 k4:c=4→a.kind=5
 k5:c=5→a.kind=6∧(b.kind=7∨b.kind=8)
 k6:c=6→(a.kind=6∧b.kind=11)∨(a.kind=9∧b.kind=10)
 k7:c=7→a.kind=12
structure PkInv (a:Agent):Prop where
 p1:a.kind=1∨a.kind=5∨a.kind=6∨a.kind=12→a.ports.length=1
 p2:a.kind=8∨a.kind=10∨a.kind=11→a.ports.length=2
 p3:a.kind=2∨a.kind=3∨a.kind=4∨a.kind=7→a.ports.length=3
theorem gm {a:Agent} (h:agB a=true):E8 a=true:=by
 unfold agB at h; simp only [Bool.and_eq_true] at h; exact h.2
theorem JJ {a:Agent} (h:agB a=true):(a.kind=7→a.data.length=0)∧(a.kind=8→a.data.length=1)∧(a.kind=9→0≤a.value)∧(a.kind=11→a.data.length=2)∧(a.kind=12→0≤a.value):=by
 have h:=gm h
 unfold E8 at h
 refine⟨fun e=>?_,fun e=>?_,fun e=>?_,fun e=>?_,fun e=>?_⟩
 ·rw [if_neg (by omega),if_pos e] at h
  simp only [Bool.and_eq_true,decide_eq_true_eq] at h; exact h.1
 ·rw [if_neg (by omega),if_neg (by omega),if_pos e] at h
  simp only [Bool.and_eq_true,decide_eq_true_eq] at h; exact h.1.1
 ·rw [if_neg (by omega),if_neg (by omega),if_neg (by omega),if_pos e] at h
  simp only [Bool.and_eq_true,decide_eq_true_eq] at h; exact h.2.1
 ·rw [if_neg (by omega),if_neg (by omega),if_neg (by omega),if_neg (by omega),if_neg (by omega),if_neg (by omega),if_pos e] at h
  simp only [Bool.and_eq_true,decide_eq_true_eq] at h; exact h.1.2
 ·rw [if_neg (by omega),if_neg (by omega),if_neg (by omega),if_neg (by omega),if_pos e] at h
  simp only [Bool.and_eq_true,FX,decide_eq_true_eq] at h
  omega
section
variable {R:List Int} {A B:List Agent}
structure Outc (R:List Int) (A:List Agent) (x y:Int) (R':List Int) (A' B':List Agent) (new:List Sh):Prop where
 st:Stt R' A' B'
 shp:A'.map sh=A.map sh++new
 nl:new.length≤600
 sv:SV new
 fr:∀p q,Ab.get A p=some q→Ab.get A q=some p→p.agent ∉ R'→q.agent ∉ R'→Ab.get A' p=some q
 mem:∀k,k ∈ R'↔k ∈ R∨k=x∨(k=y∧y ∈ R')
theorem Ky (hst:Stt R A B) {x y:Int} {a b:Agent} (hp:Pr (fun k=>k ∈ R) A x y a b) (hne:x≠y) {new:List Sh} {A2 B2:List Agent} (d:Done (fun k=>k ∈ R) A x y new A2 B2) (hn:NBs new) (sv:SV new) (hR:R.length+1<Big) (bk:List Net) (a0:Rewriter) (h0:a0.book=bk) (c:Int) (hc:c≠7) (v:Int × Int × Int × Int) (hv:v.2.1 =x∧v.2.2.1 =y) (z:Int × Int) (hz:z=(x,y)):
  ∃B4,Ac a0 v (remM R) A2=some (0,⟨⟨A2⟩,bk,remM (R++[x] ++[y])⟩)∧CS z c B2=some (0,⟨B4⟩)∧Outc R A x y (R++[x] ++[y]) A2 B4 new:=by
 obtain⟨B3,B4,e1,e2,e3,e4⟩:=hst.both hp hne d hn.1 bk hR
 subst h0 hz
 refine⟨B4,?_,?_,e4,d.shp,hn.2,sv,fun p q h1 h2 n1 n2=>d.fr p q h1 h2 (fun e=>n1 (by rcases e with e|e|e <;> simp [e])) (fun e=>n2 (by rcases e with e|e|e <;> simp [e])),fun k=>?_⟩
 ·unfold Ac
  rw [hv.1,hv.2,e3,AA]
 ·unfold CS
  rw [e1,AA,if_pos (by simp [hc]),e2,AA]
 ·simp only [List.mem_append,List.mem_singleton]
  constructor
  ·rintro ((h|h)|h)
   ·exact .inl h
   ·exact .inr (.inl h)
   ·exact .inr (.inr ⟨h,by simp⟩)
  ·rintro (h|h|⟨h,-⟩)
   ·exact .inl (.inl h)
   ·exact .inl (.inr h)
   ·exact .inr h
theorem bO (hst:Stt R A B) {x y:Int} {a b:Agent} (hp:Pr (fun k=>k ∈ R) A x y a b) (ga:agB a=true) (gb:agB b=true) (kb:b.kind≠1) (c:Int) (hc:ru a.kind a.level b.kind b.level=c) (hc0:c≠0) (hno:c=6→a.kind=9→a.value<(b.data.length:Int)) (hA:A.length≤8000000) (bk:List Net) (hbk:∀T ∈ bk,Vn T.agents) (he:E9 bk c a=0):
  ∃R' A' B' new,BM ⟨⟨A⟩,bk,remM R⟩ (c,x,y,0) (decide (c=1∨c=2))=some (0,⟨⟨A'⟩,bk,remM R'⟩)∧FW bk ⟨B⟩ (x,y) c (decide (c=1∨c=2))=some (0,⟨B'⟩)∧Outc R A x y R' A' B' new∧((AR B':Nat):Int)=((AR B:Nat):Int)+grow c (gnum bk c a b):=by
 have hOk:=hst.ok
 have hne:=(hOk.start hp).2
 have hRl:R.length+1<Big:=by
  have:=hst.cnt
  have:=hOk.len
  unfold Big; omega
 obtain⟨hcr,K⟩:(0≤c∧c≤7)∧RuInv c a b:=by
  obtain⟨h,k1,k2,k3,k4,k5,k6,k7⟩:=No a b
  rw [hc] at h k1 k2 k3 k4 k5 k6 k7
  exact⟨h,k1,k2,k3,k4,k5,k6,k7⟩
 have pa:PkInv a:=⟨(Kw ga).1,(Kw ga).2.1,(Kw ga).2.2⟩
 have pb:PkInv b:=⟨(Kw gb).1,(Kw gb).2.1,(Kw gb).2.2⟩
 have hp4:=CI ga
 have hq4:=CI gb
 have hbd:=Kv gb
 have lv:∀ {R':List Int} {A' B':List Agent} {new:List Sh},Outc R A x y R' A' B' new→((AR B':Nat):Int)=((AR B:Nat):Int)+(new.length:Int) - ((R'.length:Int) - (R.length:Int)):=fun {R' A' B' new} o=>by
  have c1:=o.st.cnt
  have c2:=hst.cnt
  have c3:=o.st.ok.len
  have c4:=hOk.len
  have c5:=Jq o.shp
  rw [List.length_append,List.length_map] at c5
  omega
 have lv2:∀ {A' B':List Agent} {new:List Sh},Outc R A x y (R++[x] ++[y]) A' B' new→∀g:Int,g=(new.length:Int) - 2→((AR B':Nat):Int)=((AR B:Nat):Int)+g:=fun {A' B' new} o g hg=>by
  have:=lv o
  simp only [List.length_append,List.length_singleton] at this
  omega
 by_cases h12:c=1∨c=2
 ·have ha3:a.ports.length=3:=by
   rcases h12 with e|e
   ·exact pa.p3 (.inl (K.k1 e).1)
   ·exact pa.p3 (.inr (.inr (.inl (K.k2 e).1)))
  have hb3:b.ports.length=3:=by
   rcases h12 with e|e
   ·exact pb.p3 (.inr (.inl (K.k1 e).2))
   ·exact pb.p3 (.inr (.inr (.inl (K.k2 e).2)))
  obtain⟨A1,A2,B1,B2,e1,e2,f1,f2,d⟩:=bJ hOk hp ha3 hb3
  obtain⟨B4,g1,g2,g3⟩:=Ky hst hp hne d (And.intro (fun n hn=>by cases hn) (by simp)) (fun n hn=>by cases hn) hRl bk ⟨⟨A⟩,bk,remM R⟩ rfl c (by omega) (c,x,y,0) ⟨rfl,rfl⟩ (x,y) rfl
  refine⟨_,A2,B4,_,?_,?_,g3,lv2 g3 _ (by rcases h12 with e|e <;> simp [grow,gnum,e])⟩
  ·unfold BM
   rw [if_pos (by simpa using h12)]
   simp only
   rw [e1,AA,e2,AA]
   exact g1
  ·unfold FW
   rw [if_pos (by simpa using h12)]
   simp only [CH,AA]
   rw [f1,AA,f2,AA]
   exact g2
 ·have hd:decide (c=1∨c=2)=false:=by simpa using h12
  rw [hd]
  unfold BM FW
  rw [if_neg (show ¬ ((false:Bool)=true) from by simp),if_neg (show ¬ ((false:Bool)=true) from by simp)]
  simp only
  by_cases h3:c=3
  ·obtain⟨A2,B2,new,e1,f1,d,hn,sv,nl⟩:=dY hOk hp ga gb (K.k3 h3) kb (pa.p3 (.inr (.inr (.inl (K.k3 h3))))) hq4.1 hq4.2 hbd (by have:=JH gb; omega) hA
   obtain⟨B4,g1,g2,g3⟩:=Ky hst hp hne d hn sv hRl bk ⟨⟨A⟩,bk,remM R⟩ rfl c (by omega) (c,x,y,0) ⟨rfl,rfl⟩ (x,y) rfl
   refine⟨_,A2,B4,_,?_,?_,g3,lv2 g3 _ (by simp only [grow,gnum,h3]; simp; omega)⟩
   ·rw [if_pos (by simpa using h3),e1,AA]; exact g1
   ·rw [if_pos (by simpa using h3),f1,AA]; exact g2
  ·have n3:¬ (decide (c=3)=true):=by simpa using h3
   rw [if_neg n3,if_neg n3]
   by_cases h4:c=4
   ·obtain⟨A2,B2,e1,f1,d⟩:=ZN hOk hp (pa.p1 (.inr (.inl (K.k4 h4)))) hq4.1 (by omega) hA ⟨⟨A⟩,bk,remM R⟩ (c,x,y,0) rfl (remM R) (x,y) rfl c
    obtain⟨B4,g1,g2,g3⟩:=Ky hst hp hne d ⟨fun n hn=>by rw [(List.mem_replicate.1 hn).2]; exact⟨by simp [H8],by simp [H8],by simp [H8]⟩,by rw [List.length_replicate]; omega⟩ (fun n hn=>by rw [(List.mem_replicate.1 hn).2]; exact⟨by simp [H8],by rfl⟩) hRl bk ⟨⟨A⟩,bk,remM R⟩ rfl c (by omega) (c,x,y,0) ⟨rfl,rfl⟩ (x,y) rfl
    refine⟨_,A2,B4,_,?_,?_,g3,lv2 g3 _ (by simp only [grow,gnum,h4,List.length_replicate]; simp; omega)⟩
    ·rw [if_pos (by simpa using h4),e1]; exact g1
    ·rw [if_pos (by simpa using h4),hp.bY hOk,AA,f1]; exact g2
   ·have n4:¬ (decide (c=4)=true):=by simpa using h4
    rw [if_neg n4,if_neg n4]
    by_cases h5:c=5
    ·obtain⟨A2,B2,new,e1,f1,d,hn,sv,nl⟩:=VK hOk hp ga gb (K.k5 h5).1 (pa.p1 (.inr (.inr (.inl (K.k5 h5).1)))) (by
      rcases (K.k5 h5).2 with e|e
      ·exact .inl ⟨e,pb.p3 (.inr (.inr (.inr e))),(JJ gb).1 e⟩
      ·exact .inr ⟨e,pb.p2 (.inl e),(JJ gb).2.1 e⟩) hA
     obtain⟨B4,g1,g2,g3⟩:=Ky hst hp hne d hn sv hRl bk ⟨⟨A⟩,bk,remM R⟩ rfl c (by omega) (c,x,y,0) ⟨rfl,rfl⟩ (x,y) rfl
     refine⟨_,A2,B4,_,?_,?_,g3,lv2 g3 _ (by simp only [grow,gnum,h5,nl]; simp)⟩
     ·rw [if_pos (by simpa using h5),e1,AA]; exact g1
     ·rw [if_pos (by simpa using h5),f1,AA]; exact g2
    ·have n5:¬ (decide (c=5)=true):=by simpa using h5
     rw [if_neg n5,if_neg n5]
     by_cases h6:c=6
     ·obtain⟨A2,B2,new,e1,f1,d,hn,sv,nl⟩:∃A2 B2 new,(∀bk r,Bl ⟨⟨A⟩,bk,r⟩ x y=some ⟨⟨A2⟩,bk,r⟩)∧D4 ⟨B⟩ x y=some ⟨B2⟩∧Done (fun k=>k ∈ R) A x y new A2 B2∧NBs new∧SV new∧(new.length:Int)=gnum bk 6 a b+1:=by
       rcases K.k6 h6 with ⟨e1,e2⟩|⟨e1,e2⟩
       ·obtain⟨A2,B2,new,z1,z2,z3,z4,z5,z6⟩:=XX hOk hp gb (pa.p1 (.inr (.inr (.inl e1)))) e1 e2 (pb.p2 (.inr (.inr e2))) ((JJ gb).2.2.2.1 e2) hA
        exact⟨A2,B2,new,z1,z2,z3,z4,z5,by simp [gnum,e1,z6]⟩
       ·obtain⟨A2,B2,new,z1,z2,z3,z4,z5,z6⟩:=ZR hOk hp gb e1 e2 (a.ports.length - 1) (by omega) (by omega) (pb.p2 (.inr (.inl e2))) hbd ((JJ ga).2.2.1 e1) (hno h6 e1) hA
        exact⟨A2,B2,new,z1,z2,z3,z4,z5,by simp only [gnum,e1,z6]; simp; omega⟩
      obtain⟨B4,g1,g2,g3⟩:=Ky hst hp hne d hn sv hRl bk ⟨⟨A⟩,bk,remM R⟩ rfl c (by omega) (c,x,y,0) ⟨rfl,rfl⟩ (x,y) rfl
      refine⟨_,A2,B4,_,?_,?_,g3,lv2 g3 _ (by
       have hg:0≤gnum bk 6 a b∧gnum bk 6 a b≤3:=by
        simp only [gnum]
        simp
        split <;> omega
       rw [h6,nl]
       simp [grow,hg]
       omega)⟩
      ·rw [if_pos (by simpa using h6),e1,AA]; exact g1
      ·rw [if_pos (by simpa using h6),f1,AA]; exact g2
     ·have h7:c=7:=by omega
      have n6:¬ (decide (c=6)=true):=by simpa using h6
      have p7:decide (c=7)=true:=by simpa using h7
      rw [if_neg n6,if_neg n6,if_pos p7,if_pos p7]
      unfold E9 at he
      rw [if_neg (by omega),if_pos h7] at he
      cases hT:at? bk a.value with
      |none=>rw [hT] at he; simp at he
      | some T=>
       rw [hT] at he
       have hok:okL a.level T.agents=true:=by
        by_cases e:okL a.level T.agents=true
        ·exact e
        ·simp [e] at he
       have hm:T ∈ bk:=List.mem_of_getElem? (A5 hT).2
       obtain⟨A2,B2,new,e1,f1,o,s,⟨hn,sv⟩,⟨hl,hl1⟩,hfr⟩:=Xd hOk hp (pa.p1 (.inr (.inr (.inr (K.k7 h7))))) (hbk T hm) (Hj ga) hok hA
       obtain⟨B3,g1,g2,g3⟩:=hst.one hp.hx hp.sx o s hn bk (by omega)
       have hO:Outc R A x y (R++[x]) A2 B3 new:=⟨g3,s,by have:=(hbk T hm).len; omega,sv,fun p q h1 h2 n1 n2=>hfr p q h1 h2 (fun e=>n1 (by simpa using e)) (fun e=>n2 (by simpa using e)),fun k=>by
        simp only [List.mem_append,List.mem_singleton]
        constructor
        ·rintro (h|h)
         ·exact .inl h
         ·exact .inr (.inl h)
        ·rintro (h|h|⟨h,h2⟩)
         ·exact .inl h
         ·exact .inr h
         ·rw [h]; exact h2⟩
       refine⟨_,A2,B3,new,?_,?_,hO,?_⟩
       ·rw [e1 bk (remM R) hT,AA,g2,AA]
       ·rw [hp.bx hOk,AA,hT,AA,f1,AA]
        unfold CS
        simp only
        rw [g1,AA,if_neg (by simp [h7])]
       ·have:=lv hO
        rw [List.length_append,List.length_singleton] at this
        have hTl:=(hbk T hm).len
        simp only [grow,gnum,h7,hT]
        simp
        rw [if_pos (by omega)]
        omega
end
end Go.Proofs.YtckcfdggbbabfaaGreat.Ab
namespace Go.Proofs.YtckcfdggbbabfaaGreat.Ab
set_option linter.unusedVariables false
set_option linter.unusedSimpArgs false
open Go.RowKit
theorem bP (c n:Int): -2≤grow c n∧grow c n≤600:=by
 unfold grow
 repeat' split
 all_goals omega
theorem SH {a b:Agent} (h:kcl a b≠8):Cl a b=false∧Cl b a=false∧kcl a b=pcl a b:=by
 unfold kcl at h ⊢
 split at h
 ·exact absurd rfl h
 ·rename_i h1
  rw [if_neg h1]
  simp only [not_or,Bool.not_eq_true] at h1
  exact⟨h1.1,h1.2,rfl⟩
section
variable {R:List Int} {A B:List Agent}
theorem step_ord (hst:Stt R A B) {px py x y:Int} {a b:Agent} (hp:Pr (fun k=>k ∈ R) A x y a b) (ga:agB a=true) (gb:agB b=true) (h2:Two a b) (bk:List Net) (hbk:∀T ∈ bk,Vn T.agents) (hA:A.length≤8000000)
  (hF:Ek ⟨B⟩ px py=some (x,y)) (hr:kcl a b≠8→ru a.kind a.level b.kind b.level≠0∧pcl a b=ru a.kind a.level b.kind b.level)
  (hC:B6 ⟨⟨A⟩,bk,remM R⟩ ⟨px,py⟩=some (if E9 bk (kcl a b) a=0 then (kcl a b,x,y,0) else (0,0,0,E9 bk (kcl a b) a))):
  (∃e,e≠0∧Ag ⟨⟨A⟩,bk,remM R⟩ ⟨px,py⟩=some (e,⟨⟨A⟩,bk,remM R⟩)∧HN bk ⟨B⟩ px py=some (e,⟨B⟩))∨
   (∃R' A' B' new,(kcl a b≠8∧AR B'≤600)∧Ag ⟨⟨A⟩,bk,remM R⟩ ⟨px,py⟩=some (0,⟨⟨A'⟩,bk,remM R'⟩)∧HN bk ⟨B⟩ px py=some (0,⟨B'⟩)∧Outc R A x y R' A' B' new):=by
 have hOk:=hst.ok
 have hv:kcl a b=7→0≤a.value:=fun e=>by
  have h8:kcl a b≠8:=by omega
  obtain⟨h3,h4⟩:=hr h8
  obtain⟨-,-,h5⟩:=SH h8
  have h6:=(No a b).2.2.2.2.2.2.2
  exact(JJ ga).2.2.2.2 (h6 (by omega))
 have hG:=ZW hF (hp.bx hOk) (hp.bY hOk) h2 ga gb hv hbk
 unfold Ag HN
 rw [hC,AA,hG,AA]
 by_cases he:E9 bk (kcl a b) a=0
 ·rw [if_pos he,if_pos he]
  have h8:kcl a b≠8:=fun e=>by rw [e] at he; simp [E9] at he
  obtain⟨h3,h4⟩:=hr h8
  obtain⟨n1,n2,h5⟩:=SH h8
  have hl1:AR B≤B.length:=JI B
  have hl2:=hst.cnt
  have hl3:=hOk.len
  have hgb:=bP (kcl a b) (gnum bk (kcl a b) a b)
  have hcount:Du ⟨⟨A⟩,bk,remM R⟩=some ((AR B:Nat):Int):=by
   unfold Du
   simp only [remM,List.length_map]
   rw [w64 (by omega) (by omega)]
   congr 1; omega
  have hlive:=WL ⟨B⟩ (by simp only; unfold Big; omega)
  simp only at hlive
  simp only [decide_true,Bool.not_true,Bool.false_eq_true,if_false]
  rw [hcount,AA,ZV hp.hx hp.hy ga gb (remM R) (kcl a b) he,AA,hlive,AA]
  rw [w64 (by omega) (by omega)]
  by_cases h6:(600:Int)<((AR B:Nat):Int)+grow (kcl a b) (gnum bk (kcl a b) a b)
  ·rw [if_pos (by simpa using h6),if_pos (by simpa using h6)]
   exact .inl ⟨4,by omega,rfl,rfl⟩
  ·have h6':¬ (decide ((600:Int)<((AR B:Nat):Int)+grow (kcl a b) (gnum bk (kcl a b) a b))=true):=by simpa using h6
   rw [if_neg h6',if_neg h6',hF,AA,hp.bx hOk,AA,hp.bY hOk,AA,Kt h2,AA]
   obtain⟨R',A',B',new,r1,r2,r3,r4⟩:=bO hst hp ga gb h2.rb (kcl a b) (by rw [h5,h4]) (by rw [h5,h4]; exact h3) (fun e1 e2=>by
    have h7:=(No a b).2.2.2.2.2.2.1 (by rw [← h4,← h5,e1])
    rcases h7 with h7|h7
    ·omega
    ·by_cases h9:a.value<(b.data.length:Int)
     ·exact h9
     ·unfold Cl at n1
      simp [h7.1,h7.2] at n1
      omega) hA bk hbk he
   refine .inr ⟨R',A',B',new,⟨h8,by omega⟩,?_,?_,r3⟩
   ·rw [← r1]
    by_cases hc1:kcl a b=1
    ·rw [if_pos (by simpa using hc1)]; simp [hc1]
    ·rw [if_neg (by simpa using hc1)]; simp [hc1]
   ·rw [← r2]
    by_cases hc1:kcl a b=1
    ·rw [if_pos (by simpa using hc1)]; simp [hc1]
    ·rw [if_neg (by simpa using hc1)]; simp [hc1]
 ·rw [if_neg he,if_neg he]
  refine .inl ⟨_,he,?_,?_⟩
  ·simp only
   rw [if_pos (by simpa using he)]
  ·simp only
   rw [if_pos (by simpa using he)]
theorem step (hst:Stt R A B) {px py:Int} {a b:Agent} (hp:Pr (fun k=>k ∈ R) A px py a b) (ga:agB a=true) (gb:agB b=true) (ka:a.kind≠1) (kb:b.kind≠1) (bk:List Net) (hbk:∀T ∈ bk,Vn T.agents) (hA:A.length≤8000000):
  (∃e,e≠0∧Ag ⟨⟨A⟩,bk,remM R⟩ ⟨px,py⟩=some (e,⟨⟨A⟩,bk,remM R⟩)∧HN bk ⟨B⟩ px py=some (e,⟨B⟩))∨
   (∃x y R' A' B' new,((x=px∧y=py)∨(x=py∧y=px))∧(kcl a b≠8∧AR B'≤600)∧Ag ⟨⟨A⟩,bk,remM R⟩ ⟨px,py⟩=some (0,⟨⟨A'⟩,bk,remM R'⟩)∧HN bk ⟨B⟩ px py=some (0,⟨B'⟩)∧Outc R A x y R' A' B' new):=by
 have hOk:=hst.ok
 have h2:Two a b:=⟨Js ga,Js gb,ka,kb⟩
 obtain⟨sw,hcl,hsw⟩:=Tv (i:=px) (j:=py) hp.hx hp.hy h2
 have hFF:Ek ⟨B⟩ px py=some (if pfi a b=2 then (py,px) else (px,py)):=by
  unfold Ek
  rw [hp.bx hOk,AA,hp.bY hOk,AA,XV h2,AA]
  by_cases e:pfi a b=2 <;> simp [e]
 have hv:∀ {a b:Agent},agB a=true→kcl a b=7→pcl a b=ru a.kind a.level b.kind b.level→0≤a.value:=fun {a b} ga e h4=>by
  obtain⟨-,-,h5⟩:=SH (a:=a) (b:=b) (by omega)
  have h6:=(No a b).2.2.2.2.2.2.2
  exact(JJ ga).2.2.2.2 (h6 (by omega))
 by_cases h22:pfi a b=2
 ·obtain⟨q1,q2,q3⟩:=gj h22
  have hk:kcl a b=kcl b a:=ZU q3
  rw [if_pos h22] at hFF
  have hp':Pr (fun k=>k ∈ R) A py px b a:=⟨hp.hy,hp.hx,(hOk.m _ _ hp.w hp.sx).2.2,hp.sy,hp.sx⟩
  have hC:B6 ⟨⟨A⟩,bk,remM R⟩ ⟨px,py⟩=some (if E9 bk (kcl b a) b=0 then (kcl b a,py,px,0) else (0,0,0,E9 bk (kcl b a) b)):=by
   unfold B6
   rw [hcl,AA,hk]
   by_cases h8:kcl a b=8
   ·have h8':kcl b a=8:=hk ▸ h8
    rw [h8']
    have e11:∀z,E9 bk 8 z=11:=fun z=>by simp [E9]
    cases sw with
    |true=>rw [if_pos rfl,Nn hp.hy gb hbk (remM R) 8 (by omega) true]
    |false=>rw [if_neg (by simp),Nn hp.hx ga hbk (remM R) 8 (by omega) false,e11,e11]; simp
   ·have:=hsw h8
    rw [this,h22]
    simp only [decide_true,if_true]
    exact Nn hp.hy gb hbk (remM R) (kcl b a) (fun e=>hv gb e q2) true
  rcases step_ord hst hp' gb ga h2.symm bk hbk hA hFF (fun _=>⟨q1,q2⟩) hC with h|⟨R',A',B',new,r0,r1,r2,r3⟩
  ·exact .inl h
  ·exact .inr ⟨py,px,R',A',B',new,.inr ⟨rfl,rfl⟩,⟨by rw [hk]; exact r0.1,r0.2⟩,r1,r2,r3⟩
 ·rw [if_neg h22] at hFF
  have hr:kcl a b≠8→ru a.kind a.level b.kind b.level≠0∧pcl a b=ru a.kind a.level b.kind b.level:=fun h8=>by
   rcases pfi_cases a b with e|e|e
   ·exact absurd (gh e) h8
   ·exact gi e
   ·exact absurd e h22
  have hC:B6 ⟨⟨A⟩,bk,remM R⟩ ⟨px,py⟩=some (if E9 bk (kcl a b) a=0 then (kcl a b,px,py,0) else (0,0,0,E9 bk (kcl a b) a)):=by
   unfold B6
   rw [hcl,AA]
   by_cases h8:kcl a b=8
   ·rw [h8]
    have e11:∀z,E9 bk 8 z=11:=fun z=>by simp [E9]
    cases sw with
    |true=>rw [if_pos rfl,Nn hp.hy gb hbk (remM R) 8 (by omega) true,e11,e11]; simp
    |false=>rw [if_neg (by simp),Nn hp.hx ga hbk (remM R) 8 (by omega) false]
   ·have:=hsw h8
    rw [this]
    simp only [h22,decide_false,Bool.false_eq_true,if_false]
    exact Nn hp.hx ga hbk (remM R) (kcl a b) (fun e=>hv ga e (hr h8).2) false
  rcases step_ord hst hp ga gb h2 bk hbk hA hFF hr hC with h|⟨R',A',B',new,r0,r1,r2,r3⟩
  ·exact .inl h
  ·exact .inr ⟨px,py,R',A',B',new,.inl ⟨rfl,rfl⟩,r0,r1,r2,r3⟩
end
end Go.Proofs.YtckcfdggbbabfaaGreat.Ab
namespace Go.Proofs.YtckcfdggbbabfaaGreat.Ab
set_option linter.unusedVariables false
set_option linter.unusedSimpArgs false
open Go.RowKit
def pr1 (i:Nat) (a:Agent):List Pair:=match at? a.ports 0 with
 |some v=>if v.slot=0∧(i:Int)<v.agent then [⟨(i:Int),v.agent⟩] else []
 |none=>[]
def prs:Nat→List Agent→List Pair
 |_,[] =>[]
 |i,a::l=>pr1 i a++prs (i+1) l
theorem bQ (i:Nat) (a:Agent):(pr1 i a).length ≤1:=by
 unfold pr1
 split
 ·split <;> simp
 ·simp
theorem WM:∀ (l:List Agent) (i:Nat),(prs i l).length ≤l.length
 | [],_=>by simp [prs]
 |a::l,i=>by
  rw [prs,List.length_append,List.length_cons]
  have:=WM l (i+1)
  have:=bQ i a
  omega
theorem Re {N:Nat} (n:Net) (h:VnN N n.agents) (hN:N≤5000000):Ei n=some (prs 1 (n.agents.drop 1)):=by
 have hl:n.agents.length≤Big:=by have:=h.len; unfold Big; omega
 have loop:∀ (post pre:List Agent) (acc:List Pair) (k:Nat),n.agents=pre++post→1≤pre.length→acc.length≤pre.length→2*post.length<k→BY k n acc ((List.length pre:Nat):Int)=some (acc++prs pre.length post):=by
  intro post
  induction post with
  |nil=>
   intro pre acc k he h1 ha hk
   obtain⟨k,rfl⟩:∃q,k=q+1:=⟨k - 1,by omega⟩
   rw [BY,Cv he,if_neg (by simp),prs,List.append_nil]
  | cons x post ih=>
   intro pre acc k he h1 ha hk
   rw [List.length_cons] at hk
   obtain⟨k,rfl⟩:∃q,k=q+1+1:=⟨k - 2,by omega⟩
   obtain⟨gx,gk⟩:=h.ag _ x (Bf he)
   have hp:=CI gx
   have hk1:x.kind≠1:=fun e=>by have:=gk.1 e; omega
   obtain⟨v,hv,-⟩:=EI (l:=x.ports) (i:=0) (by omega)
   have hnl:pre.length<n.agents.length:=by rw [he]; simp
   have e1:pr1 pre.length x=if v.slot=0∧((List.length pre:Nat):Int)<v.agent then [⟨((List.length pre:Nat):Int),v.agent⟩] else [] :=by unfold pr1; rw [hv]
   have ih':=fun acc' ha'=>ih (pre++[x]) acc' k (Aj he) (by simp) ha' (by omega)
   rw [List.length_append,List.length_singleton] at ih'
   have hw:=BI he hl
   rw [List.length_append,List.length_singleton] at hw
   rw [BY,if_pos (Ck he),Bf he,AA,hv,AA,prs,e1]
   by_cases h0:v.slot=0
   ·rw [if_pos (by simpa using h0)]
    by_cases h2:((List.length pre:Nat):Int)<v.agent
    ·rw [if_pos (by simpa using h2),BZ,if_pos (by simpa using hk1),DO (by simp; unfold Big at hl; unfold Big; omega),AA,hw,ih' _ (by simp; omega),if_pos ⟨h0,h2⟩,List.append_assoc]
    ·rw [if_neg (by simpa using h2),BZ,if_neg (by simp),hw,ih' _ (by omega),if_neg (fun e=>h2 e.2),List.nil_append]
   ·rw [if_neg (by simpa using h0),BZ,if_neg (by simp),hw,ih' _ (by omega),if_neg (fun e=>h0 e.1),List.nil_append]
 have hlen:=h.len
 obtain⟨t0,tl,htl⟩:∃t0 tl,n.agents=t0::tl:=by
  cases hh:n.agents with
  |nil=>rw [hh] at hlen; simp at hlen
  |cons t0 tl=>exact⟨t0,tl,rfl⟩
 have he0:n.agents=[] ++t0::tl:=by rw [htl]; rfl
 obtain⟨gx,gk⟩:=h.ag 0 t0 (Bf he0)
 have hp:=CI gx
 have hk1:t0.kind=1:=gk.2 rfl
 obtain⟨v,hv,-⟩:=EI (l:=t0.ports) (i:=0) (by omega)
 have hd:n.agents.drop 1=tl:=by rw [htl]; rfl
 unfold Ei
 obtain⟨k,hk⟩:∃q,fuel=q+1+1:=⟨fuel - 2,by rw [Au]⟩
 have l1:=loop tl [t0] [] k htl (by simp) (by simp) (by rw [Au] at hk; rw [htl] at hlen; simp at hlen; omega)
 rw [List.length_singleton,List.nil_append,Int.natCast_one] at l1
 have h0:at? n.agents 0=some t0:=by have:=Bf he0; simpa using this
 rw [hk,BY,if_pos (by rw [htl]; simp),h0,AA,hv,AA,hd]
 have hj:∀b,b=false→BZ (k+1) n [] 0 v b=some (prs 1 tl):=fun b hb=>by
  rw [hb,BZ,if_neg (by simp),w64 (by omega) (by omega)]; exact l1
 by_cases c0:v.slot=0
 ·rw [if_pos (by simpa using c0)]
  by_cases c2:(0:Int)<v.agent
  ·rw [if_pos (by simpa using c2)]; exact hj _ (by simp [hk1])
  ·rw [if_neg (by simpa using c2)]; exact hj _ rfl
 ·rw [if_neg (by simpa using c0)]; exact hj _ rfl
theorem Xf {N:Nat} (n:Net) (h:VnN N n.agents) (hN:N≤5000000):GQ n=some (prs 1 (n.agents.drop 1)):=by
 have hl:n.agents.length≤Big:=by have:=h.len; unfold Big; omega
 have loop:∀ (post pre:List Agent) (acc:List Pair) (k:Nat),n.agents=pre++post→acc.length≤pre.length→2*post.length<k→Br k n acc ((List.length pre:Nat):Int)=some (acc++prs pre.length post):=by
  intro post
  induction post with
  |nil=>
   intro pre acc k he ha hk
   obtain⟨k,rfl⟩:∃q,k=q+1:=⟨k - 1,by omega⟩
   rw [Br,Cv he,if_neg (by simp),prs,List.append_nil]
  | cons x post ih=>
   intro pre acc k he ha hk
   rw [List.length_cons] at hk
   obtain⟨k,rfl⟩:∃q,k=q+1+1:=⟨k - 2,by omega⟩
   obtain⟨gx,gk⟩:=h.ag _ x (Bf he)
   have hp:=CI gx
   have hk0:x.kind≠0:=by have:=JH gx; omega
   obtain⟨v,hv,-⟩:=EI (l:=x.ports) (i:=0) (by omega)
   have hnl:pre.length<n.agents.length:=by rw [he]; simp
   have e1:pr1 pre.length x=if v.slot=0∧((List.length pre:Nat):Int)<v.agent then [⟨((List.length pre:Nat):Int),v.agent⟩] else [] :=by unfold pr1; rw [hv]
   have ih':=fun acc' ha'=>ih (pre++[x]) acc' k (Aj he) ha' (by omega)
   rw [List.length_append,List.length_singleton] at ih'
   have hw:=BI he hl
   rw [List.length_append,List.length_singleton] at hw
   rw [Br,if_pos (Ck he),Bf he,AA,if_neg (by simpa using hk0),AA,hv,AA,prs,e1]
   by_cases h0:v.slot=0
   ·rw [if_pos (by simpa using h0),Dk]
    by_cases h2:((List.length pre:Nat):Int)<v.agent
    ·rw [if_pos (by simpa using h2),DO (by simp; unfold Big at hl; unfold Big; omega),AA,hw,ih' _ (by simp; omega),if_pos ⟨h0,h2⟩,List.append_assoc]
    ·rw [if_neg (by simpa using h2),hw,ih' _ (by omega),if_neg (fun e=>h2 e.2),List.nil_append]
   ·rw [if_neg (by simpa using h0),Dk,if_neg (by simp),hw,ih' _ (by omega),if_neg (fun e=>h0 e.1),List.nil_append]
 have hlen:=h.len
 obtain⟨t0,tl,htl⟩:∃t0 tl,n.agents=t0::tl:=by
  cases hh:n.agents with
  |nil=>rw [hh] at hlen; simp at hlen
  |cons t0 tl=>exact⟨t0,tl,rfl⟩
 have hd:n.agents.drop 1=tl:=by rw [htl]; rfl
 unfold GQ
 have l1:=loop tl [t0] [] fuel htl (by simp) (by rw [Au]; rw [htl] at hlen; simp at hlen; omega)
 rw [List.length_singleton,List.nil_append,Int.natCast_one] at l1
 rw [l1,hd]
theorem SI:∀ (l:List Agent) (i:Nat) (p:Pair),p ∈ prs i l→∃ (j:Nat) (a:Agent) (v:Port),l[j]? =some a∧at? a.ports 0=some v∧v.slot=0∧p=⟨((i+j:Nat):Int),v.agent⟩∧p.a<v.agent
 | [],_,p,h=>by simp [prs] at h
 | a ::l,i,p,h=>by
  rw [prs] at h
  rcases List.mem_append.1 h with h|h
  ·unfold pr1 at h
   split at h
   ·rename_i v hv
    split at h
    ·rename_i hc
     rw [List.mem_singleton] at h
     subst h
     exact⟨0,a,v,rfl,hv,hc.1,rfl,hc.2⟩
    ·cases h
   ·cases h
  ·obtain⟨j,b,v,h1,h2,h3,h4,h5⟩:=SI l (i+1) p h
   exact⟨j+1,b,v,h1,h2,h3,by rw [h4]; congr 1; omega,h5⟩
theorem VO {N:Nat} {l:List Agent} (h:VnN N l) {p:Pair} (hp:p ∈ prs 1 (l.drop 1)):∃a b,Pr (fun k=>k ∈ ([] :List Int)) l p.a p.b a b∧agB a=true∧agB b=true∧a.kind≠1∧b.kind≠1:=by
 obtain⟨j,a,v,h1,h2,h3,h4,h5⟩:=SI _ _ _ hp
 rw [List.getElem?_drop] at h1
 have ha:at? l p.a=some a:=by rw [h4]; exact Kq h1
 have hg:Ab.get l ⟨p.a,0⟩=some ⟨p.b,0⟩:=Aq.2 ⟨a,ha,by rw [h2,h4]; exact congrArg some (Bw rfl h3)⟩
 obtain⟨-,-,g3⟩:=h.m _ _ hg not_false
 obtain⟨b,hb,-⟩:=Aq.1 g3
 have e1:p.a=((1+j:Nat):Int):=by rw [h4]
 have e2:p.b=v.agent:=by rw [h4]
 refine⟨a,b,⟨ha,hb,hg,by simp,by simp⟩,(h.ag _ _ ha).1,(h.ag _ _ hb).1,fun e=>?_,fun e=>?_⟩
 ·have:=(h.ag _ _ ha).2.1 e; omega
 ·have:=(h.ag _ _ hb).2.1 e; simp only at this; omega
end Go.Proofs.YtckcfdggbbabfaaGreat.Ab
namespace Go.Proofs.YtckcfdggbbabfaaGreat.Ab
set_option linter.unusedVariables false
set_option linter.unusedSimpArgs false
open Go.RowKit
def kp:Nat→List Agent→List Int
 |_,[] =>[]
 |i,a::l=>if a.kind=0 then kp (i+1) l else (i:Int)::kp (i+1) l
def mpz:Nat→List Int→List (Int × Int)
 |_,[] =>[]
 |j,k::l=>(k,(j:Int))::mpz (j+1) l
def ixL:Nat→List Agent→List Int
 |_,[] =>[]
 |c,a::l=>(c:Int)::ixL (if a.kind=0 then c else c+1) l
theorem VP:∀ (l:List Agent) (i:Nat),(kp i l).length ≤l.length
 | [],_=>by simp [kp]
 |a::l,i=>by
  have:=VP l (i+1)
  rw [kp,List.length_cons]
  split
  ·omega
  ·rw [List.length_cons]; omega
theorem WN:∀ (l:List Agent) (c t:Nat),t<l.length→(ixL c l)[t]? =some ((c+AR (l.take t):Nat):Int)
 | [],_,t,h=>by simp at h
 |a::l,c,0,h=>by simp [ixL,AR]
 |a::l,c,t+1,h=>by
  rw [List.length_cons] at h
  rw [ixL,List.getElem?_cons_succ,WN l _ t (by omega),List.take_succ_cons,AR]
  by_cases e:a.kind=0
  ·rw [if_pos e,if_pos e]; congr 2; omega
  ·rw [if_neg e,if_neg e]; congr 2; omega
theorem ZX:∀ (l:List Agent) (i:Nat) (k:Int),k ∈ kp i l→(i:Int)≤k
 | [],_,k,h=>by simp [kp] at h
 | a::l,i,k,h=>by
  rw [kp] at h
  split at h
  ·have:=ZX l (i+1) k h; omega
  ·rcases List.mem_cons.1 h with e|e
   ·omega
   ·have:=ZX l (i+1) k e; omega
theorem SJ:∀ (l:List Agent) (i j t:Nat) (a:Agent),l[t]? =some a→a.kind≠0→Hx (mpz j (kp i l)) ((i+t:Nat):Int)=some ((j+AR (l.take t):Nat):Int)
 | [],_,_,t,a,h,_=>by simp at h
 |b::l,i,j,0,a,h,hk=>by
  simp only [List.getElem?_cons_zero,Option.some.injEq] at h
  subst h
  rw [kp,if_neg hk,mpz,Hx,if_pos (by simp)]
  simp [AR]
 | b::l,i,j,t+1,a,h,hk=>by
  rw [List.getElem?_cons_succ] at h
  rw [kp,List.take_succ_cons,AR]
  by_cases e:b.kind=0
  ·rw [if_pos e,if_pos e,show i+(t+1)=(i+1)+t from by omega,SJ l (i+1) j t a h hk,Nat.zero_add]
  ·rw [if_neg e,if_neg e,mpz,Hx,if_neg (by simp only; omega),show i+(t+1)=(i+1)+t from by omega,SJ l (i+1) (j+1) t a h hk]
   congr 2; omega
def rnP (f:Int→Int) (q:Port):Port:=⟨f q.agent,q.slot⟩
def rnA (f:Int→Int) (a:Agent):Agent:=⟨a.kind,a.level,a.value,a.data,a.ports.map (rnP f)⟩
def Cd (f:Int→Int):List Agent→List Agent
 | [] =>[]
 |a::l=>if a.kind=0 then Cd f l else rnA f a::Cd f l
theorem Rf (f:Int→Int):∀l:List Agent,(Cd f l).length ≤l.length
 | [] =>by simp [Cd]
 |a::l=>by
  have:=Rf f l
  rw [Cd,List.length_cons]
  split
  ·omega
  ·rw [List.length_cons]; omega
theorem Xg (n:Net) (ix:List Int) (f:Int→Int) (i:Int) (x:Agent) (acc:List Agent):∀ (post pre:List Port) (k:Nat),(∀q ∈ post,at? ix q.agent=some (f q.agent))→pre.length+post.length≤Big→
  C2 (post.length+1+k) n ix acc i x (pre.map (rnP f)++post) ((List.length pre:Nat):Int)=Option.bind (app? acc [⟨x.kind,x.level,x.value,x.data,(pre++post).map (rnP f)⟩]) fun v=>BQ k n ix v (IntKind.i64.wrap (i+1)):=by
 intro post
 induction post with
 |nil=>
  intro pre k hq hb
  rw [show ([] :List Port).length +1+k=k+1 from by simp; omega,C2,if_neg (by simp),List.append_nil,List.append_nil]
 |cons q post ih=>
  intro pre k hq hb
  rw [List.length_cons] at hb
  have e1:((List.length pre:Nat):Int)=((List.length (pre.map (rnP f)):Nat):Int):=by rw [List.length_map]
  rw [show (q::post).length +1+k=(post.length+1+k)+1 from by simp; omega,C2,if_pos (by simp; omega),e1,Jt,AA,hq q List.mem_cons_self,AA,AA,Kx,AA,← e1,w64 (by unfold Big at hb; omega) (by unfold Big at hb; omega)]
  have:=ih (pre++[q]) k (fun r hr=>hq r (List.mem_cons_of_mem _ hr)) (by simp; omega)
  rw [List.map_append,List.map_singleton,List.append_assoc,List.singleton_append,List.append_assoc,List.singleton_append,List.length_append,List.length_singleton] at this
  rw [show ((List.length pre:Nat):Int)+1=((List.length pre+1:Nat):Int) from by omega]
  exact this
theorem Xh (n:Net) (keep:List Int) (mp:List (Int × Int)) (f:Int→Int) (i:Int) (x:Agent) (acc:List Agent):∀ (post pre:List Port) (k:Nat),x.ports=pre++post→(∀q ∈ post,(Hx mp q.agent).getD 0=f q.agent)→pre.length+post.length≤Big→
  Ba (post.length+1+k) n keep mp acc i x (pre.map (rnP f)++post) ((List.length pre:Nat):Int)=Option.bind (app? acc [⟨x.kind,x.level,x.value,x.data,(pre++post).map (rnP f)⟩]) fun v=>An k n keep mp v (IntKind.i64.wrap (i+1)):=by
 intro post
 induction post with
 |nil=>
  intro pre k hx hq hb
  rw [show ([] :List Port).length +1+k=k+1 from by simp; omega,Ba,if_neg (by rw [hx]; simp),List.append_nil,List.append_nil]
 |cons q post ih=>
  intro pre k hx hq hb
  rw [List.length_cons] at hb
  have e1:((List.length pre:Nat):Int)=((List.length (pre.map (rnP f)):Nat):Int):=by rw [List.length_map]
  rw [show (q::post).length +1+k=(post.length+1+k)+1 from by simp; omega,Ba,if_pos (by rw [hx]; simp; omega),e1,Jt,AA,AA,hq q List.mem_cons_self,Kx,AA,← e1,w64 (by unfold Big at hb; omega) (by unfold Big at hb; omega)]
  have:=ih (pre++[q]) k (by rw [hx]; simp) (fun r hr=>hq r (List.mem_cons_of_mem _ hr)) (by simp; omega)
  rw [List.map_append,List.map_singleton,List.append_assoc,List.singleton_append,List.append_assoc,List.singleton_append,List.length_append,List.length_singleton] at this
  rw [show ((List.length pre:Nat):Int)+1=((List.length pre+1:Nat):Int) from by omega]
  exact this
def posN (B:List Agent) (k:Int):Int:=((AR (B.take k.toNat):Nat):Int)
def On (B:List Agent):Prop:=∀ (a:Agent),a ∈ B→a.kind≠0→(a.ports.length≤4∧a.data.length≤4)∧∀q ∈ a.ports,∃b,at? B q.agent=some b∧b.kind≠0
theorem bR (B:List Agent) (hB:B.length≤16000000) (hc:On B):Fj ⟨B⟩=some ⟨Cd (posN B) B⟩:=by
 have hl:B.length≤Big:=by unfold Big; omega
 have hix:∀q:Port,(∃b,at? B q.agent=some b)→at? (ixL 0 B) q.agent=some (posN B q.agent):=fun q ⟨b,hb⟩=>by
  have:=Cf hb
  unfold at?
  rw [if_pos this.1,WN B 0 q.agent.toNat (by omega),Nat.zero_add]; rfl
 have l24:∀ (post pre acc:List Agent) (k:Nat),B=pre++post→acc.length≤pre.length→10*post.length<k→BQ k ⟨B⟩ (ixL 0 B) acc ((List.length pre:Nat):Int)=some ⟨acc++Cd (posN B) post⟩:=by
  intro post
  induction post with
  |nil=>
   intro pre acc k h ha hk
   obtain⟨k,rfl⟩:∃q,k=q+1:=⟨k - 1,by omega⟩
   have h':(⟨B⟩:Net).agents =pre++[] :=h
   rw [BQ,Cv h',if_neg (by simp),Cd,List.append_nil]
  | cons x post ih=>
   intro pre acc k h ha hk
   rw [List.length_cons] at hk
   have h':(⟨B⟩:Net).agents =pre++x::post:=h
   have hpl:pre.length<B.length:=by rw [h]; simp
   by_cases h0:x.kind=0
   ·obtain⟨k,rfl⟩:∃q,k=q+1:=⟨k - 1,by omega⟩
    rw [BQ,if_pos (Ck h'),Bf h',AA,if_neg (by simp [h0]),BI h' hl,ih (pre++[x]) acc k (Aj h) (by simp; omega) (by omega),Cd,if_pos h0]
   ·obtain⟨⟨hp,hd⟩,hq⟩:=hc x (by rw [h]; simp) h0
    obtain⟨k,rfl⟩:∃q,k=(x.ports.length+1+q)+1:=⟨k - x.ports.length - 2,by omega⟩
    rw [BQ,if_pos (Ck h'),Bf h',AA,if_pos (by simp [h0]),AA,Ic x (by unfold Big; omega) (by unfold Big; omega),AA]
    have:=Xg ⟨B⟩ (ixL 0 B) (posN B) ((List.length pre:Nat):Int) x acc x.ports [] k (fun q hq'=>hix q (by obtain⟨b,hb,-⟩:=hq q hq'; exact⟨b,hb⟩)) (by simp; unfold Big; omega)
    simp only [List.map_nil,List.nil_append,List.length_nil,Int.natCast_zero] at this
    rw [this,DO (by simp; unfold Big; omega),AA,BI h' hl,Cd,if_neg h0]
    have e:(⟨x.kind,x.level,x.value,x.data,x.ports.map (rnP (posN B))⟩:Agent)=rnA (posN B) x:=rfl
    rw [e,ih (pre++[x]) (acc++[rnA (posN B) x]) k (Aj h) (by simp; omega) (by omega),List.append_assoc,List.singleton_append]
 have l2:∀ (post pre:List Agent) (acc:List Int) (k:Nat),B=pre++post→acc.length=pre.length→acc++ixL (AR pre) post=ixL 0 B→post.length<k→Cs k ⟨B⟩ acc ((AR pre:Nat):Int) ((List.length pre:Nat):Int)=BQ fuel ⟨B⟩ (ixL 0 B) [] 0:=by
  intro post
  induction post with
  |nil=>
   intro pre acc k h ha hx hk
   obtain⟨k,rfl⟩:∃q,k=q+1:=⟨k - 1,by omega⟩
   have h':(⟨B⟩:Net).agents =pre++[] :=h
   rw [ixL,List.append_nil] at hx
   rw [Cs,Cv h',if_neg (by simp),hx]
  | cons x post ih=>
   intro pre acc k h ha hx hk
   rw [List.length_cons] at hk
   obtain⟨k,rfl⟩:∃q,k=q+1:=⟨k - 1,by omega⟩
   have h':(⟨B⟩:Net).agents =pre++x::post:=h
   have hpl:pre.length<B.length:=by rw [h]; simp
   have hlv:=JI pre
   have ih':=ih (pre++[x]) (acc++[((AR pre:Nat):Int)]) k (Aj h) (by simp [ha])
   rw [ixL] at hx
   rw [Hk] at ih'
   rw [Cs,if_pos (Ck h'),DO (by simp; unfold Big; omega),AA,Bf h',AA,BI h' hl]
   by_cases h0:x.kind=0
   ·rw [if_neg (by simp [h0])]
    rw [show AR [x] =0 from by simp [AR,h0],Nat.add_zero] at ih'
    rw [if_pos h0] at hx
    exact ih' (by rw [List.append_assoc]; exact hx) (by omega)
   ·rw [if_pos (by simp [h0]),w64 (by omega) (by omega)]
    rw [show AR [x] =1 from by simp [AR,h0]] at ih'
    rw [if_neg h0] at hx
    rw [show ((AR pre:Nat):Int)+1=((AR pre+1:Nat):Int) from by omega]
    exact ih' (by rw [List.append_assoc]; exact hx) (by omega)
 unfold Fj
 have e:=l2 B [] [] fuel rfl rfl (by rfl) (by rw [Au]; omega)
 simp only [AR,List.length_nil,Int.natCast_zero] at e
 have e2:=l24 B [] [] fuel rfl (by simp) (by rw [Au]; omega)
 simp only [List.length_nil,Int.natCast_zero,List.nil_append] at e2
 rw [e,e2]
end Go.Proofs.YtckcfdggbbabfaaGreat.Ab
namespace Go.Proofs.YtckcfdggbbabfaaGreat.Ab
set_option linter.unusedVariables false
set_option linter.unusedSimpArgs false
open Go.RowKit
theorem VQ:∀ (l m:List Agent) (i:Nat),kp i (l++m)=kp i l++kp (i+l.length) m
 | [],m,i=>by simp [kp]
 |a::l,m,i=>by
  rw [List.cons_append,kp,kp,VQ l m (i+1),List.length_cons,show i+1+l.length=i+(l.length+1) from by omega]
  split
  ·rfl
  ·rfl
theorem M2:∀ (l:List Agent) (i:Nat),(kp i l).length =AR l
 | [],_=>rfl
 |a::l,i=>by
  rw [kp,AR]
  split
  ·rw [M2 l]; omega
  ·rw [List.length_cons,M2 l]; omega
theorem P3:∀ (l:List Agent) (i:Nat),(kp i l).Nodup
 | [],_=>by simp [kp]
 | a::l,i=>by
  rw [kp]
  split
  ·exact P3 l (i+1)
  ·refine List.nodup_cons.2 ⟨fun h=>?_,P3 l (i+1)⟩
   have:=ZX l (i+1) _ h; omega
theorem bS (l:List Int) (k:Int):∀j,mpz j (l++[k])=mpz j l++[(k,((j+l.length:Nat):Int))] :=by
 induction l with
 |nil=>intro j; simp [mpz]
 |cons a l ih=>intro j; rw [List.cons_append,mpz,mpz,ih,List.length_cons,show j+1+l.length=j+(l.length+1) from by omega]; rfl
theorem T9:∀ (l:List Int) (j:Nat) (k v:Int),k ∉ l→Kj (mpz j l) k v=mpz j l++[(k,v)]
 | [],_,_,_,_=>rfl
 |a::l,j,k,v,h=>by
  rw [mpz,Kj,if_neg (fun e=>h (by simp only at e; rw [e]; exact List.mem_cons_self)),T9 l (j+1) k v (fun e=>h (List.mem_cons_of_mem _ e))]; rfl
theorem WO:∀ (l:List Int) (j:Nat),(mpz j l).length =l.length
 | [],_=>rfl
 |a::l,j=>by rw [mpz,List.length_cons,WO l,List.length_cons]
section
variable {R:List Int} {X:Port→Prop} {A B:List Agent}
theorem ZY (n:Net) (K:List Int) (hn:K.Nodup) (hl:K.length≤16000000):Dv n K=An fuel n K (mpz 0 K) [] 0:=by
 have hlB:K.length≤Big:=by unfold Big; omega
 have l2:∀ (post pre:List Int) (k:Nat),K=pre++post→post.length<k→Bj k n K (mpz 0 pre) ((List.length pre:Nat):Int)=An fuel n K (mpz 0 K) [] 0:=by
  intro post
  induction post with
  |nil=>
   intro pre k h hk
   obtain⟨k,rfl⟩:∃q,k=q+1:=⟨k - 1,by omega⟩
   have e:pre=K:=by rw [h,List.append_nil]
   rw [Bj,Cv h,if_neg (by simp),e]
  | cons x post ih=>
   intro pre k h hk
   rw [List.length_cons] at hk
   obtain⟨k,rfl⟩:∃q,k=q+1:=⟨k - 1,by omega⟩
   have hx:x ∉ pre:=fun e=>by
    rw [h,List.nodup_append] at hn
    exact hn.2.2 x e x List.mem_cons_self rfl
   have hpl:pre.length<K.length:=by rw [h]; simp
   have e1:OE (mpz 0 pre) x ((List.length pre:Nat):Int)=some (mpz 0 (pre++[x])):=by
    unfold OE
    rw [if_pos (by rw [WO]; omega),T9 _ _ _ _ hx,bS,Nat.zero_add]
   rw [Bj,if_pos (Ck h),Bf h,AA,e1,AA,BI h hlB]
   exact ih (pre++[x]) k (Aj h) (by omega)
 unfold Dv
 exact l2 K [] fuel rfl (by rw [Au]; omega)
theorem go (hok:Ok (fun k=>k ∈ R) X A B) (hkn:∀ (k:Int) a,at? B k=some a→(a.kind=0↔k ∈ R)) (hB:B.length≤16000000) (hc:On B):Dv ⟨A⟩ (kp 0 B)=some ⟨Cd (posN B) B⟩:=by
 have hKl:(kp 0 B).length ≤16000000:=by have:=VP B 0; omega
 rw [ZY ⟨A⟩ (kp 0 B) (P3 B 0) hKl]
 have hmp:∀q:Port,(∃b,at? B q.agent=some b∧b.kind≠0)→(Hx (mpz 0 (kp 0 B)) q.agent).getD 0=posN B q.agent:=fun q ⟨b,hb,hk⟩=>by
  obtain⟨h1,h2⟩:=A5 hb
  have:=SJ B 0 0 q.agent.toNat b h2 hk
  rw [Nat.zero_add,Nat.zero_add,Int.toNat_of_nonneg h1] at this
  rw [this]; rfl
 have l24:∀ (post pre:List Agent) (acc:List Agent) (k:Nat),B=pre++post→acc.length≤pre.length→10*post.length<k→An k ⟨A⟩ (kp 0 B) (mpz 0 (kp 0 B)) acc ((AR pre:Nat):Int)=some ⟨acc++Cd (posN B) post⟩:=by
  intro post
  induction post with
  |nil=>
   intro pre acc k h ha hk
   obtain⟨k,rfl⟩:∃q,k=q+1:=⟨k - 1,by omega⟩
   have e:pre=B:=by rw [h,List.append_nil]
   rw [An,if_neg (by rw [M2,e]; simp),Cd,List.append_nil]
  | cons x post ih=>
   intro pre acc k h ha hk
   rw [List.length_cons] at hk
   have hpl:pre.length<B.length:=by rw [h]; simp
   have hlv:=JI pre
   by_cases h0:x.kind=0
   ·have:=ih (pre++[x]) acc k (Aj h) (by simp; omega) (by omega)
    rw [Hk,show AR [x] =0 from by simp [AR,h0],Nat.add_zero] at this
    rw [this,Cd,if_pos h0]
   ·obtain⟨⟨hp,hd⟩,hq⟩:=hc x (by rw [h]; simp) h0
    obtain⟨k,rfl⟩:∃q,k=(x.ports.length+1+q)+1:=⟨k - x.ports.length - 2,by omega⟩
    have hb:at? B ((List.length pre:Nat):Int)=some x:=Bf h
    have hna:((List.length pre:Nat):Int) ∉ R:=fun e=>h0 ((hkn _ _ hb).2 e)
    have hav:at? A ((List.length pre:Nat):Int)=some x:=(hok.ag _ hna).trans hb
    have hK:kp 0 B=kp 0 pre++((List.length pre:Nat):Int)::kp (pre.length+1) post:=by
     rw [h,VQ,Nat.zero_add,kp,if_neg h0]
    have hat:at? (kp 0 B) ((AR pre:Nat):Int)=some ((List.length pre:Nat):Int):=by
     rw [hK,← M2 pre 0]; exact Jt
    have hlt:decide (((AR pre:Nat):Int)<(((kp 0 B).length :Nat):Int))=true:=by
     rw [hK,← M2 pre 0]; simp; omega
    rw [An,if_pos hlt,hat,AA,hav,AA,M1 x ⟨by unfold Big; omega,by unfold Big; omega⟩,AA]
    have:=Xh ⟨A⟩ (kp 0 B) (mpz 0 (kp 0 B)) (posN B) ((AR pre:Nat):Int) x acc x.ports [] k rfl (fun q hq'=>hmp q (hq q hq')) (by simp; unfold Big; omega)
    simp only [List.map_nil,List.nil_append,List.length_nil,Int.natCast_zero] at this
    rw [this,DO (by simp; unfold Big; omega),AA,w64 (by omega) (by omega),Cd,if_neg h0]
    have e:(⟨x.kind,x.level,x.value,x.data,x.ports.map (rnP (posN B))⟩:Agent)=rnA (posN B) x:=rfl
    have ih':=ih (pre++[x]) (acc++[rnA (posN B) x]) k (Aj h) (by simp; omega) (by omega)
    rw [Hk,show AR [x] =1 from by simp [AR,h0]] at ih'
    rw [e,show ((AR pre:Nat):Int)+1=((AR pre+1:Nat):Int) from by omega,ih',List.append_assoc,List.singleton_append]
 have:=l24 B [] [] fuel rfl (by simp) (by rw [Au]; omega)
 simp only [AR,Int.natCast_zero,List.nil_append] at this
 exact this
theorem Xi (hok:Ok (fun k=>k ∈ R) X A B) (hkn:∀ (k:Int) a,at? B k=some a→(a.kind=0↔k ∈ R)) (hB:B.length≤16000000) (hc:On B) (bk:List Net):Bk ⟨⟨A⟩,bk,remM R⟩=some ⟨Cd (posN B) B⟩:=by
 have hlen:=hok.len
 have l2:∀ (post pre:List Agent) (acc:List Int) (k:Nat),B=pre++post→acc=kp 0 pre→post.length<k→A6 k ⟨⟨A⟩,bk,remM R⟩ acc ((List.length pre:Nat):Int)=some ⟨Cd (posN B) B⟩:=by
  intro post
  induction post with
  |nil=>
   intro pre acc k h ha hk
   obtain⟨k,rfl⟩:∃q,k=q+1:=⟨k - 1,by omega⟩
   have e:pre=B:=by rw [h,List.append_nil]
   rw [A6,if_neg (by rw [e]; simp; omega),ha,e,go hok hkn hB hc,AA]
  | cons x post ih=>
   intro pre acc k h ha hk
   rw [List.length_cons] at hk
   obtain⟨k,rfl⟩:∃q,k=q+1:=⟨k - 1,by omega⟩
   have hpl:pre.length<B.length:=by rw [h]; simp
   have hb:at? B ((List.length pre:Nat):Int)=some x:=Bf h
   have hal:=VP pre 0
   have hiff:=hkn _ _ hb
   have hkp:kp 0 (pre++[x])=if x.kind=0 then kp 0 pre else kp 0 pre++[((List.length pre:Nat):Int)] :=by
    rw [VQ,Nat.zero_add,kp,kp]; split <;> simp
   rw [A6,if_pos (by simp; omega),T6]
   by_cases h0:x.kind=0
   ·rw [if_neg (by simp [hiff.1 h0]),w64 (by omega) (by omega)]
    have:=ih (pre++[x]) acc k (Aj h) (by rw [hkp,if_pos h0,ha]) (by omega)
    rw [List.length_append,List.length_singleton] at this
    rw [show ((List.length pre:Nat):Int)+1=((List.length pre+1:Nat):Int) from by omega]
    exact this
   ·rw [if_pos (by simp; exact fun e=>h0 (hiff.2 e)),DO (by rw [ha]; simp; unfold Big; omega),AA,w64 (by omega) (by omega)]
    have:=ih (pre++[x]) (acc++[((List.length pre:Nat):Int)]) k (Aj h) (by rw [hkp,if_neg h0,ha]) (by omega)
    rw [List.length_append,List.length_singleton] at this
    rw [show ((List.length pre:Nat):Int)+1=((List.length pre+1:Nat):Int) from by omega]
    exact this
 unfold Bk
 exact l2 B [] [] fuel rfl rfl (by rw [Au]; omega)
theorem Stt.kinds (h:Stt R A B):∀ (k:Int) a,at? B k=some a→(a.kind=0↔k ∈ R):=fun k a ha=>by
 constructor
 ·intro h0
  by_cases hr:k ∈ R
  ·exact hr
  ·exfalso
   have e:=(h.ok.ag k hr).trans ha
   exact(h.nb a (List.mem_of_getElem? (A5 e).2)).2.2 h0
 ·intro hr
  have:=h.ok.hl k hr
  rw [ha] at this
  cases this
  rfl
theorem Stt.closed (h:Stt R A B):On B:=fun a ha h0=>by
 obtain⟨i,hi,rfl⟩:=List.getElem_of_mem ha
 have hb:at? B (i:Int)=some B[i] :=Kq (by rw [List.getElem?_eq_getElem hi])
 have hr:((i:Nat):Int) ∉ R:=fun e=>h0 ((h.kinds _ _ hb).2 e)
 have hA:=(h.ok.ag _ hr).trans hb
 have hn:=h.nb _ (List.mem_of_getElem? (A5 hA).2)
 refine⟨⟨hn.2.1,hn.1⟩,fun q hq=>?_⟩
 obtain⟨s,hs,e⟩:=List.getElem_of_mem hq
 have hg:Ab.get A ⟨(i:Int),(s:Int)⟩=some q:=Aq.2 ⟨_,hA,Kq (by rw [List.getElem?_eq_getElem hs,e])⟩
 obtain⟨h1,-,h3⟩:=h.ok.m _ _ hg hr
 obtain⟨b,hb2,-⟩:=Aq.1 h3
 exact⟨b,(h.ok.ag _ h1).symm.trans hb2,(h.nb b (List.mem_of_getElem? (A5 hb2).2)).2.2⟩
theorem Stt.result (h:Stt R A B) (hB:A.length≤16000000) (bk:List Net):Bk ⟨⟨A⟩,bk,remM R⟩=some ⟨Cd (posN B) B⟩∧Fj ⟨B⟩=some ⟨Cd (posN B) B⟩:=by
 have hl:=h.ok.len
 exact⟨Xi h.ok h.kinds (by omega) h.closed bk,bR B (by omega) h.closed⟩
end
end Go.Proofs.YtckcfdggbbabfaaGreat.Ab
namespace Go.Proofs.YtckcfdggbbabfaaGreat.Ab
set_option linter.unusedVariables false
set_option linter.unusedSimpArgs false
open Go.RowKit
theorem bT {α:Type} {l:List α} {p:α→Bool}:l.any (fun x=> !p x)= !l.all p:=by
 induction l with
 |nil=>rfl
 |cons x l ih=>simp [ih]
def Kz (l:List Net):Bool:=decide (l.length≤24)&&l.all Net.valid
theorem UA (l:List Net) (f:Net→Option Bool) (p:Net→Bool) (hl:l.length≤Big) (hf:∀x ∈ l,f x=some (p x)):Bu l f=some (l.any p):=by
 obtain⟨i,h1,h2,-⟩:=Jl BB (fun n l i f=>by rw [BB]) l f p hl hf
 unfold Bu DK
 rw [h1,AA]
 congr 1
 rw [Bool.eq_iff_iff,decide_eq_true_eq]; exact h2
theorem Xj (l:List Net) (hl:l.length≤Big) (hs:∀n ∈ l,n.Small):Dw l=some (Kz l):=by
 unfold Dw Kz
 rw [UA l _ (fun n=> !n.valid) hl (fun n hn=>by unfold EG; rw [WF n (hs n hn),AA]),bT,AA,Bool.not_not]
 have e:decide (((List.length l:Nat):Int)≤24)=decide (l.length≤24):=by congr 1; exact propext (by omega)
 rw [e]
 cases decide (l.length≤24) <;> simp
theorem Xk (l:List Net) (hl:l.length≤Big) (hs:∀n ∈ l,n.Small):I5 l=some (Kz l):=by
 unfold I5 Kz
 rw [gT (fun n i=>EH n l i) Ji Net.valid l (fun n i=>by rw [EH]) hl fun n hn=>WB n (hs n hn)]
 by_cases h:l.length≤24
 ·have e:¬ (24:Int)<((List.length l:Nat):Int):=by omega
  simp [e,h]
 ·have e:(24:Int)<((List.length l:Nat):Int):=by omega
  simp [e,h]
theorem Xl {l:List Net} (h:Kz l=true):∀T ∈ l,Vn T.agents:=fun T hT=>by
 unfold Kz at h
 rw [Bool.and_eq_true,List.all_eq_true] at h
 exact Net.valid_vn (h.2 T hT)
end Go.Proofs.YtckcfdggbbabfaaGreat.Ab
