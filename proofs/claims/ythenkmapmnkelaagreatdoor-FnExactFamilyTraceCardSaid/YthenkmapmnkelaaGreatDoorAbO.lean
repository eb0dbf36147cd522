/- The abstract walk, fifteenth part. -/
import Derived.Test.YthenkmapmnkelaaGreatDoorAbN
import Derived.Orders
namespace Go.Proofs.YthenkmapmnkelaaGreatDoor.Ab
set_option linter.unusedVariables false
set_option maxHeartbeats 1000000
set_option linter.unusedSimpArgs false
open Go.RowKit
def Wp (l:List Oper) (S:Nat→Prop):Prop:=∀j o,l[j]? =some o→S j→∀e ∈ o.after,Region.binds .any e=true→S e.on
theorem dg {acc} {o} {i} (h:(mask acc o).testBit i=true):∃e ∈ o.after,Region.binds .any e=true∧(e.on=i∨(acc.getD e.on 0).testBit i=true):=by
 unfold mask at h
 have key:∀ (j:List Edge) (s:Nat),(j.foldl (fun s e=>if Region.binds .any e then s|||(2 ^ e.on|||acc.getD e.on 0) else s) s).testBit i=true→s.testBit i=true∨∃e ∈ j,Region.binds .any e=true∧(e.on=i∨(acc.getD e.on 0).testBit i=true):=by
  intro j
  induction j with
  |nil=>grind
  | cons e j ih=>
   intro s h
   simp only [List.foldl_cons] at h
   rcases ih _ h with h|⟨x,hx,k⟩
   ·split at h
    ·grind
    grind
   grind
 grind
theorem PZ (l:List Oper):∀ (rest:List Oper) (acc:List Nat),l=l.take acc.length++rest→acc.length+rest.length=l.length→
  (∀t,t<acc.length→∀S,Wp l S→(∀o,l[t]? =some o→∀e ∈ o.after,Region.binds .any e=true→S e.on)→∀i,(acc.getD t 0).testBit i=true→S i)→
  ∀t,t<l.length→∀S,Wp l S→(∀o,l[t]? =some o→∀e ∈ o.after,Region.binds .any e=true→S e.on)→∀i,((PN acc rest).getD t 0).testBit i=true→S i
 | [],acc,h1,h2,h,t,u=>by
  grind [PN]
 | o ::rest,acc,h1,h2,h,t,u=>by
  simp only [PN]
  have ho:l[acc.length]? =some o:=by
   rw [h1,List.getElem?_append_right (by rw [List.length_take]; omega)]
   have:acc.length - (l.take acc.length).length =0:=by rw [List.length_take]; simp at h2; omega
   rw [this]; rfl
  refine PZ l rest (acc++[mask acc o]) ?_ (by simp at h2 ⊢; omega) (fun t u S F hd i q=>?_) t u
  ·rw [List.length_append,List.length_singleton,List.take_add_one,ho]
   simp only [Option.toList_some,List.append_assoc,List.singleton_append]
   exact h1
  ·rw [List.length_append,List.length_singleton] at u
   by_cases he:t=acc.length
   ·subst he
    have v:(acc++[mask acc o]).getD acc.length 0=mask acc o:=by simp [List.getD]
    rw [v] at q
    obtain⟨e,I,W,hx⟩:=dg q
    have p:=hd o ho e I W
    rcases hx with rfl|hx
    ·exact p
    ·by_cases j:e.on<acc.length
     ·exact h e.on j S F (fun U G O C J=>F e.on U G p O C J) i hx
     ·simp [List.getD,List.getElem?_eq_none (show acc.length≤e.on by omega)] at hx
   ·have j:t<acc.length:=by omega
    have v:(acc++[mask acc o]).getD t 0=acc.getD t 0:=by simp [List.getD,List.getElem?_append_left j]
    rw [v] at q
    exact h t j S F hd i q
theorem V0 (l:List Oper):∀t,t<l.length→∀S,Wp l S→(∀o,l[t]? =some o→∀e ∈ o.after,Region.binds .any e=true→S e.on)→∀i,((deps l).getD t 0).testBit i=true→S i:=
 PZ l l [] (by simp) (by simp) (fun t j=>by grind)
section
variable {P:Program} {ops:Array Oper} {base:Nat} {V:List (Nat × Nat)}
inductive HS (P:Program) (ops:Array Oper) (base:Nat) (V:List (Nat × Nat)) (i:Nat) (o:Oper) (σ σ':St):Option Res→Prop
 | run (r:Res) (hv:CK V i= .no) (hg:∀j want,o.guard=some (j,want)→∃s,Ie ops j=some s∧σ.g s= .bool want) (hev:Ev P (base+i) o σ.e σ.T σ.B r) (hft:Cq σ r.t) (hfb:EV σ r.b)
   (hs:∀x,σ'.g x=if o.dst=some x then r.v else σ.g x) (ht:σ'.t=addT σ.t r.t) (hb:σ'.b=addB σ.b r.b):HS P ops base V i o σ σ' (some r)
 | skip (j:Nat) (want:Bool) (s:Nat) (hv:CK V i= .no) (hg:o.guard=some (j,want)) (hj:Ie ops j=some s) (hb:σ.g s= .bool (!want)∨σ.g s= .tup [])
   (hs:∀x,σ'.g x=if o.dst=some x then .tup [] else σ.g x) (ht:σ'.t=σ.t) (hb:σ'.b=σ.b):HS P ops base V i o σ σ' none
 | val (t:TypeId) (hv:CK V i= .al) (hop:o.op= .alloc t) (hgn:o.guard=none) (hz:0<(tz P t).length ∧(tz P t).length =tsz P t∧isMp ((tz P t).map zAV)=false)
   (hs:∀x,σ'.g x=if o.dst=some x then .box (base+i) 0 else σ.g x) (ht:σ'.t=σ.t) (hb:σ'.b=σ.b):HS P ops base V i o σ σ' (some ⟨.box (base+i) 0,[],[(base+i,(tz P t).map zAV)]⟩)
 | vst (k:Nat) (t:TypeId) (a x:Operand) (cs:List AV) (hv:CK V i= .st k) (hop:o.op= .store t a x) (hgn:o.guard=none) (hc:cellsOf (σ.e x)=some cs) (h3:cs.length=tsz P t∧0<tsz P t∧cs.all AV.one=true) (ha:σ.e a= .box (base+k) 0)
   (hs:∀x,σ'.g x=if o.dst=some x then .any else σ.g x) (ht:σ'.t=σ.t) (hb:σ'.b=σ.b):HS P ops base V i o σ σ' (some ⟨.any,[],[(base+k,cs)]⟩)
theorem Pa:∀ {V} {i},CK V i= .no →∀p ∈ V,p.1 ≠i∧p.2 ≠i
 | [],_,_,p,hp=>by cases hp
 | (k,j)::V,i,h,p,hp=>by
  unfold CK at h
  split at h
  ·cases h
  ·split at h
   ·cases h
   ·rename_i h1 h2
    rcases List.mem_cons.1 hp with rfl|hp
    ·exact⟨fun e=>h1 e.symm,fun e=>h2 e.symm⟩
    ·exact Pa h p hp
theorem Kd:∀ {V} {i k},CK V i= .st k→(k,i) ∈ V
 | [],_,_,h=>by cases h
 | (k',j)::V,i,k,h=>by
  unfold CK at h
  split at h
  ·cases h
  ·split at h
   ·rename_i e
    cases h; subst e
    exact List.mem_cons_self
   ·exact List.mem_cons_of_mem _ (Kd h)
def bz (P:Program) (ops:Array Oper) (base:Nat) (V:List (Nat × Nat)):Nat→List Oper→St→St→Prop
 |_,[],σ,σ'=>σ=σ'
 |i,o::l,σ,σ'=>∃r σm,HS P ops base V i o σ σm r∧bz P ops base V (i+1) l σm σ'
theorem Pb {σ σ'} (h:σ'.t=σ.t):∀ {l},Cq σ' l→Cq σ l
 | [],_=>trivial
 |(n,tk)::l,hf=>by
  simp only [Cq] at hf ⊢
  exact⟨by rw [← h]; exact hf.1,Pb h hf.2⟩
theorem Pc {σ σ'} (h:σ'.b=σ.b):∀ {l},EV σ' l→EV σ l
 | [],_=>trivial
 |(n,tk)::l,hf=>by
  simp only [EV] at hf ⊢
  exact⟨by rw [← h]; exact hf.1,Pc h hf.2⟩
theorem jf {σ σ':St} (h:∀x,σ'.g x=σ.g x):σ'.e=σ.e:=funext fun x=>by cases x <;> simp [St.e,h]
theorem Ts {pos} {o} {σ} {K} (he:Xw o=false) (h:aop P pos o σ K):∃r,Ev P pos o σ.e σ.T σ.B r∧Cq σ r.t∧EV σ r.b∧K (σ.add o.dst r):=by
 grind [aop,Xw]
theorem cA {L} {pos} {o} {σ} {K} (hL:L=false) (he:OG o=false) (h:TG P L pos o σ K):∃r,Ev P pos o σ.e σ.T σ.B r∧Cq σ r.t∧EV σ r.b∧K (σ.add o.dst r):=by
 rcases h with ⟨hA,h⟩|⟨h,-⟩|⟨-,-,h⟩
 ·grind [Ts,OG]
 ·rw [hL] at h; cases h
 omega
theorem V1 {cut:Nat}:∀ {l1 l2:List Oper} {i:Nat} {σ:St} {K:St→Prop},(∀j,i≤j→j<i+l1.length→CK V j= .no)→(∀o ∈ l1,OG o=false)→i+l1.length≤cut→aops P ops base cut i (l1++l2) σ K→∃σ',bz P ops base V i l1 σ σ'∧aops P ops base cut (i+l1.length) l2 σ' K
 | [],l2,i,σ,K,_,_,_,h=>⟨σ,rfl,h⟩
 | o ::l1,l2,i,σ,K,hv,he,hcut,h=>by
  rw [List.length_cons] at hcut
  have q:CK V i= .no :=hv i (Nat.le_refl _) (by rw [List.length_cons]; omega)
  have I:decide (cut≤i)=false:=by grind
  have F:=he o (by simp)
  rw [List.cons_append] at h
  unfold aops at h
  have next:∀σm r,HS P ops base V i o σ σm r→aops P ops base cut (i+1) (l1++l2) σm K→∃σ',bz P ops base V i (o::l1) σ σ'∧aops P ops base cut (i+(o::l1).length) l2 σ' K:=fun σm r hs hm=>by
   obtain⟨σ',h1,h2⟩:=V1 (fun j h1 h2=>hv j (by omega) (by rw [List.length_cons]; omega)) (fun o ho=>he o (by grind)) (by omega) hm
   exact⟨σ',⟨r,σm,hs,h1⟩,by rw [List.length_cons,show i+(l1.length+1)=i+1+l1.length from by omega]; exact h2⟩
  split at h
  ·rename_i hg
   obtain⟨r,h1,h2,h3,J⟩:=cA I F h
   refine next _ _ (.run r q (fun j p e=>by rw [hg] at e; cases e) h1 h2 h3 (fun x=>?_) rfl rfl) J
   have:(σ.add o.dst r).g x=(σ.put o.dst r.v).g x:=rfl
   rw [this,St.g_put]
  ·rename_i j p hg
   obtain⟨s,hj,h⟩:=h
   rcases h with ⟨b,hb,h1,h2⟩|⟨hb,h2⟩
   case inr=>
    refine next _ _ (.skip j p s q hg hj (.inr hb) (fun x=>by rw [St.g_put]) ?_ ?_) h2
    ·cases o.dst <;> rfl
    ·cases o.dst <;> rfl
   case inl=>
    have u:∀c,b=c→∀x,(σ.put (some s) (.bool c)).g x=σ.g x:=fun c e x=>by
     grind [St.g_put]
    by_cases hbw:b=p
    ·obtain⟨r,k1,k2,k3,k4⟩:=cA I F (h1 hbw)
     have hp:=u p hbw
     rw [jf hp] at k1
     refine next _ _ (.run r q (fun O G e=>?_) k1 (Pb (σ:=σ) (σ':=σ.put (some s) (.bool p)) rfl k2) (Pc (σ:=σ) (σ':=σ.put (some s) (.bool p)) rfl k3) (fun x=>?_) rfl rfl) k4
     ·rw [hg] at e; grind
     ·have:((σ.put (some s) (.bool p)).add o.dst r).g x=((σ.put (some s) (.bool p)).put o.dst r.v).g x:=rfl
      rw [this,St.g_put,hp]
    ·have C:b= !p:=by cases b <;> cases p <;> simp_all
     have hp:=u (!p) C
     refine next _ _ (.skip j p s q hg hj (.inl (by rw [hb,C])) (fun x=>by rw [St.g_put,hp]) ?_ ?_) (h2 C)
     ·cases o.dst <;> rfl
     ·cases o.dst <;> rfl
end
section
variable {P:Program} {ops:Array Oper} {base:Nat} {V:List (Nat × Nat)} {l:List Oper} {hd:Nat→Bool} {f:Nat→St} {r:Nat→Option Res}
structure Run (P:Program) (ops:Array Oper) (base:Nat) (V:List (Nat × Nat)) (l:List Oper) (n:Nat) (hd:Nat→Bool) (f:Nat→St) (r:Nat→Option Res):Prop where
 st:∀i o,i<n→hd i=true→l[i]? =some o→HS P ops base V i o (f i) (f (i+1)) (r i)
 sk:∀i,i<n→hd i=false→f (i+1)=f i
 le:n≤l.length
 un:∀i j o o' d,i<n→j<n→hd i=true→hd j=true→l[i]? =some o→l[j]? =some o'→o.dst=some d→o'.dst=some d→i=j
 vp:∀p ∈ V,p.1 <n∧p.2 <n∧hd p.1 =true∧hd p.2 =true∧CK V p.1 = .al ∧CK V p.2 = .st p.1 ∧look (f n).b (base+p.1)=none∧((deps l).getD p.2 0).testBit p.1 =true∧∃o o' t a x,l[p.1]? =some o∧l[p.2]? =some o'∧o.op= .alloc t∧o'.op= .store t a x
 vn:∀p ∈ V,∀q ∈ V,p.1 =q.1 ↔p.2 =q.2
variable {n:Nat} (R:Run P ops base V l n hd f r)
include R
theorem Run.op {i} (hi:i<n):∃o,l[i]? =some o:=⟨l[i]'(by have:=R.le; omega),List.getElem?_eq_getElem _⟩
theorem Run.g_step {i} (hi:i<n) {o} (ho:l[i]? =some o) (x:Nat) (hx:hd i=true→o.dst≠some x):(f (i+1)).g x=(f i).g x:=by
 cases hh:hd i with
 |false=>rw [R.sk i hi hh]
 |true=>
 have hx:=hx hh
 have p:=R.st i o hi hh ho
 generalize r i=ri at p
 cases p with
 |run rr hv hg hev hft hfb hs ht hb=>rw [hs,if_neg hx]
 |skip j want s hv hg hj hb hs ht hb'=>rw [hs,if_neg hx]
 |val t hv hop hgn hz hs ht hb=>rw [hs,if_neg hx]
 |vst k t a y cs hv hop hgn hc h3 ha hs ht hb=>rw [hs,if_neg hx]
theorem Run.look_t {i} (hi:i<n) {x} {y} (h:look (f i).t x=some y):look (f (i+1)).t x=some y:=by
 obtain⟨o,ho⟩:=R.op hi
 cases hh:hd i with
 |false=>rw [R.sk i hi hh]; exact h
 |true=>
 have p:=R.st i o hi hh ho
 generalize r i=ri at p
 cases p with
 | run rr hv hg hev hft hfb hs ht hb=>
  rw [ht,PW]
  ·exact h
  ·intro z hz e
   grind [Fx]
 |skip j want s hv hg hj hb hs ht hb'=>rw [ht]; exact h
 |val t hv hop hgn hz hs ht hb=>rw [ht]; exact h
 |vst k t a y cs hv hop hgn hc h3 ha hs ht hb=>rw [ht]; exact h
theorem Run.look_b {i} (hi:i<n) {x} {y} (h:look (f i).b x=some y):look (f (i+1)).b x=some y:=by
 obtain⟨o,ho⟩:=R.op hi
 cases hh:hd i with
 |false=>rw [R.sk i hi hh]; exact h
 |true=>
 have p:=R.st i o hi hh ho
 generalize r i=ri at p
 cases p with
 | run rr hv hg hev hft hfb hs ht hb=>
  rw [hb,PX]
  ·exact h
  ·intro z hz e
   grind [E5]
 |skip j want s hv hg hj hb hs ht hb'=>rw [hb']; exact h
 |val t hv hop hgn hz hs ht hb=>rw [hb]; exact h
 |vst k t a y cs hv hop hgn hc h3 ha hs ht hb=>rw [hb]; exact h
theorem Run.look_t':∀ {k i},i+k≤n→∀ {x} {y},look (f i).t x=some y→look (f (i+k)).t x=some y
 |0,i,_,x,y,h=>h
 |k+1,i,hk,x,y,h=>R.look_t (i:=i+k) (by omega) (Run.look_t' (k:=k) (by omega) h)
theorem Run.look_b':∀ {k i},i+k≤n→∀ {x} {y},look (f i).b x=some y→look (f (i+k)).b x=some y
 |0,i,_,x,y,h=>h
 |k+1,i,hk,x,y,h=>R.look_b (i:=i+k) (by omega) (Run.look_b' (k:=k) (by omega) h)
theorem Run.look_te {i j} (hij:i≤j) (hj:j≤n) {x} {y} (h:look (f i).t x=some y):look (f j).t x=some y:=by
 have:=R.look_t' (k:=j - i) (i:=i) (by omega) h
 rwa [show i+(j - i)=j from by omega] at this
theorem Run.look_be {i j} (hij:i≤j) (hj:j≤n) {x} {y} (h:look (f i).b x=some y):look (f j).b x=some y:=by
 have:=R.look_b' (k:=j - i) (i:=i) (by omega) h
 rwa [show i+(j - i)=j from by omega] at this
theorem Run.g_same:∀ {k i},i+k≤n→∀ {x},(∀j o,i≤j→j<i+k→hd j=true→l[j]? =some o→o.dst≠some x)→(f (i+k)).g x=(f i).g x
 |0,i,_,x,h=>rfl
 |k+1,i,hk,x,h=>by
  obtain⟨o,ho⟩:=R.op (i:=i+k) (by omega)
  have h1:=R.g_step (i:=i+k) (by omega) ho x (fun p=>h (i+k) o (by omega) (by omega) p ho)
  rw [show i+(k+1)=i+k+1 from by omega,h1]
  exact Run.g_same (k:=k) (by omega) fun j o hj q=>h j o hj (by omega)
theorem Run.g_final {i} (hi:i<n) (hh:hd i=true) {o} (ho:l[i]? =some o) {x} (hx:o.dst=some x) {j} (hj:i<j) (hjn:j≤n):(f j).g x=(f (i+1)).g x:=by
 have:=R.g_same (k:=j - (i+1)) (i:=i+1) (by omega) (x:=x) fun v C h1 h2 p q u=>by
  have:=R.un i v o C x hi (by omega) hh p ho q hx u
  omega
 rwa [show i+1+(j - (i+1))=j from by omega] at this
end
def cC (ops:Array Oper) (n:Nat) (hd:Nat→Bool):Prop:=∀i j x y,i<n→hd i=true→hd j=true→j<i→ops.toList[i]? =some x→ops.toList[j]? =some y→
 (∀d,x.dst=some d→y.dst≠some d)∧(VW ops x y=true→((deps ops.toList).getD i 0).testBit j=true)
section
variable {P:Program} {ops:Array Oper} {base:Nat} {V:List (Nat × Nat)}
theorem V2:∀ (l:List Oper) (E:List Bool) (i:Nat) (ts:List (Nat × Oper)) (acc:List (Nat × List AV)) (σ:St) (K:List (Nat × Oper)→List (Nat × List AV)→St→Prop),FS P ops base V E i l ts acc σ K→(∀j o,l[j]? =some o→E.getD j false=false→CK V (i+j)= .no →OG o=false)→(∀j o,l[j]? =some o→E.getD j false=false→CK V (i+j)≠ .no →o.guard=none)→
  ∃ (f:Nat→St) (r:Nat→Option Res) (u:List (Nat × Oper)) (p:List (Nat × List AV)),f i=σ∧K u p (f (i+l.length))∧(∀j o,l[j]? =some o→(E.getD j false=true→f (i+j+1)=f (i+j))∧(E.getD j false=false→HS P ops base V (i+j) o (f (i+j)) (f (i+j+1)) (r (i+j))))∧
   (∀k o,look u k=some o→look ts k=some o∨∃j,k=i+j∧l[j]? =some o)∧
   (∀x ∈ p,x ∈ acc∨∃j k,CK V (i+j)= .st k∧x.1 =base+k∧r (i+j)=some ⟨.any,[],[x]⟩)∧(∀x ∈ acc,x ∈ p)∧∀j k,j<l.length→E.getD j false=false→CK V (i+j)= .st k→∃x ∈ p,x.1 =base+k
 | [],E,i,ts,acc,σ,K,h,_,_=>⟨fun _=>σ,fun _=>none,ts,acc,rfl,by grind [FS],fun j o h=>by grind,fun k o h=>.inl h,fun x hx=>.inl hx,fun x hx=>hx,fun j k h=>by grind⟩
 | o ::l,E,i,ts,acc,σ,K,h,he,hgn=>by
  have done:∀ (F:List Bool) (I:List (Nat × Oper)) (v:List (Nat × List AV)) (σ1:St) (U:Option Res),FS P ops base V F (i+1) l I v σ1 K→(∀j,F.getD j false=E.getD (j+1) false)→(E.getD 0 false=true→σ1=σ)→(E.getD 0 false=false→HS P ops base V i o σ σ1 U)→
    (∀k q,look I k=some q→look ts k=some q∨(k=i∧q=o))→(∀x ∈ v,x ∈ acc∨∃k,CK V i= .st k∧x.1 =base+k∧U=some ⟨.any,[],[x]⟩)→(∀x ∈ acc,x ∈ v)→(∀k,E.getD 0 false=false→CK V i= .st k→∃x ∈ v,x.1 =base+k)→
    ∃ (f:Nat→St) (r:Nat→Option Res) (u:List (Nat × Oper)) (p:List (Nat × List AV)),f i=σ∧K u p (f (i+(o::l).length))∧(∀j q,(o::l)[j]? =some q→(E.getD j false=true→f (i+j+1)=f (i+j))∧(E.getD j false=false→HS P ops base V (i+j) q (f (i+j)) (f (i+j+1)) (r (i+j))))∧
     (∀k q,look u k=some q→look ts k=some q∨∃j,k=i+j∧(o::l)[j]? =some q)∧
     (∀x ∈ p,x ∈ acc∨∃j k,CK V (i+j)= .st k∧x.1 =base+k∧r (i+j)=some ⟨.any,[],[x]⟩)∧(∀x ∈ acc,x ∈ p)∧∀j k,j<(o::l).length →E.getD j false=false→CK V (i+j)= .st k→∃x ∈ p,x.1 =base+k:=by
   intro F I v σ1 U h1 O h2 h3 h4 h5 h6 h7
   obtain⟨f,r,u,p,k1,k2,k3,k4,k5,k6,k7⟩:=V2 l F (i+1) I v σ1 K h1 (fun j q Y hj hv=>he (j+1) q (by grind) (by rw [← O]; exact hj) (by rw [show i+(j+1)=i+1+j from by omega]; exact hv)) fun j q Y hj hv=>hgn (j+1) q (by grind) (by rw [← O]; exact hj) (by rw [show i+(j+1)=i+1+j from by omega]; exact hv)
   refine⟨fun x=>if x=i then σ else f x,fun x=>if x=i then U else r x,u,p,by simp,?_,fun j q Y=>?_,fun k q hk=>?_,fun x hx=>?_,fun x hx=>k6 x (h6 x hx),fun j k hj hEj hv=>?_⟩
   ·grind
   ·cases j with
    |zero=>
     grind
    |succ j=>
     grind
   ·rcases k4 k q hk with h|⟨j,h5,h6⟩
    ·rcases h4 k q h with h|⟨h,h'⟩
     ·grind
     simp_all
    ·exact .inr ⟨j+1,by omega,by grind⟩
   ·rcases k5 x hx with h|⟨j,k,e1,e2,e3⟩
    ·rcases h5 x h with h|⟨k,e1,e2,e3⟩
     ·grind
     ·exact .inr ⟨0,k,e1,e2,by grind⟩
    ·refine .inr ⟨j+1,k,by rw [show i+(j+1)=i+1+j from by omega]; exact e1,e2,?_⟩
     grind
   ·cases j with
    |zero=>
     grind
    |succ j=>grind
  have run:∀ (F:List Bool),MQ P ops base (CK V i) i o acc σ (fun p σ'=>FS P ops base V F (i+1) l ts p σ' K)→(∀j,F.getD j false=E.getD (j+1) false)→E.getD 0 false=false→∃ (f:Nat→St) (r:Nat→Option Res) (u:List (Nat × Oper)) (p:List (Nat × List AV)),f i=σ∧K u p (f (i+(o::l).length))∧(∀j q,(o::l)[j]? =some q→(E.getD j false=true→f (i+j+1)=f (i+j))∧(E.getD j false=false→HS P ops base V (i+j) q (f (i+j)) (f (i+j+1)) (r (i+j))))∧
     (∀k q,look u k=some q→look ts k=some q∨∃j,k=i+j∧(o::l)[j]? =some q)∧
     (∀x ∈ p,x ∈ acc∨∃j k,CK V (i+j)= .st k∧x.1 =base+k∧r (i+j)=some ⟨.any,[],[x]⟩)∧(∀x ∈ acc,x ∈ p)∧∀j k,j<(o::l).length →E.getD j false=false→CK V (i+j)= .st k→∃x ∈ p,x.1 =base+k:=by
   intro F h1 O G
   have C:CK V i≠ .no →o.guard=none:=fun hv=>hgn 0 o rfl G (by rw [Nat.add_zero]; exact hv)
   have W:CK V i= .no →OG o=false:=fun hv=>he 0 o rfl G (by rw [Nat.add_zero]; exact hv)
   generalize hvr:CK V i=vr at h1 C W
   cases vr with
   | no=>
    have heo:=W rfl
    simp only [MQ] at h1
    obtain⟨σ',⟨U,σm,hs,hm⟩,h2⟩:=V1 (V:=V) (cut:=i+1) (l1:=[o]) (l2:=[]) (i:=i) (fun j h1 h2=>by
     have:j=i:=by grind
     rw [this,hvr]) (by grind) (by simp) (by simpa using h1)
    simp only [bz] at hm
    subst hm
    simp only [aops] at h2
    exact done F ts acc σm U h2 O (fun h=>by rw [G] at h; cases h) (fun _=>hs) (fun k q h=>.inl h) (fun x hx=>.inl hx) (fun x hx=>hx) fun k _ h=>by rw [hvr] at h; cases h
   | al=>
    simp only [MQ] at h1
    split at h1
    ·rename_i t J
     exact done F ts acc _ _ h1.2 O (fun h=>by rw [G] at h; cases h) (fun _=>.val t hvr J (C (by simp)) h1.1 (fun x=>by rw [St.g_put]) (by cases o.dst <;> rfl) (by cases o.dst <;> rfl)) (fun k q h=>.inl h) (fun x hx=>.inl hx) (fun x hx=>hx) fun k _ h=>by rw [hvr] at h; cases h
    grind
   | st k0=>
    simp only [MQ] at h1
    split at h1
    ·rename_i t a x J
     split at h1
     ·rename_i cs hcs
      obtain⟨h31,h32,h33⟩:=h1
      refine done F ts _ _ _ h33 O (fun h=>by rw [G] at h; cases h) (fun _=>.vst k0 t a x cs hvr J (C (by simp)) hcs h31 h32 (fun x=>by rw [St.g_put]) (by cases o.dst <;> rfl) (by cases o.dst <;> rfl)) (fun k q h=>.inl h) (fun y hy=>?_) (fun y hy=>List.mem_cons_of_mem _ hy) fun k _ h=>⟨_,List.mem_cons_self,?_⟩
      ·grind
      grind
     grind
    grind
  cases E with
  |nil=>
   simp only [FS] at h
   exact run [] h (fun j=>by simp) (by simp)
  | cons b E=>
   cases b with
   |true=>
    simp only [FS] at h
    refine done E ((i,o)::ts) acc σ none h (fun j=>by simp) (fun _=>rfl) (fun h=>by grind) (fun k q hk=>?_) (fun x hx=>.inl hx) (fun x hx=>hx) fun k h=>by grind
    rw [AJ] at hk
    grind
   |false=>
    simp only [FS] at h
    exact run E h (fun j=>by simp) (by simp)
end
theorem YU {E} {V} {l} {m} (h:vOk E V l m=true):(∀p ∈ V,(m.getD p.2 0).testBit p.1 =true∧E.getD p.1 false=false∧E.getD p.2 false=false∧∃o j t a x,l[p.1]? =some o∧l[p.2]? =some j∧o.guard=none∧j.guard=none∧o.op= .alloc t∧j.op= .store t a x)∧∀p ∈ V,∀q ∈ V,p.1 =q.1 ↔p.2 =q.2 :=by
 unfold vOk at h
 rw [Bool.and_eq_true,List.all_eq_true,List.all_eq_true] at h
 refine⟨fun p hp=>?_,fun p hp q F=>?_⟩
 ·have h1:=h.1 p hp
  rw [Bool.and_eq_true,Bool.and_eq_true,Bool.and_eq_true,Bool.not_eq_true',Bool.not_eq_true'] at h1
  refine⟨h1.1.1.1,h1.1.1.2,h1.1.2,?_⟩
  have h2:=h1.2
  split at h2
  ·rename_i o j ho v
   rw [Bool.and_eq_true,Bool.and_eq_true] at h2
   have h3:=h2.2
   split at h3
   ·rename_i t t' a x C u
    have:t=t':=by grind
    subst this
    exact⟨o,j,t,a,x,ho,v,by simpa using h2.1.1,by simpa using h2.1.2,C,u⟩
   grind
  grind
 grind
theorem gG {E} {V} {l} {m} (h:vOk E V l m=true):∀p ∈ V,CK V p.1 = .al ∧CK V p.2 = .st p.1 :=by
 obtain⟨h1,h2⟩:=YU h
 have key:∀ (W:List (Nat × Nat)),(∀q ∈ W,q ∈ V)→∀p ∈ W,CK W p.1 = .al ∧CK W p.2 = .st p.1 :=by
  intro W
  induction W with
  |nil=>grind
  |cons q W ih=>
   grind [CK]
 exact key V fun q j=>j
theorem Tt {E} {V} {tr} {ops} (h:LN E V tr ops=true):
  (∀i o,ops.toList[i]? =some o→∀e ∈ o.after,Region.binds .any e=true→e.on<i)∧
  (∀i o,ops.toList[i]? =some o→E.getD i false=false→(CK V i= .no →OG o=false)∧∀e ∈ o.after,Region.binds .any e=true→E.getD e.on false=false)∧
  cC ops ops.size (fun i=> !E.getD i false)∧
  (∀t j,t<ops.size→j<ops.size→E.getD t false=true→E.getD j false=false→((deps ops.toList).getD t 0).testBit j=true∨late ops.toList (deps ops.toList) j=true)∧
  Uy ops.toList (deps ops.toList) tr ((List.range ops.toList.length).filter fun i=> !E.getD i false)=true∧vOk E V ops.toList (deps ops.toList)=true:=by
 unfold LN at h
 simp only [Bool.and_eq_true,List.all_eq_true] at h
 obtain⟨⟨⟨⟨⟨h1,h2⟩,h3⟩,h4⟩,F⟩,J⟩:=h
 refine⟨fun i o ho e G O=>?_,fun i o ho v=>?_,fun i j x y I u q hj hx hy=>?_,fun t j W hj v C=>?_,F,J⟩
 ·have:=h1 (o,i) (by rw [List.mem_zipIdx_iff_getElem?]; exact ho)
  grind [Array.all_eq_true_iff_forall_mem]
 ·have:=h2 (o,i) (by rw [List.mem_zipIdx_iff_getElem?]; exact ho)
  simp only [v,Bool.false_or,Bool.and_eq_true,Bool.or_eq_true,Bool.not_eq_true',Array.all_eq_true_iff_forall_mem] at this
  refine⟨fun hv=>?_,fun e G O=>?_⟩
  ·rcases this.1 with h|h
   ·exact h
   ·rw [List.any_eq_true] at h
    obtain⟨p,hp,U⟩:=h
    grind [Pa]
  grind
 ·have:=h3 i (List.mem_range.2 (by rw [Array.length_toList]; exact I))
  simp only [Bool.not_eq_true'] at u q
  simp only [u,Bool.false_or,List.all_eq_true] at this
  have:=this j (List.mem_range.2 hj)
  rw [q,hx,hy] at this
  simp only [Bool.false_or,Bool.and_eq_true,Bool.or_eq_true,Bool.not_eq_true'] at this
  refine⟨fun d hd Y=>?_,fun W=>?_⟩
  ·grind
  grind
 grind
def Ind {α:Type} (P:Program) (s:Sem α):Prop:=(∃v,∀w,s.run P w= .ok v w)∨∀w,∃h w1,s.run P w= .halt h w1
theorem Ind.ok {α:Type} {P} (x:α):Ind P (pure x:Sem α):=.inl ⟨x,fun w=>by simp⟩
theorem Ind.stop {α:Type} {P} (h:Halt):Ind P (.halt h:Sem α):=.inr fun w=>⟨h,w,rfl⟩
theorem Ind.bind {α β:Type} {P:Program} {s:Sem α} {k:α→Sem β} (h:Ind P s) (hk:∀a,Ind P (k a)):Ind P (s >>= k):=by
 rcases h with ⟨v,h⟩|h
 ·rcases hk v with ⟨u,h'⟩|h'
  ·exact .inl ⟨u,fun w=>by rw [Sem.run_bind,h]; exact h' w⟩
  ·refine .inr fun w=>?_
   simp_all
 ·refine .inr fun w=>?_
  obtain⟨x,w1,e⟩:=h w
  simp_all
def YV {α:Type} (P:Program) (s:Sem α):Prop:=∀w,∃h w1,s.run P w= .halt h w1
theorem YV.ind {α:Type} {P:Program} {s:Sem α} (h:YV P s):Ind P s:=.inr h
theorem YV.bind {α β:Type} {P:Program} {s:Sem α} {k:α→Sem β} (hk:∀a,YV P (k a)):YV P (s >>= k):=fun w=>by
 rw [Sem.run_bind]
 cases s.run P w with
 |ok a w'=>exact hk a w'
 |halt h w'=>simp_all
theorem Fz {P:Program} (t:TypeId):Ind P (underlying t):=by
 unfold underlying
 refine Ind.bind (.inl ⟨P,fun w=>by rfl⟩) fun p=>?_
 cases p.underlying t with
 |none=>exact Ind.stop _
 |some d=>exact Ind.ok d
theorem Mb {P:Program} (t:TypeId):Ind P (sizeOf t):=by
 unfold sizeOf typeInfo
 refine Ind.bind (Ind.bind (.inl ⟨P,fun w=>by rfl⟩) fun p=>?_) fun i=>Ind.ok _
 cases p.info? t with
 |none=>exact Ind.stop _
 |some d=>exact Ind.ok d
theorem Gt {α:Type} {P:Program} (k:IntKind) (x y:Int) (c:BoundsCode):YV P (boundsPanic k x y c:Sem α):=by
 unfold boundsPanic
 dsimp only
 split
 all_goals
  refine YV.bind fun b=>?_
  unfold runtimePanic
  refine YV.bind fun p=>fun w=>?_
  exact⟨_,w,rfl⟩
theorem gH {P} (x:Value):Ind P (Instr.sureAddr x):=by
 unfold Instr.sureAddr
 split
 ·exact Ind.ok _
 ·exact Ind.stop _
theorem dh {P} {s} {k} {q} (hq:fOff P s k=some q) (hz:0<tsz P q.2) (g o:Nat) (w:World):(Instr.fieldAt s (.pointer (some ⟨g,o,none⟩)) k).run P w= .ok (.pointer (some ⟨g,o+q.1,none⟩)) w:=by
 unfold fOff at hq
 split at hq
 ·rename_i fs j
  obtain⟨v,u,rfl⟩:=bW j
  rw [List.getElem?_map,Array.getElem?_toList] at hq
  cases hg:v[k]? with
  |none=>grind
  |some fd=>
   simp only [hg,Option.map_some,Option.some.injEq] at hq
   subst hq
   have p:tsz P fd.type≠0:=by grind
   simp_all [Instr.fieldAt,run_underlying,Instr.sureAddr,fieldPlace,C7,Addr.add_lit]
 grind
theorem di {P:Program} (t:TypeId) (x i:Value):Ind P (Instr.indexAt t x i):=by
 unfold Instr.indexAt
 refine Ind.bind ?_ fun q=>?_
 ·unfold asIntOf
  split
  ·exact Ind.ok _
  ·exact Ind.stop _
  ·exact Ind.stop _
 obtain⟨k,i⟩:=q
 dsimp only
 refine Ind.bind (Fz t) fun d=>?_
 split
 ·refine Ind.bind (gH _) fun a=>Ind.bind (Ind.ok _) fun p=>Ind.bind (Fz t) fun j=>?_
  split
  ·split
   ·grind [Ind.bind,Mb,Ind.ok]
   ·split <;> (split <;> first|exact Ind.stop _|exact(Gt _ _ _ _).ind)
  ·exact(Gt _ _ _ _).ind
 ·refine Ind.bind (Ind.ok _) fun p=>Ind.bind (Fz t) fun j=>?_
  split
  ·split
   ·grind [Ind.bind,Mb,Ind.ok]
   ·split <;> (split <;> first|exact Ind.stop _|exact(Gt _ _ _ _).ind)
  ·exact(Gt _ _ _ _).ind
 ·refine Ind.bind (Ind.stop _) fun p=>Ind.bind (Fz t) fun j=>?_
  split
  ·split
   ·grind [Ind.bind,Mb,Ind.ok]
   ·split <;> (split <;> first|exact Ind.stop _|exact(Gt _ _ _ _).ind)
  ·exact(Gt _ _ _ _).ind
theorem gI {P:Program} (t:TypeId):Ind P (typeInfo t):=by
 unfold typeInfo
 refine Ind.bind (.inl ⟨P,fun w=>by rfl⟩) fun p=>?_
 cases p.info? t with
 |none=>exact Ind.stop _
 |some d=>exact Ind.ok d
theorem gJ {P:Program} (t:TypeId):Ind P (zeroValue t):=by
 unfold zeroValue
 refine Ind.bind (gI t) fun i=>?_
 cases i.zero with
 |none=>exact Ind.stop _
 |some z=>exact Ind.ok z
theorem YW {α β:Type} {P:Program} {g:α→Sem β} (h:∀x,Ind P (g x)):∀l:List α,Ind P (l.mapM g)
 | [] =>by rw [List.mapM_nil]; exact Ind.ok _
 |x::l=>by
  rw [List.mapM_cons]
  exact Ind.bind (h x) fun y=>Ind.bind (YW h l) fun j=>Ind.ok _
theorem dj {P:Program} (t:TypeId) (ps:Array (Nat × Value)):Ind P (Instr.build t ps):=by
 unfold Instr.build
 refine Ind.bind (gJ t) fun z=>Ind.bind (Fz t) fun d=>?_
 split
 ·refine Ind.bind ?_ fun pl=>?_
  ·rw [Array.mapM_eq_mapM_toList,map_eq_pure_bind]
   grind [Ind.bind,YW,Mb,Ind.ok]
  ·split
   ·exact Ind.ok _
   ·exact Ind.stop _
 ·refine Ind.bind (Mb _) fun n=>?_
  split
  ·exact Ind.ok _
  ·exact Ind.stop _
 ·exact Ind.stop _
def Qu (P:Program) (o:Oper) (a:Act):Prop:=(∃u,∀w,(execOp a.eval o).run P w= .ok (.value u) w)∨∀w,∃h w1,(execOp a.eval o).run P w= .halt h w1
theorem Nb {P} {o} {a} {s} (he:execOp a.eval o=s >>= fun x=>pure (.value x)) (h:Ind P s):Qu P o a:=by
 unfold Qu
 rw [he]
 rcases h with ⟨v,h⟩|h
 ·simp_all
 ·refine .inr fun w=>?_
  obtain⟨x,w1,e⟩:=h w
  simp_all
theorem bin_det {P} {op} {t} {x y v} (h:Bin P op t x y v) (hop:op= .add ∨op= .sub):(∃k n,v= .int k n)∨∃s,v= .str s:=by
 rcases hop with rfl|rfl
 all_goals
  unfold Bin at h
  split at h <;> simp_all [Lx]
  all_goals exact .inl ⟨_,_,h.2.symm⟩
theorem YX {cx:Cx} {γ:Gh} {op:BinOp} {t yt:TypeId} {x y:Operand} {ex ey v:AV} {a:Act} {dst:Option Tmp} {ty:TypeId} {ps:String} {after:Array Edge} {guard:Option (Nat × Bool)} (hx:VSim γ.vw γ ex (a.eval x)) (hy:VSim γ.vw γ ey (a.eval y)) (h:Bin cx.P op t ex ey v) (hop:op= .add ∨op= .sub):
  Qu cx.P ⟨dst,.binOp op t x y yt,ty,ps,after,guard⟩ a:=by
 have p:∃u,∀j,VSim γ.vw γ v j→j=u:=by
  rcases bin_det h hop with ⟨k,n,rfl⟩|⟨s,rfl⟩
  ·exact⟨_,fun j h=>by simp only [VSim] at h; exact h.1⟩
  ·exact⟨_,fun j h=>by simp only [VSim] at h; exact h.1⟩
 obtain⟨u,p⟩:=p
 refine .inl ⟨u,fun w=>?_⟩
 obtain⟨q,h2,h3⟩:=VZ (cx:=cx) (w:=w) (ox:=x) (oy:=y) hx hy h
 rw [← p q h3]
 simp only [execOp,Sem.run_bind] at h2 ⊢
 rw [h2]; rfl
theorem Pd {cx:Cx} {N:Nat} {γ:Gh} {T:Nat→Option Tok} {B:Nat→Option (List AV)} {pos:Nat} {o:Oper} {e:Operand→AV} {a:Act} {r:Res} (hsf:KE o=true) (hev:Ev cx.P pos o e T B r) (hop:∀x ∈ o.op.operands,VSim γ.vw γ (e x) (a.eval x)):Qu cx.P o a:=by
 obtain⟨dst,op,ty,v,after,j⟩:=o
 unfold KE at hsf
 unfold Ev at hev
 dsimp only at hev hop hsf
 split at hsf
 ·rename_i x; exact .inl ⟨a.eval x,fun w=>by rfl⟩
 ·rename_i x; exact .inl ⟨a.eval x,fun w=>by rfl⟩
 · -- extract
  rename_i x k
  refine Nb (s:=Instr.extract (a.eval x) k) rfl ?_
  unfold Instr.extract
  split
  ·split
   ·exact Ind.ok _
   ·exact Ind.stop _
  ·exact Ind.stop _
 · -- fieldAddr
  rename_i s x f
  have h1:=hop x (by simp [Op.operands])
  have fin:∀g o q,a.eval x= .pointer (some ⟨g,o,none⟩)→fOff cx.P s f=some q→0<tsz cx.P q.2 →Qu cx.P ⟨dst,.fieldAddr s x f,ty,v,after,j⟩ a:=fun g o q hx p hz=>
   Nb (s:=Instr.fieldAt s (a.eval x) f) rfl (.inl ⟨_,fun w=>by rw [hx]; exact dh p hz g o w⟩)
  grind [VSim]
 · -- indexAddr
  rename_i t x i
  exact Nb (s:=Instr.indexAt t (a.eval x) (a.eval i)) rfl (di _ _ _)
 · -- build
  rename_i t parts
  exact Nb (s:=Instr.build t (parts.map fun (i,x)=>(i,a.eval x))) rfl (dj _ _)
 · -- add, sub
  grind [YX,Op.operands]
 ·grind [YX,Op.operands]
 · -- pick
  rename_i c x y
  obtain⟨t,u,-⟩:=hev
  have h1:=hop c (by simp [Op.operands])
  rw [u] at h1
  simp only [VSim] at h1
  exact .inl ⟨if t then a.eval x else a.eval y,fun w=>by cases t <;> simp [execOp,h1,asBool]⟩
 grind
theorem Pe {listed:Array Bool} {i:Nat} (hi:i<listed.size) (h:listed.getD i true=false):((listed.setIfInBounds i true).toList.count false)+1=listed.toList.count false:=by
 have j:listed.toList[i]? =some false:=by
  rw [Array.getElem?_toList,Array.getElem?_eq_getElem hi]
  rw [Array.getD_eq_getD_getElem?,Array.getElem?_eq_getElem hi] at h
  grind
 grind
theorem YY {listed:Array Bool} (h:listed.toList.count false=0) {i:Nat} (hi:i<listed.size):listed.getD i true=true:=by
 rw [Array.getD_eq_getD_getElem?,Array.getElem?_eq_getElem hi,Option.getD_some]
 grind [List.count_eq_zero]
theorem jg {listed:Array Bool} (h:0<listed.toList.count false):∃i,i<listed.size∧listed.getD i true=false:=by
 have:=List.count_pos_iff.1 h
 obtain⟨i,j,hx⟩:=List.getElem_of_mem this
 refine⟨i,by omega,?_⟩
 rw [Array.getD_eq_getD_getElem?,← Array.getElem?_toList,List.getElem?_eq_getElem j,hx]; rfl
section
variable {cx:Cx} {N:Nat} {ops:Array Oper}
structure Lst (ops:Array Oper) (listed:Array Bool):Prop where
 size:listed.size=ops.size
 closed:Wp ops.toList fun j=>listed.getD j false=true
theorem Lst.set {listed} (h:Lst ops listed) {i} (hr:i ∈ Region.ready .any ops listed):Lst ops (listed.setIfInBounds i true):=by
 obtain⟨G,o,ho,q⟩:=mem_ready.1 hr
 refine⟨by simp [h.size],fun j F hj C e u v=>?_⟩
 by_cases hij:i=j
 ·grind [getD_set_true]
 ·have p:(listed.setIfInBounds i true).getD j false=true:=C
  rw [getD_set_ne false hij] at p
  exact getD_set_true (h.closed j F hj p e u v)
theorem Lst.far {listed} (h:Lst ops listed) {i} (hr:i ∈ Region.ready .any ops listed) {j} (hj:((deps ops.toList).getD i 0).testBit j=true):listed.getD j false=true:=by
 obtain⟨C,o,ho,q⟩:=mem_ready.1 hr
 have u:i<ops.toList.length:=by rw [Array.length_toList]; grind
 exact V0 ops.toList i u _ h.closed (fun F p e v G=>by
  rw [Array.getElem?_toList,ho] at p; grind) j hj
theorem Lst.far' {listed} (h:Lst ops listed) {i} (hi:i<ops.size) (hl:listed.getD i false=true) {j} (hj:((deps ops.toList).getD i 0).testBit j=true):listed.getD j false=true:=by
 have q:i<ops.toList.length:=by rw [Array.length_toList]; exact hi
 exact V0 ops.toList i q _ h.closed (fun v p e u C=>h.closed i v p hl e u C) j hj
theorem Lst.some_ready (hon:∀i o,ops.toList[i]? =some o→∀e ∈ o.after,Region.binds .any e=true→e.on<i) {listed:Array Bool} (h:Lst ops listed) (hc:0<listed.toList.count false):Region.ready .any ops listed≠ [] :=by
 obtain⟨i,p,q⟩:=jg hc
 have key:∀n i,i<n→i<listed.size→listed.getD i true=false→∃k,k ∈ Region.ready .any ops listed:=by
  intro n
  induction n with
  |zero=>omega
  | succ n ih=>
   intro i u p q
   by_cases hall:∀o,ops[i]? =some o→∀e ∈ o.after,Region.binds .any e=true→listed.getD e.on false=true
   ·have j:i<ops.size:=by rw [← h.size]; exact p
    have ho:ops[i]? =some ops[i] :=Array.getElem?_eq_getElem j
    exact⟨i,mem_ready.2 ⟨q,_,ho,hall _ ho⟩⟩
   grind
 grind
end
section
variable {cx:Cx} {N:Nat} {ops:Array Oper} {base n:Nat} {V:List (Nat × Nat)} {hd:Nat→Bool} {f:Nat→St} {r:Nat→Option Res}
def rb (x:Option Res):Option (List AV):=(x.bind fun r=>r.b.head?).map (·.2)
def vb (base:Nat) (V:List (Nat × Nat)) (r:Nat→Option Res) (listed:Array Bool):List (Nat × Option (List AV)):=V.map fun p=>(base+p.1,if listed.getD p.2 false=true then rb (r p.2) else rb (r p.1))
def blk (base:Nat) (V:List (Nat × Nat)) (r:Nat→Option Res) (listed:Array Bool) (b:List (Nat × Option (List AV))) (x:Nat):Option (List AV):=(look (vb base V r listed++b) x).join
theorem Tu {α:Type}:∀ (l1 l2:List (Nat × α)) (x:Nat),look (l1++l2) x=(match look l1 x with|some y=>some y|none=>look l2 x)
 | [],l2,x=>rfl
 |(j,y)::l1,l2,x=>by
  rw [List.cons_append,AJ,AJ,Tu l1 l2 x]
  split <;> rfl
theorem cD {listed} {x}:∀ {V},(∀p ∈ V,x≠base+p.1)→look (vb base V r listed) x=none
 | [],_=>rfl
 |p::V,h=>by
  show look ((base+p.1,_)::vb base V r listed) x=none
  rw [AJ,if_neg (h p List.mem_cons_self)]
  exact cD fun q j=>h q (List.mem_cons_of_mem _ j)
theorem cE {listed} {p}:∀ {V},p ∈ V→(∀q ∈ V,q.1 =p.1 →q.2 =p.2)→look (vb base V r listed) (base+p.1)=some (if listed.getD p.2 false=true then rb (r p.2) else rb (r p.1))
 | [],h,_=>by cases h
 | q::V,h,hu=>by
  show look ((base+q.1,_)::vb base V r listed) (base+p.1)=_
  rw [AJ]
  by_cases e:base+p.1 =base+q.1
  ·have j:q.1 =p.1 :=by omega
   have v:=hu q List.mem_cons_self j
   rw [if_pos e,j,v]
  ·rw [if_neg e]
   rcases List.mem_cons.1 h with rfl|h
   ·exact absurd rfl e
   ·exact cE h fun q u=>hu q (List.mem_cons_of_mem _ u)
theorem Tv {listed} {b} {x} (h:∀p ∈ V,x≠base+p.1):blk base V r listed b x=(look b x).join :=by
 unfold blk
 rw [Tu,cD h]
theorem Qv {listed} {b} {p} (hp:p ∈ V) (hu:∀q ∈ V,q.1 =p.1 →q.2 =p.2):blk base V r listed b (base+p.1)=if listed.getD p.2 false=true then rb (r p.2) else rb (r p.1):=by
 grind [blk,Tu,cE]
theorem Wq {listed} {i} {b} (h:∀p ∈ V,p.2 ≠i):blk base V r (listed.setIfInBounds i true) b=blk base V r listed b:=by
 have:vb base V r (listed.setIfInBounds i true)=vb base V r listed:=List.map_congr_left fun p hp=>by
  rw [getD_set_ne false (fun e=>h p hp e.symm)]
 funext x
 unfold blk
 rw [this]
structure Inv (cx:Cx) (N:Nat) (ops:Array Oper) (base:Nat) (V:List (Nat × Nat)) (n:Nat) (hd:Nat→Bool) (f:Nat→St) (r:Nat→Option Res) (listed:Array Bool) (γ:Gh) (a:Act) (w:World):Prop where
 L:Lst ops listed
 tail:∀t,hd t=false→t<ops.size→listed.getD t true=false
 os:OSim cx γ (f n).T (blk base V r listed (f n).b) w
 slW:∀j o x,j<n→hd j=true→ops.toList[j]? =some o→o.dst=some x→listed.getD j false=true→VSim γ.vw γ ((f n).g x) (a.tmps.getD x undef)
 slU:∀x,(∀j o,j<n→hd j=true→ops.toList[j]? =some o→o.dst=some x→listed.getD j false=false)→VSim γ.vw γ ((f 0).g x) (a.tmps.getD x undef)
 td:∀t,γ.tl t→(look (f 0).t t).isSome =true∨∃j rr,j<n∧hd j=true∧listed.getD j false=true∧r j=some rr∧∃z ∈ rr.t,z.1 =t
 bd:∀b,γ.bl b→(look (f 0).b b).isSome =true∨∃j rr,j<n∧hd j=true∧listed.getD j false=true∧r j=some rr∧∃z ∈ rr.b,z.1 =b
 df:a.defers=[]
 nn:a.tmps.size=N
theorem Pf {listed:Array Bool} {i:Nat} (h:listed.getD i true=false):listed.getD i false=false:=by
 rw [Array.getD_eq_getD_getElem?] at h ⊢
 grind
theorem Run.at_slot (R:Run cx.P ops base V ops.toList n hd f r) (hp:cC ops n hd) {listed:Array Bool} {γ:Gh} {a:Act} {w:World} (I:Inv cx N ops base V n hd f r listed γ a w)
  {i:Nat} (hi:i<n) (hhi:hd i=true) {o:Oper} (ho:ops.toList[i]? =some o) (hr:i ∈ Region.ready .any ops listed) {t:Nat} (ht:t ∈ PO ops o):VSim γ.vw γ ((f i).g t) (a.tmps.getD t undef):=by
 have hun:listed.getD i false=false:=Pf (mem_ready.1 hr).1
 have hsz:∀j,j<n→j<ops.size:=fun j hj=>by have:=R.le; rw [Array.length_toList] at this; omega
 by_cases hw:∃j W,j<n∧hd j=true∧ops.toList[j]? =some W∧W.dst=some t
 ·obtain⟨j,W,hj,J,G,F⟩:=hw
  have huniq:∀k p,k<n→hd k=true→ops.toList[k]? =some p→p.dst=some t→k=j:=fun k p hk q u C=>R.un k j p W t hk hj q J u G C F
  have Y:i≤j→listed.getD j false=false→VSim γ.vw γ ((f i).g t) (a.tmps.getD t undef):=fun hij U=>by
   have h1:=I.slU t fun k p hk q u C=>by rw [huniq k p hk q u C]; omega
   have h2:=R.g_same (k:=i) (i:=0) (by omega) (x:=t) fun k p _ hk q u C=>by
    grind
   rw [Nat.zero_add] at h2
   rw [h2]; exact h1
  rcases Nat.lt_trichotomy j i with hlt|heq|hgt
  ·have v:VW ops o W=true:=by
    grind [VW]
   have O:=(hp i j o W (by omega) hhi J hlt ho G).2 v
   have U:=I.L.far hr O
   have h1:=I.slW j W t hj J G F U
   rw [R.g_final hj J G F (j:=n) (by omega) (Nat.le_refl _)] at h1
   rw [R.g_final hj J G F (j:=i) hlt (by omega)]
   exact h1
  ·grind
  ·have v:VW ops W o=true:=by
    grind [VW]
   have O:=(hp j i W o hj J hhi hgt G ho).2 v
   refine Y (by omega) ?_
   cases U:listed.getD j false with
   |false=>rfl
   |true=>
    have:=I.L.far' (hsz j hj) U O
    rw [hun] at this; grind
 ·have hnw:∀k p,k<n→hd k=true→ops.toList[k]? =some p→p.dst≠some t:=fun k p hk q u C=>hw ⟨k,p,hk,q,u,C⟩
  have h1:=I.slU t fun k p hk q u C=>absurd C (hnw k p hk q u)
  have h2:=R.g_same (k:=i) (i:=0) (by omega) (x:=t) fun k p _ hk q u=>hnw k p (by omega) q u
  rw [Nat.zero_add] at h2
  rw [h2]; exact h1
theorem Pg {o} {t} (h:Operand.tmp t ∈ o.op.operands):t ∈ PO ops o:=by
 unfold PO
 refine List.mem_append.2 (.inl (List.mem_filterMap.2 ⟨.tmp t,Array.mem_toList_iff.2 h,rfl⟩))
theorem Rp {o} {j} {want} {s} (hg:o.guard=some (j,want)) (hs:Ie ops j=some s):s ∈ PO ops o:=by
 grind [PO]
theorem Ke:∀ {V} {i},CK V i= .al →∃p ∈ V,p.1 =i
 | [],_,h=>by cases h
 | (k,j)::V,i,h=>by
  unfold CK at h
  split at h
  ·rename_i e
   exact⟨(k,j),List.mem_cons_self,e.symm⟩
  ·split at h
   ·cases h
   ·obtain⟨p,hp,e⟩:=Ke h
    exact⟨p,List.mem_cons_of_mem _ hp,e⟩
theorem Run.uniq (R:Run cx.P ops base V ops.toList n hd f r) {p} (hp:p ∈ V):∀q ∈ V,q.1 =p.1 →q.2 =p.2 :=fun q j=>(R.vn q j p hp).1
theorem Run.al (R:Run cx.P ops base V ops.toList n hd f r) {p} (hp:p ∈ V):∃t v a x,r p.1 =some ⟨.box (base+p.1) 0,[],[(base+p.1,(tz cx.P t).map zAV)]⟩∧(0<(tz cx.P t).length ∧(tz cx.P t).length =tsz cx.P t∧isMp ((tz cx.P t).map zAV)=false)∧ops.toList[p.2]? =some v∧v.op= .store t a x:=by
 obtain⟨h1,h2,h3,I,u,F,C,G,o,v,t,a,x,k1,k2,k3,k4⟩:=R.vp p hp
 have q:=R.st p.1 o h1 h3 k1
 generalize hr:r p.1 =ri at q
 cases q with
 |run rr hv=>rw [u] at hv; cases hv
 |skip j want s hv=>rw [u] at hv; cases hv
 |val t' hv hop hgn hz hs ht hb=>
  rw [k3] at hop; grind
 |vst k t a y cs hv=>rw [u] at hv; cases hv
theorem Run.not_priv (R:Run cx.P ops base V ops.toList n hd f r) {x} {y} (h:look (f n).b x=some y):∀p ∈ V,x≠base+p.1 :=fun p hp e=>by
 obtain⟨-,-,-,-,-,-,j,-⟩:=R.vp p hp
 rw [e,j] at h; cases h
theorem Inv.box_in (R:Run cx.P ops base V ops.toList n hd f r) {listed} {γ} {a} {w} (I:Inv cx N ops base V n hd f r listed γ a w) {b} (hl:γ.bl b):(look (f n).b b).isSome =true∨∃p ∈ V,b=base+p.1 ∧listed.getD p.1 false=true:=by
 have F:n≤ops.size:=by have:=R.le; rwa [Array.length_toList] at this
 rcases I.bd b hl with h|⟨j,rr,h1,h1h,h2,h3,z,hz,hzx⟩
 ·obtain⟨y,hy⟩:=Option.isSome_iff_exists.1 h
  rw [R.look_be (i:=0) (j:=n) (by omega) (Nat.le_refl _) hy]
  grind
 ·obtain⟨J,C⟩:=R.op h1
  have u:=R.st j J h1 h1h C
  rw [h3] at u
  cases u with
  |run _ hv hg' hev' hft' hfb' hs' ht' hb'=>
   have v:=Qt hev'
   have q:look (f (j+1)).b z.1 =some (some z.2):=by rw [hb']; grind [MZ]
   rw [← hzx,R.look_be (i:=j+1) (j:=n) (by omega) (Nat.le_refl _) q]
   grind
  |val t hv hop hgn hz' hs' ht' hb'=>
   rw [List.mem_singleton] at hz
   grind [Ke]
  |vst k t a y cs hv hop hgn hc h3' ha hs' ht' hb'=>
   rw [List.mem_singleton] at hz
   subst hz
   have hp:=Kd hv
   obtain⟨-,-,-,-,-,-,-,G,-⟩:=R.vp _ hp
   exact .inr ⟨(k,j),hp,hzx.symm,I.L.far' (by omega) h2 G⟩
theorem Inv.step (R:Run cx.P ops base V ops.toList n hd f r) (hp:cC ops n hd) (hok:∀o ∈ ops.toList,EX N o=true) {listed:Array Bool} {γ:Gh} {a:Act} {w:World} (I:Inv cx N ops base V n hd f r listed γ a w)
  {i:Nat} (hi:i<n) (hhi:hd i=true) (hr:i ∈ Region.ready .any ops listed) {Q:Exit→Act→World→Prop} {K:Act→World→Prop} (hk:∀γ' a' w',Inv cx N ops base V n hd f r (listed.setIfInBounds i true) γ' a' w'→K a' w'):wpOp cx.P ops Q i K a w:=by
 obtain⟨o,ho⟩:=R.op hi
 have ho':ops[i]? =some o:=by rw [← Array.getElem?_toList]; exact ho
 have hilt:i<ops.size:=(Array.getElem?_eq_some_iff.1 ho').1
 have hoo:=hok o (List.mem_of_getElem? ho)
 have hdst:=FB hoo
 have hun:listed.getD i false=false:=Pf (mem_ready.1 hr).1
 have C:=fun t ht=>R.at_slot hp I hi hhi ho hr (t:=t) ht
 have hseti:(listed.setIfInBounds i true).getD i false=true:=by
  rw [Array.getD_eq_getD_getElem?,Array.getElem?_setIfInBounds_self,if_pos (by rw [I.L.size]; omega)]; rfl
 have hsetj:∀j,j≠i→(listed.setIfInBounds i true).getD j false=listed.getD j false:=fun j hj=>getD_set_ne false (fun e=>hj e.symm)
 have hmono:∀j,listed.getD j false=true→(listed.setIfInBounds i true).getD j false=true:=fun j hj=>by
  grind
 have mk:∀γ' av v w',Gh.Ext γ γ'→OSim cx γ' (f n).T (blk base V r (listed.setIfInBounds i true) (f n).b) w'→VSim γ'.vw γ' av v→(∀x,o.dst=some x→(f (i+1)).g x=av)→
   (∀t,γ'.tl t→γ.tl t∨∃rr,r i=some rr∧∃z ∈ rr.t,z.1 =t)→(∀b,γ'.bl b→γ.bl b∨∃rr,r i=some rr∧∃z ∈ rr.b,z.1 =b)→
   Inv cx N ops base V n hd f r (listed.setIfInBounds i true) γ' (a.put o.dst v) w':=by
  intro γ' av v w' he Y hv hav htl W
  refine⟨I.L.set hr,fun t ht htlt=>?_,Y,fun j oj x hj hhj F hx hl=>?_,fun x hx=>?_,fun t h=>?_,fun b h=>?_,by rw [Ho]; exact I.df,by rw [Kb]; exact I.nn⟩
  ·rw [getD_set_ne true (fun e=>by rw [e,ht] at hhi; grind)]; exact I.tail t ht htlt
  ·rw [Wo a o.dst v x (by rw [I.nn]; omega)]
   by_cases e:j=i
   ·subst e
    rw [ho] at F; cases F
    rw [if_pos hx,R.g_final hi hhi ho hx (j:=n) (by omega) (Nat.le_refl _),hav x hx]
    exact hv
   ·rw [if_neg (fun h=>e (R.un j i oj o x hj hi hhj hhi F ho hx h))]
    rw [hsetj j e] at hl
    exact VSim.mono he.vw he (I.slW j oj x hj hhj F hx hl)
  ·have hnd:o.dst≠some x:=fun h=>by
    grind
   rw [Wo a o.dst v x (by rw [I.nn]; omega),if_neg hnd]
   refine VSim.mono he.vw he (I.slU x fun j oj hj hhj F hdj=>?_)
   grind
  ·rcases htl t h with h|⟨rr,h1,h2⟩
   ·rcases I.td t h with h|⟨j,rr,k1,k1h,k2,k3,k4⟩
    ·grind
    grind
   grind
  ·rcases W b h with h|⟨rr,h1,h2⟩
   ·rcases I.bd b h with h|⟨j,rr,k1,k1h,k2,k3,k4⟩
    ·grind
    grind
   grind
 have hst:=R.st i o hi hhi ho
 have yl:∀j s b,Ie ops j=some s→s ∈ PO ops o→(f i).g s= .bool b→yielded ops a.tmps j=some b:=fun j s b hj hs hb=>by
  have h1:=C s hs
  rw [hb] at h1
  simp only [VSim] at h1
  unfold Ie at hj
  unfold yielded
  rw [hj]
  simp only [Option.bind_some]
  rw [Array.getD_eq_getD_getElem?] at h1
  grind [undef]
 have yl0:∀j s,Ie ops j=some s→s ∈ PO ops o→(f i).g s= .tup [] →yielded ops a.tmps j=none:=fun j s hj hs hb=>by
  have h1:=C s hs
  rw [hb] at h1
  simp only [VSim,AH] at h1
  obtain⟨us,h1,rfl⟩:=h1
  unfold Ie at hj
  unfold yielded
  rw [hj]
  simp only [Option.bind_some]
  rw [Array.getD_eq_getD_getElem?] at h1
  grind
 unfold wpOp
 rw [ho']
 simp only
 generalize hri:r i=ri at hst
 cases hst with
 | run rr hv hg hev hft hfb hs ht hb=>
  have hbs:blk base V r (listed.setIfInBounds i true) (f n).b =blk base V r listed (f n).b :=Wq fun p hp=>(Pa hv p hp).2
  have U:Region.wanted o (yielded ops a.tmps)=true:=by
   grind [Region.wanted,Rp]
  rw [if_pos U]
  have hids:=Qt hev
  have hnew:∀x ∈ rr.t,look (f (i+1)).t x.1 =some (some x.2):=fun x hx=>by rw [ht]; grind [MY]
  have J:∀x ∈ rr.b,look (f (i+1)).b x.1 =some (some x.2):=fun x hx=>by rw [hb]; grind [MZ]
  have hTle:Le (f i).T (f n).T :=fun x y h=>by
   unfold St.T at h ⊢
   rw [R.look_te (by omega) (Nat.le_refl _) (join_some h)]; rfl
  have hBle:Le (f i).B (blk base V r listed (f n).b):=fun x y h=>by
   unfold St.B at h
   have h1:=R.look_be (i:=i) (by omega) (Nat.le_refl _) (join_some h)
   rw [Tv (R.not_priv h1),h1]; rfl
  refine .inl (Tb (bq hTle hBle hev) (Bq (s:=(f i).g) hoo (fun x _=>St.e_eq _ x) fun t htm=>C t (Pg htm)) I.os (fun x hx=>⟨?_,fun hl=>?_⟩) (fun x hx=>⟨?_,fun hl=>?_⟩) fun v w' γ' he htl W Y hv=>hk γ' _ w' (mk γ' rr.v v w' he (by rw [hbs]; omega) hv (fun x hx=>by rw [hs,if_pos hx]) (fun t h=>(htl t h).imp id fun h=>⟨rr,hri,h⟩) (fun b h=>(W b h).imp id fun h=>⟨rr,hri,h⟩)))
  ·unfold St.T
   rw [R.look_te (i:=i+1) (by omega) (Nat.le_refl _) (hnew x hx)]; rfl
  ·have hfr:=Fx hft x hx
   rcases I.td _ hl with h|⟨j,r',h1,h1h,h2,h3,z,hz,hzx⟩
   ·obtain⟨y,hy⟩:=Option.isSome_iff_exists.1 h
    have:=R.look_te (i:=0) (j:=i) (by omega) (by omega) hy
    rw [hfr] at this; grind
   ·have hji:j≠i:=fun e=>by grind
    obtain⟨oj,F⟩:=R.op h1
    have hsj:=R.st j oj h1 h1h F
    rw [h3] at hsj
    cases hsj with
    |val t hv hop hgn hz' hs' G hb'=>cases hz
    |vst k t a y cs hv hop hgn hc h3' ha hs' G hb'=>cases hz
    | run _ hv' hg' hev' hft' hfb' hs' G hb'=>
     have hids':=Qt hev'
     have O:look (f (j+1)).t z.1 =some (some z.2):=by rw [G]; grind [MY]
     rcases Nat.lt_or_gt_of_ne hji with hlt|hgt
     ·have:=R.look_te (i:=j+1) (j:=i) (by omega) (by omega) O
      rw [hzx,hfr] at this; grind
     ·have h4:=Fx hft' z hz
      have:=R.look_te (i:=i+1) (j:=j) (by omega) (by omega) (hnew x hx)
      rw [← hzx,h4] at this; grind
  ·have h1:=R.look_be (i:=i+1) (by omega) (Nat.le_refl _) (J x hx)
   rw [Tv (R.not_priv h1),h1]; rfl
  ·have hfr:=E5 hfb x hx
   rcases I.bd _ hl with h|⟨j,r',h1,h1h,h2,h3,z,hz,hzx⟩
   ·obtain⟨y,hy⟩:=Option.isSome_iff_exists.1 h
    have:=R.look_be (i:=0) (j:=i) (by omega) (by omega) hy
    rw [hfr] at this; grind
   ·have hji:j≠i:=fun e=>by grind
    obtain⟨oj,F⟩:=R.op h1
    have hsj:=R.st j oj h1 h1h F
    rw [h3] at hsj
    have hxn:=R.not_priv (R.look_be (i:=i+1) (by omega) (Nat.le_refl _) (J x hx))
    cases hsj with
    |val t hv hop hgn hz' hs' G hb'=>
     rw [List.mem_singleton] at hz
     grind [Ke]
    |vst k t a y cs hv hop hgn hc h3' ha hs' G hb'=>
     rw [List.mem_singleton] at hz
     subst hz
     exact hxn _ (Kd hv) hzx.symm
    | run _ hv' hg' hev' hft' hfb' hs' G hb'=>
     have hids':=Qt hev'
     have O:look (f (j+1)).b z.1 =some (some z.2):=by rw [hb']; grind [MZ]
     rcases Nat.lt_or_gt_of_ne hji with hlt|hgt
     ·have:=R.look_be (i:=j+1) (j:=i) (by omega) (by omega) O
      rw [hzx,hfr] at this; grind
     ·have h4:=E5 hfb' z hz
      have:=R.look_be (i:=i+1) (j:=j) (by omega) (by omega) (J x hx)
      rw [← hzx,h4] at this; grind
 | val t hv hop hgn hz hs ht hb=>
  obtain⟨p,u,hpi⟩:=Ke hv
  have hpr:=R.vp p u
  obtain⟨t',o',a',x',hr1,hz1,ho1,hop1⟩:=R.al u
  rw [hpi] at hr1
  rw [hri] at hr1
  have hzz:(tz cx.P t).map zAV=(tz cx.P t').map zAV:=by grind
  have hl2:listed.getD p.2 false=false:=by
   cases hx:listed.getD p.2 false with
   |false=>rfl
   |true=>
    have:=I.L.far' (i:=p.2) (by grind) hx hpr.2.2.2.2.2.2.2.1
    rw [hpi,hun] at this; grind
  have hne:p.2 ≠i:=fun e=>by
   grind
  have hbs:blk base V r (listed.setIfInBounds i true) (f n).b =blk base V r listed (f n).b :=by
   refine Wq fun q hq e=>?_
   have:=(R.vp q hq).2.2.2.2.2.1
   rw [e,hv] at this; grind
  rw [if_pos (by grind [Region.wanted])]
  have hev:Ev cx.P (base+i) o (f i).e (f n).T (blk base V r listed (f n).b) ⟨.box (base+i) 0,[],[(base+i,(tz cx.P t).map zAV)]⟩:=by
   unfold Ev; rw [hop]; grind
  refine .inl (Tb hev (Bq (s:=(f i).g) hoo (fun x _=>St.e_eq _ x) fun t htm=>C t (Pg htm)) I.os (fun x hx=>by cases hx) (fun x hx=>?_) fun v w' γ' he htl W Y hv'=>hk γ' _ w' (mk γ' _ v w' he (by rw [hbs]; omega) hv' (fun x hx=>by rw [hs,if_pos hx]) (fun t h=>.inl ((htl t h).resolve_right fun ⟨z,hz,_⟩=>by cases hz)) (fun b h=>(W b h).imp id fun h=>⟨_,hri,h⟩)))
  rw [List.mem_singleton] at hx
  subst hx
  refine⟨?_,fun hl=>?_⟩
  ·have:=Qv (base:=base) (r:=r) (listed:=listed) (b:=(f n).b) u (R.uniq u)
   rw [hpi,hl2,if_neg (by simp),hri] at this
   exact this
  ·rcases I.box_in R hl with h|⟨q,hq,e,h⟩
   ·grind
   grind
 | vst k t ad y cs hv hop hgn hc h3 ha hs ht hb=>
  have u:=Kd hv
  have hpr:=R.vp _ u
  obtain⟨t',o',a',x',hr1,hz1,ho1,hop1⟩:=R.al u
  have G:t'=t:=by
   grind
  subst G
  simp only at hr1 hpr
  have hbk:=Qv (base:=base) (r:=r) (listed:=listed) (b:=(f n).b) u (R.uniq u)
  simp only [hun] at hbk
  rw [if_neg (by simp),hr1] at hbk
  have hbk:blk base V r listed (f n).b (base+k)=some ((tz cx.P t').map zAV):=hbk
  rw [if_pos (by grind [Region.wanted])]
  have hops:=Bq (s:=(f i).g) hoo (fun x _=>St.e_eq (f i) x) fun t htm=>C t (Pg htm)
  rw [hop] at hops
  have hva:=hops ad (by simp [Op.operands])
  have hvy:=hops y (by simp [Op.operands])
  rw [ha] at hva
  have W:γ.bl (base+k):=by grind [VSim]
  have hle:0+cs.length≤((tz cx.P t').map zAV).length :=by rw [List.length_map,h3.1,hz1.2.1]; omega
  obtain⟨w',hrun,Y⟩:=Vp I.os hva hvy hc h3.1 h3.2.1 h3.2.2 hbk hz1.2.2 hle
  have hsp:splice ((tz cx.P t').map zAV) 0 cs=cs:=by
   rw [EI _ _ _ hle,List.take_zero,List.nil_append,List.drop_eq_nil_of_le (by rw [List.length_map,h3.1,hz1.2.1]; omega),List.append_nil]
  have hrun':(execOp a.eval o).run cx.P w= .ok .skip w':=by simp [execOp,hop,hrun]
  refine .inl ?_
  unfold Oper.wp
  rw [hrun']
  refine hk γ _ w' (mk γ .any undef w' (Gh.Ext.refl γ) (Y.tables (fun t tk _ h=>h) fun b vs _ h=>?_) trivial (fun x hx=>by rw [hs,if_pos hx]) (fun t h=>.inl h) (fun b h=>.inl h))
  ·simp only [hsp]
   by_cases e:b=base+k
   ·rw [if_pos e]
    have:=Qv (base:=base) (r:=r) (listed:=listed.setIfInBounds i true) (b:=(f n).b) u (R.uniq u)
    simp only [hseti,if_true,hri] at this
    rw [e] at h
    rw [this] at h
    exact h
   ·rw [if_neg e]
    show blk base V r listed (f n).b b=some vs
    by_cases hpb:∃q ∈ V,b=base+q.1
    ·obtain⟨q,hq,rfl⟩:=hpb
     have hne:q.2 ≠i:=fun e2=>e (by rw [(R.vn q hq _ u).2 e2])
     have h1:=Qv (base:=base) (r:=r) (listed:=listed.setIfInBounds i true) (b:=(f n).b) hq (R.uniq hq)
     have h2:=Qv (base:=base) (r:=r) (listed:=listed) (b:=(f n).b) hq (R.uniq hq)
     rw [hsetj q.2 hne] at h1
     rw [h2,← h1]; exact h
    grind [Tv]
 | skip j want s hv hg hj hb hs ht hb'=>
  have hbs:blk base V r (listed.setIfInBounds i true) (f n).b =blk base V r listed (f n).b :=Wq fun p hp=>(Pa hv p hp).2
  have U:Region.wanted o (yielded ops a.tmps)=false:=by
   grind [Region.wanted,Rp]
  rw [if_neg (by rw [U]; simp)]
  exact hk γ _ w (mk γ (.tup []) undef w (Gh.Ext.refl γ) (by rw [hbs]; exact I.os) To (fun x hx=>by rw [hs,if_pos hx]) (fun t h=>.inl h) (fun b h=>.inl h))
def fin (f:Nat→St) (n:Nat) (acc:List (Nat × List AV)):St:=⟨(f n).s,(f n).t,addB (f n).b acc⟩
theorem addB_mem:∀ (l:List (Nat × List AV)) (σ:List (Nat × Option (List AV))) (x:Nat) (y:Option (List AV)),look (addB σ l) x=some y→(∃z ∈ l,z.1 =x∧y=some z.2)∨((∀z ∈ l,z.1 ≠x)∧look σ x=some y)
 | [],σ,x,y,h=>.inr ⟨fun z hz=>(by cases hz),h⟩
 | (k,vs)::l,σ,x,y,h=>by
  simp only [addB,AJ] at h
  split at h
  ·rename_i e
   exact .inl ⟨(k,vs),List.mem_cons_self,e.symm,by cases h; rfl⟩
  ·rename_i e
   rcases addB_mem l σ x y h with ⟨z,hz,h1,h2⟩|⟨h1,h2⟩
   ·exact .inl ⟨z,List.mem_cons_of_mem _ hz,h1,h2⟩
   ·refine .inr ⟨fun z hz=>?_,h2⟩
    rcases List.mem_cons.1 hz with rfl|hz
    ·exact fun h=>e h.symm
    ·exact h1 z hz
theorem V3:∀ (l:List (Nat × List AV)) (σ:List (Nat × Option (List AV))) (x:Nat),((∃z ∈ l,z.1 =x)∨(look σ x).isSome =true)→(look (addB σ l) x).isSome =true
 | [],σ,x,h=>by
  rcases h with ⟨z,hz,_⟩|h
  ·cases hz
  ·exact h
 | (k,vs)::l,σ,x,h=>by
  simp only [addB,AJ]
  split
  ·rfl
  ·rename_i e
   refine V3 l σ x ?_
   rcases h with ⟨z,hz,h1⟩|h
   ·rcases List.mem_cons.1 hz with rfl|hz
    ·exact absurd h1.symm e
    ·exact .inl ⟨z,hz,h1⟩
   ·exact .inr h
theorem Inv.done (R:Run cx.P ops base V ops.toList n hd f r) {listed} {γ} {a} {w} (I:Inv cx N ops base V n hd f r listed γ a w) (hall:∀j,j<n→hd j=true→listed.getD j false=true)
  {acc} (hacc:∀x ∈ acc,∃p ∈ V,x.1 =base+p.1 ∧r p.2 =some ⟨.any,[],[x]⟩) (hacc':∀p ∈ V,∃x ∈ acc,x.1 =base+p.1):Sim cx N γ (fin f n acc) a w:=by
 refine⟨I.os.tables (fun t tk _ h=>h) fun b vs _ h=>?_,fun x=>?_,fun t h=>?_,fun b h=>?_,I.df,I.nn⟩
 ·have h:=join_some (show (look (addB (f n).b acc) b).join =some vs from h)
  rcases addB_mem acc _ _ _ h with ⟨z,hz,h1,h2⟩|⟨h1,h2⟩
  ·obtain⟨p,hp,h3,h4⟩:=hacc z hz
   have hb:=Qv (base:=base) (r:=r) (listed:=listed) (b:=(f n).b) hp (R.uniq hp)
   obtain⟨-,k2,-,k4,-⟩:=R.vp p hp
   rw [hall p.2 k2 k4,if_pos rfl,h4,← h3,h1] at hb
   rw [hb]
   simp only [Option.some.injEq] at h2
   rw [h2]; rfl
  grind [Tv]
 ·show VSim γ.vw γ ((f n).g x) _
  by_cases hw:∃j W,j<n∧hd j=true∧ops.toList[j]? =some W∧W.dst=some x
  ·obtain⟨j,W,hj,U,ho',J⟩:=hw
   exact I.slW j W x hj U ho' J (hall j hj U)
  ·have O:∀k q,k<n→hd k=true→ops.toList[k]? =some q→q.dst≠some x:=fun k q hk u v C=>hw ⟨k,q,hk,u,v,C⟩
   have h1:=I.slU x fun k q hk u v C=>absurd C (O k q hk u v)
   have h2:=R.g_same (k:=n) (i:=0) (by omega) (x:=x) fun k q _ hk u v=>O k q (by omega) u v
   rw [Nat.zero_add] at h2
   rw [h2]; exact h1
 ·show (look (f n).t t).isSome =true
  rcases I.td t h with h|⟨j,rr,h1,h1h,h2,h3,z,hz,hzx⟩
  ·obtain⟨y,hy⟩:=Option.isSome_iff_exists.1 h
   rw [R.look_te (i:=0) (j:=n) (by omega) (Nat.le_refl _) hy]; rfl
  ·obtain⟨oj,Y⟩:=R.op h1
   have G:=R.st j oj h1 h1h Y
   rw [h3] at G
   cases G with
   |val t hv hop hgn hz' hs' ht' hb'=>cases hz
   |vst k t a y cs hv hop hgn hc h3' ha hs' ht' hb'=>cases hz
   |run _ hv hg' hev' hft' hfb' hs' ht' hb'=>
    have hids':=Qt hev'
    have F:look (f (j+1)).t z.1 =some (some z.2):=by rw [ht']; grind [MY]
    rw [← hzx,R.look_te (i:=j+1) (j:=n) (by omega) (Nat.le_refl _) F]; rfl
 ·refine V3 acc _ _ ?_
  rcases I.box_in R h with h|⟨p,hp,e,-⟩
  ·grind
  grind
end
theorem V4 {ops} {m} {q} (h:late ops.toList m q=true):Region.noSelect ops=true∧∃o,ops.toList[q]? =some o∧KE o=true∧o.guard=none∧
  ∀j p,ops[j]? =some p→j≠q→(∀e ∈ p.after,Region.binds .any e=true→e.on≠q)→(m.getD q 0).testBit j=false→o.apart ops p=true:=by
 unfold late at h
 rw [Bool.and_eq_true,Array.toArray_toList] at h
 obtain⟨F,h⟩:=h
 refine⟨F,?_⟩
 split at h
 ·rename_i o ho
  rw [Bool.and_eq_true,Bool.and_eq_true,List.all_eq_true] at h
  refine⟨o,ho,h.1.1,by simp_all,fun j p hj G C v=>?_⟩
  have u:j<ops.toList.length:=by rw [Array.length_toList]; grind
  have:=h.2 j (List.mem_range.2 u)
  rw [Array.getElem?_toList,hj] at this
  grind
 grind
section
variable {cx:Cx} {N:Nat} {ops:Array Oper} {base n:Nat} {V:List (Nat × Nat)} {hd:Nat→Bool} {f:Nat→St} {r:Nat→Option Res}
theorem Rq {o} {a} {w} {i} {K} (ho:ops[i]? =some o) (hg:o.guard=none) (hs:Qu cx.P o a) (h:wpOp cx.P ops (fun _ _ _=>False) i K a w):∃u,Yields cx.P ops o u a∧K (a.put o.dst u) w:=by
 have j:Region.wanted o (yielded ops a.tmps)=true:=by simp [Region.wanted,hg]
 unfold wpOp at h
 rw [ho] at h
 simp only [j,if_true] at h
 rcases h with h|⟨_,_,_,h⟩
 ·rcases hs with ⟨u,hu⟩|hx
  ·refine⟨u,.inl ⟨j,hu⟩,?_⟩
   grind [Oper.wp,Oper.upon]
  ·obtain⟨x,w1,e⟩:=hx w
   unfold Oper.wp at h
   rw [e] at h
   cases x <;> simp only [Oper.upon] at h
 grind
theorem Inv.ext (R:Run cx.P ops base V ops.toList n hd f r) (hp:cC ops n hd) (hok:∀o ∈ ops.toList,EX N o=true) {listed:Array Bool} {γ:Gh} {a:Act} {w:World} (I:Inv cx N ops base V n hd f r listed γ a w)
  {i:Nat} (hi:i<n) (hhi:hd i=true) (hr:i ∈ Region.ready .any ops listed) {o:Oper} (ho:ops.toList[i]? =some o) (hsf:KE o=true) (hg:o.guard=none):∃v,Yields cx.P ops o v a∧∃γ',Inv cx N ops base V n hd f r (listed.setIfInBounds i true) γ' (a.put o.dst v) w:=by
 have F:ops[i]? =some o:=by rw [← Array.getElem?_toList]; exact ho
 have C:=hok o (List.mem_of_getElem? ho)
 have p:=fun t J=>R.at_slot hp I hi hhi ho hr (t:=t) J
 have u:=R.st i o hi hhi ho
 have q:=I.step R hp hok hi hhi hr (Q:=fun _ _ _=>False) (K:=fun O w'=>∃γ',Inv cx N ops base V n hd f r (listed.setIfInBounds i true) γ' O w') fun γ' O w' h=>⟨γ',h⟩
 generalize r i=ri at u
 cases u with
 |skip j want s hv hg' hj hb hs J hb'=>rw [hg] at hg'; grind
 |val t hv hop=>grind [KE]
 |vst k t a y cs hv hop=>grind [KE]
 |run rr hv hg' hev hft hfb hs J hb=>
  exact Rq F hg (Pd (N:=N) hsf hev (Bq (s:=(f i).g) C (fun x _=>St.e_eq _ x) fun t G=>p t (Pg G))) q
theorem Mc {Q} {cut i} {o} {σ} {K} {KK} {a} {w} (ho:ops[i]? =some o) (hoo:EX N o=true) (h:aops cx.P ops base cut i [o] σ K) (hs:SimE cx N σ a w)
  (next:∀σ' a' w',K σ'→SimE cx N σ' a' w'→KK a' w'):wpOp cx.P ops Q i KK a w:=by
 unfold wpOp
 rw [ho]
 simp only
 obtain⟨γ,hs⟩:=hs
 unfold aops at h
 split at h
 ·grind [Region.wanted,Na,aops]
 ·rename_i j p hg
  obtain⟨s,hj,h⟩:=h
  simp only [aops] at h
  rcases h with ⟨b,hb,h1,h2⟩|⟨hb,h2⟩
  case inr=>
   have hy:=Tn hs hj hb
   rw [if_neg (by grind [Region.wanted])]
   exact next _ _ _ h2 ⟨γ,hs.putU (FB hoo)⟩
  case inl=>
   have hy:=Tm hs hj hb
   have q:∀c,b=c→Sim cx N γ (σ.put (some s) (.bool c)) a w:=fun c e=>by
    subst e
    have v:∀i,(σ.put (some s) (.bool b)).g i=σ.g i:=fun i=>by
     rw [St.g_put]; grind
    exact⟨hs.os,fun i=>by rw [v]; exact hs.sl i,hs.td,hs.bd,hs.df,hs.n⟩
   by_cases hbw:b=p
   ·rw [if_pos (by grind [Region.wanted])]
    grind [Na]
   ·have u:b= !p:=by cases b <;> cases p <;> simp_all
    rw [if_neg (by grind [Region.wanted])]
    exact next _ _ _ (h2 u) ⟨γ,(q (!p) u).putU (FB hoo)⟩
theorem gK {cut i:Nat} {o:Oper} {σ:St} {K:St→Prop} {a:Act} {w:World} (ho:ops[i]? =some o) (hoo:EX N o=true) (hsf:KE o=true) (hg:o.guard=none) (h:aops cx.P ops base cut i [o] σ K) (hs:SimE cx N σ a w):∃v,Yields cx.P ops o v a∧∃σ',K σ'∧SimE cx N σ' (a.put o.dst v) w:=by
 have p:=Mc (Q:=fun _ _ _=>False) ho hoo h hs (KK:=fun F w'=>∃σ',K σ'∧SimE cx N σ' F w') fun σ' F w' h1 h2=>⟨σ',h1,h2⟩
 refine Rq ho hg ?_ p
 obtain⟨γ,hs⟩:=hs
 unfold aops at h
 rw [hg] at h
 simp only at h
 have q:¬ (MP cx.P o σ (fun σ'=>aops cx.P ops base cut (i+1) [] σ' K)∨SliK cx.P (base+i) o σ (fun σ'=>aops cx.P ops base cut (i+1) [] σ' K)):=fun h=>by
  grind [KE,MP,SliK]
 have u:Xw o=false:=by
  unfold Xw
  unfold KE at hsf
  split at hsf <;> simp_all
 rcases h with ⟨-,h⟩|⟨-,h⟩|⟨-,-,r,j,-⟩
 ·obtain⟨r,j,-⟩:=Ts u h
  exact Pd (N:=N) hsf j (Bq (s:=σ.g) hoo (fun x _=>St.e_eq _ x) fun t _=>hs.sl t)
 ·rcases h with h|h|⟨-,σ1,hn,h⟩
  ·exact absurd (.inl h) q
  ·exact absurd (.inr h) q
  ·obtain⟨γ1,C⟩:=JH hn ⟨γ,hs⟩
   obtain⟨r,j,-⟩:=Ts u h
   exact Pd (N:=N) hsf j (Bq (s:=σ1.g) hoo (fun x _=>St.e_eq _ x) fun t _=>C.sl t)
 ·exact Pd (N:=N) hsf j (Bq (s:=σ.g) hoo (fun x _=>St.e_eq _ x) fun t _=>hs.sl t)
theorem gL {listed} {done} (hl:∀j,j<ops.size→(listed.getD j false=true↔j ∈ done)) (hsz:listed.size=ops.size) (hon:∀i o,ops.toList[i]? =some o→∀e ∈ o.after,Region.binds .any e=true→e.on<i) {i}:i ∈ Region.ready .any ops listed↔i<ops.toList.length∧OH ops.toList done i=true:=by
 rw [mem_ready,Array.length_toList]
 grind [OH,Array.all_eq_true_iff_forall_mem]
theorem Z8 {Q:Exit→Act→World→Prop} {K:St→Prop} {ts:List (Nat × Oper)} (hts:∀i o,look ts i=some o→ops.toList[i]? =some o) (hok:∀o ∈ ops.toList,EX N o=true)
  (hon:∀i o,ops.toList[i]? =some o→∀e ∈ o.after,Region.binds .any e=true→e.on<i) (hQ:∀c a w,¬Q (.panic c) a w) (hk:∀σ' a' w',K σ'→SimE cx N σ' a' w'→Q .normal a' w'):
  ∀ (Y:Tr),(∀ (done:List Nat) (listed:Array Bool) (σ:St) (a:Act) (w:World) (fuel:Nat),Uy ops.toList (deps ops.toList) Y done=true→Lst ops listed→(∀j,j<ops.size→(listed.getD j false=true↔j ∈ done))→listed.toList.count false=fuel→aTr cx.P ops base ts Y σ K→SimE cx N σ a w→wpAny cx.P .any ops Q fuel listed a w)∧
   (∀ (done:List Nat) (listed:Array Bool) (σ:St) (a:Act) (w:World) (fuel:Nat),Qd ops.toList (deps ops.toList) Y done=true→Lst ops listed→(∀j,j<ops.size→(listed.getD j false=true↔j ∈ done))→listed.toList.count false=fuel+1→aTr cx.P ops base ts Y σ K→SimE cx N σ a w→
    ∀i,i ∈ Y.alts→i ∈ Region.ready .any ops listed→wpOp cx.P ops Q i (wpAny cx.P .any ops Q fuel (listed.setIfInBounds i true)) a w):=by
 have step:∀ {listed:Array Bool} {done:List Nat} {i:Nat} {fuel:Nat},Lst ops listed→(∀j,j<ops.size→(listed.getD j false=true↔j ∈ done))→listed.toList.count false=fuel+1→i ∈ Region.ready .any ops listed→
   Lst ops (listed.setIfInBounds i true)∧(∀j,j<ops.size→((listed.setIfInBounds i true).getD j false=true↔j ∈ i::done))∧(listed.setIfInBounds i true).toList.count false=fuel:=by
  intro listed done i fuel p C G I
  obtain⟨h0,o,ho,-⟩:=mem_ready.1 I
  have hilt:=(Array.getElem?_eq_some_iff.1 ho).1
  refine⟨p.set I,fun j hj=>?_,?_⟩
  ·by_cases e:i=j
   ·subst e
    have:(listed.setIfInBounds i true).getD i false=true:=by
     rw [Array.getD_eq_getD_getElem?,Array.getElem?_setIfInBounds_self,if_pos (by rw [p.size]; exact hj)]; rfl
    grind
   ·rw [getD_set_ne false e,C j hj,List.mem_cons]
    grind
  grind [Pe]
 intro Y
 induction Y with
 | fin=>
  refine⟨fun done listed σ a w fuel h p C G q hs=>?_,fun done listed σ a w fuel h p C G q hs i hi=>by grind [Tr.alts]⟩
  simp only [Uy,List.all_eq_true] at h
  have hall:∀j,j<ops.size→listed.getD j false=true:=fun j hj=>(C j hj).2 (List.contains_iff_mem.1 (h j (List.mem_range.2 (by rw [Array.length_toList]; exact hj))))
  have I:Region.ready .any ops listed=[] :=by
   refine List.eq_nil_iff_forall_not_mem.2 fun i hi=>?_
   grind [mem_ready]
  grind [wpAny_done,aTr]
 |stop=>grind [Uy,Tr.alts]
 |fz t iht=>
  refine⟨fun done listed σ a w fuel h p C G q hs=>?_,fun done listed σ a w fuel h p C G q hs i hi=>by grind [Tr.alts]⟩
  simp only [Uy] at h
  simp only [aTr] at q
  obtain⟨σ1,hn,q⟩:=q
  exact iht.1 done listed σ1 a w fuel h p C G q (JH hn hs)
 | br i t more iht ihm=>
  have u:∀ (done:List Nat) (listed:Array Bool) (σ:St) (a:Act) (w:World) (fuel:Nat),Qd ops.toList (deps ops.toList) (.br i t more) done=true→Lst ops listed→(∀j,j<ops.size→(listed.getD j false=true↔j ∈ done))→listed.toList.count false=fuel+1→aTr cx.P ops base ts (.br i t more) σ K→SimE cx N σ a w→
    ∀j,j ∈ (Tr.br i t more).alts →j ∈ Region.ready .any ops listed→wpOp cx.P ops Q j (wpAny cx.P .any ops Q fuel (listed.setIfInBounds j true)) a w:=by
   intro done listed σ a w fuel h p C G q hs j hj I
   simp only [Qd,Bool.and_eq_true] at h
   simp only [aTr] at q
   simp only [Tr.alts,List.mem_cons] at hj
   rcases hj with rfl|hj
   ·have F:=q.1
    split at F
    ·rename_i o hlk
     have ho:=hts j o hlk
     have J:ops[j]? =some o:=by rw [← Array.getElem?_toList]; exact ho
     obtain⟨h1,h2,h3⟩:=step p C G I
     exact Mc J (hok o (List.mem_of_getElem? ho)) F hs fun σ' a' w' hk' U=>iht.1 _ _ σ' a' w' fuel h.1 h1 h2 h3 hk' U
    grind
   grind
  refine⟨fun done listed σ a w fuel h p C G q hs=>?_,u⟩
  simp only [Uy,Bool.and_eq_true] at h
  obtain⟨⟨hcov,h1⟩,h2⟩:=h
  unfold Tr.cover at hcov
  rw [Bool.and_eq_true,Bool.not_eq_true'] at hcov
  obtain⟨hne,hcov⟩:=hcov
  obtain⟨q0,hq0⟩:∃q0,q0 ∈ (List.range ops.toList.length).filter (OH ops.toList done):=by
   cases hx:(List.range ops.toList.length).filter (OH ops.toList done) with
   |nil=>rw [hx] at hne; grind
   |cons y ys=>exact⟨y,by simp⟩
  have W:∀i,i ∈ (List.range ops.toList.length).filter (OH ops.toList done)↔i ∈ Region.ready .any ops listed:=fun i=>by
   rw [gL C p.size hon,List.mem_filter,List.mem_range]
  have O:=(W q0).1 hq0
  obtain⟨fuel,rfl⟩:∃k,fuel=k+1:=by
   obtain⟨h0,o,ho,-⟩:=mem_ready.1 O
   have hilt:=(Array.getElem?_eq_some_iff.1 ho).1
   have:=Pe (i:=q0) (by rw [p.size]; omega) h0
   exact⟨fuel - 1,by omega⟩
  rw [Bool.or_eq_true] at hcov
  rcases hcov with hcov|hcov
  · -- one that may come as late as it likes
   have hq:more= .stop ∧late ops.toList (deps ops.toList) i=true∧i ∈ (List.range ops.toList.length).filter (OH ops.toList done):=by
    grind
   obtain⟨rfl,hlate,hmem⟩:=hq
   have I:=(W i).1 hmem
   obtain⟨hns,o,ho,hsf,hg,hap⟩:=V4 hlate
   have J:ops[i]? =some o:=by rw [← Array.getElem?_toList]; exact ho
   simp only [aTr] at q
   have F:=q.1
   split at F
   ·rename_i o2 hlk
    have ho2:=hts i o2 hlk
    rw [ho] at ho2
    cases ho2
    obtain⟨v,hy,σ',hK,U⟩:=gK J (hok o (List.mem_of_getElem? ho)) hsf hg F hs
    obtain⟨k1,k2,k3⟩:=step p C G I
    refine wpAny_first J (fun j o cs b hj=>Region.noSelect_spec hns j o cs b hj) (fun c a w h=>(hQ c _ _ h).elim) fuel listed a w (fun j oj hj hne hun hno=>hap j oj hj hne hno ?_) I hy (iht.1 _ _ σ' _ w fuel h1 k1 k2 k3 hK U)
    cases hb:((deps ops.toList).getD i 0).testBit j with
    |false=>rfl
    |true=>have:=p.far I hb; rw [Pf hun] at this; grind
   grind
  ·refine⟨fun h0=>(by rw [h0] at O; grind),fun j hj=>?_⟩
   rw [List.all_eq_true] at hcov
   have:=hcov j ((W j).2 hj)
   exact u done listed σ a w fuel (by grind [Qd]) p C G q hs j (List.contains_iff_mem.1 this) hj
theorem leS_get {s:List (Nat × AV)}:∀ {r:List (Nat × AV)},leS s r→∀ {t v},look r t=some v→v= .any ∨look s t=some v
 | [],_,t,v,h=>by cases h
 |(t',v')::r,hl,t,v,h=>by
  rw [AJ] at h
  split at h
  ·rename_i e; cases h; rw [e]; exact hl.1
  ·exact leS_get hl.2 h
theorem leO_get {α:Type} {s:List (Nat × Option α)}:∀ {r:List (Nat × Option α)},leO s r→∀ {t v},look r t=some v→v=none∨look s t=some v
 | [],_,t,v,h=>by cases h
 |(t',v')::r,hl,t,v,h=>by
  rw [AJ] at h
  split at h
  ·rename_i e; cases h; rw [e]; exact hl.1
  ·exact leO_get hl.2 h
theorem OV {α:Type} {s:List (Nat × α)}:∀ {r:List (Nat × α)},IV s r→∀ {t},(look r t).isSome =true→(look s t).isSome =true
 | [],_,t,h=>by cases h
 |(t',v')::r,hl,t,h=>by
  rw [AJ] at h
  split at h
  ·rename_i e; rw [e]; exact hl.1
  ·exact OV hl.2 h
theorem SimE.le {σ σ':St} {a:Act} {w:World} (h:St.Le σ σ') (hs:SimE cx N σ a w):SimE cx N σ' a w:=by
 obtain⟨γ,hs⟩:=hs
 obtain⟨h1,⟨h2,h3⟩,q,u⟩:=h
 refine⟨γ,hs.os.tables (fun t tk _ j=>?_) (fun b vs _ p=>?_),fun i=>?_,fun t j=>OV h3 (hs.td t j),fun b p=>OV u (hs.bd b p),hs.df,hs.n⟩
 ·unfold St.T at j ⊢
  cases hx:look σ'.t t with
  |none=>rw [hx] at j; cases j
  |some o=>
   rw [hx] at j
   simp only [Option.join] at j
   rcases leO_get h2 hx with e|e
   ·rw [e] at j; cases j
   grind
 ·unfold St.B at p ⊢
  cases hx:look σ'.b b with
  |none=>rw [hx] at p; cases p
  |some o=>
   rw [hx] at p
   simp only [Option.join] at p
   rcases leO_get q hx with e|e
   ·rw [e] at p; cases p
   grind
 ·have:=hs.sl i
  unfold St.g at this ⊢
  cases hx:look σ'.s i with
  |none=>trivial
  |some v=>
   rcases leS_get h1 hx with e|e
   ·rw [e]; trivial
   grind
theorem Rr {P:Program} {ops:Array Oper} {base:Nat} {F:(Nat→Bool)→St}:∀ {l:List Oper} {k:Nat} {ds:List (List Nat × List Nat)},Ih P ops base F k l ds→∀ {i:Nat} {o:Oper},l[i]? =some o→∀S:Nat→Bool,S (k+i)=false→(∀e ∈ o.after,Region.binds .any e=true→S e.on=true)→(∀j,j<ops.size→((deps ops.toList).getD j 0).testBit (k+i)=true→S j=false)→aops P ops base 0 (k+i) [o] (F S) fun σ'=>St.Le σ' (F fun j=>if j=k+i then true else S j)
 | [],_,_,_,i,o,h=>by grind
 |_::_,_,[],h,_,_,_=>h.elim
 | o'::l,k,(d,u)::ds,h,0,o,ho=>fun S v hd q=>by
  simp only [List.getElem?_cons_zero,Option.some.injEq] at ho
  subst ho
  refine h.1.2 S v ?_ ?_
  ·have p:=h.1.1.1
   clear h q
   induction d with
   |nil=>trivial
   |cons j r ih=>
    rw [List.all_cons,Bool.and_eq_true] at p
    refine⟨?_,ih p.2⟩
    grind
  ·have p:=h.1.1.2
   clear h hd
   induction u with
   |nil=>trivial
   |cons j r ih=>
    rw [List.all_cons,Bool.and_eq_true] at p
    refine⟨?_,ih p.2⟩
    simp only [Bool.and_eq_true,decide_eq_true_eq] at p
    exact q j p.1.1 p.1.2
 |o'::l,k,(d,u)::ds,h,i+1,o,ho=>fun S v hd q=>by
  rw [List.getElem?_cons_succ] at ho
  have:=Rr h.2 ho S (by rw [show k+1+i=k+(i+1) from by omega]; exact v) hd (fun j hj C=>q j hj (by rw [show k+(i+1)=k+1+i from by omega]; exact C))
  rw [show k+1+i=k+(i+1) from by omega] at this
  omega
theorem gM {l:List Oper} (h:jT l=true):∀i o,l[i]? =some o→∀e ∈ o.after,Region.binds .any e=true→e.on<i:=fun i o ho e j p=>by
 unfold jT at h
 have h1:=List.all_eq_true.1 h (o,i) (List.mem_zipIdx_iff_getElem?.2 ho)
 grind [Array.all_eq_true_iff_forall_mem]
theorem dl {Q:Exit→Act→World→Prop} {F:(Nat→Bool)→St} (hok:∀o ∈ ops.toList,EX N o=true)
  (hon:∀i o,ops.toList[i]? =some o→∀e ∈ o.after,Region.binds .any e=true→e.on<i)
  (hstep:∀S i o,ops.toList[i]? =some o→S i=false→(∀e ∈ o.after,Region.binds .any e=true→S e.on=true)→(∀j,j<ops.size→((deps ops.toList).getD j 0).testBit i=true→S j=false)→aops cx.P ops base 0 i [o] (F S) fun σ'=>St.Le σ' (F fun j=>if j=i then true else S j))
  (hk:∀a w,SimE cx N (F fun _=>true) a w→Q .normal a w):
  ∀ (fuel:Nat) (listed:Array Bool) (a:Act) (w:World),Lst ops listed→listed.toList.count false=fuel→SimE cx N (F fun j=>listed.getD j true) a w→wpAny cx.P .any ops Q fuel listed a w:=by
 have W:∀ {listed:Array Bool} {j:Nat},j<listed.size→listed.getD j true=listed.getD j false:=fun {listed j} hj=>by
  rw [Array.getD_eq_getD_getElem?,Array.getD_eq_getD_getElem?,Array.getElem?_eq_getElem hj]; rfl
 intro fuel
 induction fuel with
 | zero=>
  intro listed a w p hc hs
  have C:∀j,listed.getD j true=true:=fun j=>by
   grind [YY]
  have hr:Region.ready .any ops listed=[] :=by
   simp_all [List.eq_nil_iff_forall_not_mem,mem_ready]
  grind [wpAny_done]
 | succ fuel ih=>
  intro listed a w p hc hs
  refine⟨fun q=>absurd q (p.some_ready hon (by omega)),fun i O=>?_⟩
  obtain⟨q,o,ho,C⟩:=mem_ready.1 O
  have U:=(Array.getElem?_eq_some_iff.1 ho).1
  have u:i<listed.size:=by rw [p.size]; omega
  have v:ops.toList[i]? =some o:=by rw [Array.getElem?_toList]; exact ho
  refine Mc ho (hok o (List.mem_of_getElem? v)) (hstep _ i o v q (fun e he hb=>?_) fun j hj ht=>?_) hs fun σ' a' w' I G=>ih (listed.setIfInBounds i true) a' w' (p.set O) ?_ ?_
  ·grind
  ·have J:j<listed.size:=by rw [p.size]; exact hj
   rw [W J]
   cases hl:listed.getD j false with
   |false=>rfl
   |true=>
    have:=p.far' hj hl ht
    rw [W u] at q
    rw [this] at q
    cases q
  ·grind [Pe]
  ·have:=SimE.le I G
   have Y:(fun j=>if j=i then true else listed.getD j true)=fun j=>(listed.setIfInBounds i true).getD j true:=funext fun j=>by
    by_cases e:j=i
    ·simp_all
    ·rw [if_neg e,getD_set_ne true (fun h=>e h.symm)]
   rw [Y] at this; omega
theorem Z9 {Q:Exit→Act→World→Prop} {K:St→Prop} {E:List Bool} {tr:Tr} {ts:List (Nat × Oper)} {acc:List (Nat × List AV)} (hE:LN E V tr ops=true) (hacc:∀x ∈ acc,∃p ∈ V,x.1 =base+p.1 ∧r p.2 =some ⟨.any,[],[x]⟩) (hacc':∀p ∈ V,∃x ∈ acc,x.1 =base+p.1) (R:Run cx.P ops base V ops.toList ops.size (fun i=> !E.getD i false) f r) (hok:∀o ∈ ops.toList,EX N o=true) (hQ:∀c a w,¬Q (.panic c) a w)
  (hts:∀i o,look ts i=some o→ops.toList[i]? =some o) (h:aTr cx.P ops base ts tr (fin f ops.size acc) K) (hk:∀σ' U w',K σ'→SimE cx N σ' U w'→Q .normal U w'):
  ∀ (fuel:Nat) (listed:Array Bool) (γ:Gh) (a:Act) (w:World),Inv cx N ops base V ops.size (fun i=> !E.getD i false) f r listed γ a w→listed.toList.count false=fuel→wpAny cx.P .any ops Q fuel listed a w:=by
 obtain⟨J,hhd,hp,htl,htr,-⟩:=Tt hE
 have fin:∀ (fuel:Nat) (listed:Array Bool) (γ:Gh) (a:Act) (w:World),Inv cx N ops base V ops.size (fun i=> !E.getD i false) f r listed γ a w→listed.toList.count false=fuel→(∀j,j<ops.size→E.getD j false=false→listed.getD j false=true)→wpAny cx.P .any ops Q fuel listed a w:=fun fuel listed γ a w I O u=>by
  refine(Z8 hts hok J hQ hk tr).1 _ listed (fin f ops.size acc) a w fuel htr I.L (fun j hj=>?_) O h ⟨γ,I.done R (fun j hj hj'=>u j hj (by grind)) hacc hacc'⟩
  rw [List.mem_filter,List.mem_range,Array.length_toList]
  cases hb:E.getD j false with
  |false=>grind
  |true=>
   have:=Pf (I.tail j (by grind) hj)
   rw [this]
   simp
 intro fuel
 induction fuel with
 |zero=>
  intro listed γ a w I O
  refine fin 0 listed γ a w I O fun j hj _=>?_
  have:=YY O (i:=j) (by rw [I.L.size]; exact hj)
  rw [Array.getD_eq_getD_getElem?,Array.getElem?_eq_getElem (by rw [I.L.size]; exact hj)] at this ⊢
  grind
 | succ fuel ih=>
  intro listed γ a w I O
  by_cases hlate:∃q,q<ops.size∧E.getD q false=false∧q ∈ Region.ready .any ops listed∧late ops.toList (deps ops.toList) q=true
  ·obtain⟨q,hq,hEq,W,hl⟩:=hlate
   obtain⟨hns,o,ho,hsf,hg,hap⟩:=V4 hl
   have ho':ops[q]? =some o:=by rw [← Array.getElem?_toList]; exact ho
   obtain⟨v,hy,γ',I'⟩:=I.ext R hp hok hq (by grind) W ho hsf hg
   refine wpAny_first ho' (fun j o cs b hj=>Region.noSelect_spec hns j o cs b hj) (fun c a w h=>(hQ c _ _ h).elim) fuel listed a w (fun j oj hj hne hun hno=>hap j oj hj hne hno ?_) W hy ?_
   ·cases hb:((deps ops.toList).getD q 0).testBit j with
    |false=>rfl
    |true=>have:=I.L.far W hb; rw [Pf hun] at this; grind
   ·refine ih _ γ' _ _ I' ?_
    have:=Pe (i:=q) (by rw [I.L.size]; exact hq) (mem_ready.1 W).1
    omega
  by_cases u:∀j,j<ops.size→E.getD j false=false→listed.getD j false=true
  ·grind
  ·have G:=u
   refine⟨fun h0=>absurd h0 (I.L.some_ready J (by omega)),fun i Y=>?_⟩
   have hi0:=(mem_ready.1 Y).1
   obtain⟨_,oi,hoi,-⟩:=mem_ready.1 Y
   have F:=(Array.getElem?_eq_some_iff.1 hoi).1
   have hin:E.getD i false=false:=by
    cases hEi:E.getD i false with
    |false=>rfl
    | true=>
     exfalso
     have h1:∀j,j<ops.size→E.getD j false=false→listed.getD j false=true∨late ops.toList (deps ops.toList) j=true:=fun j hj C=>by
      rcases htl i j F hj hEi C with h|h
      ·exact .inl (I.L.far Y h)
      grind
     refine G fun j=>?_
     induction j using Nat.strongRecOn with
     | ind j ihj=>
      intro hj C
      rcases h1 j hj C with h|h
      ·exact h
      ·refine Classical.byContradiction fun hlj=>hlate ⟨j,hj,C,?_,h⟩
       have hoj:ops[j]? =some ops[j] :=Array.getElem?_eq_getElem hj
       have hojl:ops.toList[j]? =some ops[j] :=by rw [Array.getElem?_toList]; omega
       refine mem_ready.2 ⟨?_,ops[j],hoj,fun e he hb=>?_⟩
       ·rw [Array.getD_eq_getD_getElem?,Array.getElem?_eq_getElem (by rw [I.L.size]; exact hj),Option.getD_some] at hlj ⊢
        grind
       grind
   refine I.step R hp hok F (by grind) Y fun γ' U w' I'=>ih _ γ' U w' I' ?_
   grind [Pe]
theorem aA {id} {Q} {σ} {K} {a} {w} (hm:cx.P.follows .mixedOrders =true) (hok:∀o ∈ ops.toList,EX N o=true) (hQ:∀c a w,¬Q (.panic c) a w) {E} {tr} (hE:LN E V tr ops=true)
  (h:FS cx.P ops base V E 0 ops.toList [] [] σ fun ts acc σ'=>Zp acc σ' fun σ'=>aTr cx.P ops base ts tr σ' K) (hs:SimE cx N σ a w) (hk:∀σ' a' w',K σ'→SimE cx N σ' a' w'→Q .normal a' w'):(Code.region id ops true).wp cx.P Q a w:=by
 obtain⟨hon,hhd,hp,htl,htr,G⟩:=Tt hE
 have C:=YU G
 have hva:=gG G
 have hgv:∀j o,ops.toList[j]? =some o→CK V j≠ .no →o.guard=none:=fun j o ho hv=>by
  generalize hr:CK V j=vr at hv
  cases vr with
  |no=>grind
  |al=>
   grind [Ke]
  |st k=>
   obtain⟨-,-,-,o1,o2,t,a,x,k1,k2,k3,k4,-,-⟩:=C.1 _ (Kd hr)
   grind
 obtain⟨f,r,ts,acc,k1,⟨k2f,k2⟩,k3,k4,k5,-,k7⟩:=V2 ops.toList E 0 [] [] σ _ h (fun j o ho hj hv=>(hhd j o ho hj).1 (by grind)) fun j o ho hj hv=>hgv j o ho (by grind)
 simp only [Nat.zero_add,Array.length_toList] at k2 k2f k3 k4 k5 k7
 have W:∀j o,ops.toList[j]? =some o→j<ops.size:=fun j o ho=>by
  have:=(List.getElem?_eq_some_iff.1 ho).1
  rwa [Array.length_toList] at this
 have Y:∀x ∈ acc,∃p ∈ V,x.1 =base+p.1 ∧r p.2 =some ⟨.any,[],[x]⟩:=fun x hx=>by
  rcases k5 x hx with h|⟨j,k,e1,e2,e3⟩
  ·cases h
  ·exact⟨(k,j),Kd e1,e2,e3⟩
 have q:∀p ∈ V,∃x ∈ acc,x.1 =base+p.1 :=fun p hp=>by
  grind
 have R:Run cx.P ops base V ops.toList ops.size (fun i=> !E.getD i false) f r:=by
  refine⟨fun i o hi u ho=>(k3 i o ho).2 (by grind),fun i hi u=>?_,by rw [Array.length_toList]; omega,fun i j o o' d hi hj u O ho U J I=>?_,fun p hp=>?_,C.2⟩
  ·have ho:ops.toList[i]? =some ops[i] :=by rw [Array.getElem?_toList]; grind
   grind
  ·rcases Nat.lt_trichotomy i j with W|heq|hgt
   ·exact absurd J ((hp j i o' o hj O u W U ho).1 d I)
   ·omega
   ·exact absurd I ((hp i j o o' hi u O hgt ho U).1 d J)
  ·obtain⟨q0,q1,q2,o1,o2,t,a,x,q3,q4,q5,q6,q7,q8⟩:=C.1 p hp
   obtain⟨x,hx,hxe⟩:=q p hp
   grind [E5]
 refine wp_region_any hm ?_
 obtain⟨γ,hs⟩:=hs
 have hos:=hs.os.below (w':= {w with drawn:=w.drawn+1}) ((Below.refl _ w).drew)
 have v:∀j b,(Array.replicate ops.size false).getD j b=if j<ops.size then false else b:=fun j b=>by
  rw [Array.getD_eq_getD_getElem?,Array.getElem?_replicate]
  split <;> rfl
 have F:∀j,(Array.replicate ops.size false).getD j false=false:=fun j=>by rw [v]; split <;> rfl
 refine Z9 hE Y q R hok hQ (fun i o hlk=>?_) k2 hk ops.size _ γ a _ ⟨⟨by simp,fun j o ho hl=>by grind⟩,fun t _ h2=>by rw [v,if_pos h2],?_,fun j o x _ _ _ _ hl=>(by rw [F] at hl; cases hl),fun x _=>by rw [k1]; exact hs.sl x,fun t h=>.inl (by rw [k1]; exact hs.td t h),fun b h=>.inl (by rw [k1]; exact hs.bd b h),hs.df,hs.n⟩ (by simp)
 ·grind [look]
 refine hos.tables (fun t tk h1 h2=>?_) fun b vs h1 h2=>?_
 ·obtain⟨y,hy⟩:=Option.isSome_iff_exists.1 (hs.td t h1)
  have:=R.look_te (i:=0) (j:=ops.size) (by omega) (Nat.le_refl _) (by rw [k1]; exact hy)
  grind [St.T]
 ·obtain⟨y,hy⟩:=Option.isSome_iff_exists.1 (hs.bd b h1)
  have:=R.look_be (i:=0) (j:=ops.size) (by omega) (Nat.le_refl _) (by rw [k1]; exact hy)
  rw [Tv (R.not_priv this),this] at h2
  grind [St.B]
theorem aB {id} {Q} {σ} {K} {a} {w} (hm:cx.P.follows .mixedOrders =true) (hok:∀o ∈ ops.toList,EX N o=true)
  (h:pc cx.P ops base σ K) (hs:SimE cx N σ a w) (hk:∀σ' a' w',K σ'→SimE cx N σ' a' w'→Q .normal a' w'):(Code.region id ops true).wp cx.P Q a w:=by
 obtain⟨F,U,h1,h2,h3,O⟩:=h
 refine wp_region_any hm ?_
 obtain⟨γ,hs⟩:=hs
 have v:SimE cx N σ a {w with drawn:=w.drawn+1}:=⟨γ,hs.os.below ((Below.refl _ w).drew),hs.sl,hs.td,hs.bd,hs.df,hs.n⟩
 have q:=SimE.le h2 v
 have p:∀j b,(Array.replicate ops.size false).getD j b=if j<ops.size then false else b:=fun j b=>by
  rw [Array.getD_eq_getD_getElem?,Array.getElem?_replicate]
  split <;> rfl
 have u:∀j,(Array.replicate ops.size false).getD j false=false:=fun j=>by rw [p]; split <;> rfl
 have G:(fun j=>decide (ops.size≤j))=fun j=>(Array.replicate ops.size false).getD j true:=funext fun j=>by
  rw [p]
  grind
 rw [G] at q
 refine dl (base:=base) hok (gM h1) (fun S i o ho I hd J=>?_) (fun a w hs=>hk _ a w O hs) ops.size (Array.replicate ops.size false) a _ ⟨by simp,fun j o ho W=>by grind⟩ (by simp) q
 have:=Rr h3 ho S (by rw [Nat.zero_add]; exact I) hd (fun j hj C=>J j hj (by rw [Nat.zero_add] at C; exact C))
 rw [Nat.zero_add] at this
 omega
end
end Go.Proofs.YthenkmapmnkelaaGreatDoor.Ab
