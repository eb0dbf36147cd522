/- The abstract walk, fifteenth part. -/
import Derived.Test.YtjnifengdhcojaaGreatDoorAbN
import Derived.Orders
namespace Go.Proofs.YtjnifengdhcojaaGreatDoor.Ab
set_option linter.unusedVariables false
set_option maxHeartbeats 1000000
set_option linter.unusedSimpArgs false
open Go.RowKit
def Xf (l:List Oper) (S:Nat→Prop):Prop:=∀j o,l[j]? =some o→S j→∀e ∈ o.after,Region.binds .any e=true→S e.on
theorem fD {acc} {o} {i} (h:(mask acc o).testBit i=true):∃e ∈ o.after,Region.binds .any e=true∧(e.on=i∨(acc.getD e.on 0).testBit i=true):=by
 unfold mask at h
 have key:∀ (j:List Edge) (s:Nat),(j.foldl (fun s e=>if Region.binds .any e then s|||(2 ^ e.on|||acc.getD e.on 0) else s) s).testBit i=true→s.testBit i=true∨∃e ∈ j,Region.binds .any e=true∧(e.on=i∨(acc.getD e.on 0).testBit i=true):=by
  intro j
  induction j with
  |nil=>grind
  | cons e j ih=>
   intro s h
   simp only [List.foldl_cons] at h
   rcases ih _ h with h|⟨x,hx,k⟩
   ·split at h
    ·grind
    grind
   grind
 grind
theorem PW (l:List Oper):∀ (rest:List Oper) (acc:List Nat),l=l.take acc.length++rest→acc.length+rest.length=l.length→
  (∀t,t<acc.length→∀S,Xf l S→(∀o,l[t]? =some o→∀e ∈ o.after,Region.binds .any e=true→S e.on)→∀i,(acc.getD t 0).testBit i=true→S i)→
  ∀t,t<l.length→∀S,Xf l S→(∀o,l[t]? =some o→∀e ∈ o.after,Region.binds .any e=true→S e.on)→∀i,((PK acc rest).getD t 0).testBit i=true→S i
 | [],acc,h1,h2,h,t,q=>by
  grind [PK]
 | o ::rest,acc,h1,h2,h,t,q=>by
  simp only [PK]
  have ho:l[acc.length]? =some o:=by
   rw [h1,List.getElem?_append_right (by rw [List.length_take]; omega)]
   have:acc.length - (l.take acc.length).length =0:=by rw [List.length_take]; simp at h2; omega
   rw [this]; rfl
  refine PW l rest (acc++[mask acc o]) ?_ (by simp at h2 ⊢; omega) (fun t q S G hd i u=>?_) t q
  ·rw [List.length_append,List.length_singleton,List.take_add_one,ho]
   simp only [Option.toList_some,List.append_assoc,List.singleton_append]
   exact h1
  ·rw [List.length_append,List.length_singleton] at q
   by_cases he:t=acc.length
   ·subst he
    have C:(acc++[mask acc o]).getD acc.length 0=mask acc o:=by simp [List.getD]
    rw [C] at u
    obtain⟨e,I,hb,hx⟩:=fD u
    have p:=hd o ho e I hb
    rcases hx with rfl|hx
    ·exact p
    ·by_cases j:e.on<acc.length
     ·exact h e.on j S G (fun O J U v F=>G e.on O J p U v F) i hx
     ·simp [List.getD,List.getElem?_eq_none (show acc.length≤e.on by omega)] at hx
   ·have j:t<acc.length:=by omega
    have C:(acc++[mask acc o]).getD t 0=acc.getD t 0:=by simp [List.getD,List.getElem?_append_left j]
    rw [C] at u
    exact h t j S G hd i u
theorem Wt (l:List Oper):∀t,t<l.length→∀S,Xf l S→(∀o,l[t]? =some o→∀e ∈ o.after,Region.binds .any e=true→S e.on)→∀i,((deps l).getD t 0).testBit i=true→S i:=
 PW l l [] (by simp) (by simp) (fun t j=>by grind)
section
variable {P:Program} {ops:Array Oper} {base:Nat} {V:List (Nat × Nat)}
inductive HS (P:Program) (ops:Array Oper) (base:Nat) (V:List (Nat × Nat)) (i:Nat) (o:Oper) (σ σ':St):Option Res→Prop
 | run (r:Res) (hv:Bo V i= .no) (hg:∀j want,o.guard=some (j,want)→∃s,Ij ops j=some s∧σ.g s= .bool want) (hev:Ev P (base+i) o σ.e σ.T σ.B r) (hft:CY σ r.t) (hfb:EA σ r.b)
   (hs:∀x,σ'.g x=if o.dst=some x then r.v else σ.g x) (ht:σ'.t=addT σ.t r.t) (hb:σ'.b=addB σ.b r.b):HS P ops base V i o σ σ' (some r)
 | skip (j:Nat) (want:Bool) (s:Nat) (hv:Bo V i= .no) (hg:o.guard=some (j,want)) (hj:Ij ops j=some s) (hb:σ.g s= .bool (!want)∨σ.g s= .tup [])
   (hs:∀x,σ'.g x=if o.dst=some x then .tup [] else σ.g x) (ht:σ'.t=σ.t) (hb:σ'.b=σ.b):HS P ops base V i o σ σ' none
 | val (t:TypeId) (hv:Bo V i= .al) (hop:o.op= .alloc t) (hgn:o.guard=none) (hz:0<(tz P t).length ∧(tz P t).length =tsz P t∧isMp ((tz P t).map zAV)=false)
   (hs:∀x,σ'.g x=if o.dst=some x then .box (base+i) 0 else σ.g x) (ht:σ'.t=σ.t) (hb:σ'.b=σ.b):HS P ops base V i o σ σ' (some ⟨.box (base+i) 0,[],[(base+i,(tz P t).map zAV)]⟩)
 | vst (k:Nat) (t:TypeId) (a x:Operand) (cs:List AV) (hv:Bo V i= .st k) (hop:o.op= .store t a x) (hgn:o.guard=none) (hc:cellsOf (σ.e x)=some cs) (h3:cs.length=tsz P t∧0<tsz P t∧cs.all AV.one=true) (ha:σ.e a= .box (base+k) 0)
   (hs:∀x,σ'.g x=if o.dst=some x then .any else σ.g x) (ht:σ'.t=σ.t) (hb:σ'.b=σ.b):HS P ops base V i o σ σ' (some ⟨.any,[],[(base+k,cs)]⟩)
theorem PX:∀ {V} {i},Bo V i= .no →∀p ∈ V,p.1 ≠i∧p.2 ≠i
 | [],_,_,p,hp=>by cases hp
 | (k,j)::V,i,h,p,hp=>by
  unfold Bo at h
  split at h
  ·cases h
  ·split at h
   ·cases h
   ·rename_i h1 h2
    rcases List.mem_cons.1 hp with rfl|hp
    ·exact⟨fun e=>h1 e.symm,fun e=>h2 e.symm⟩
    ·exact PX h p hp
theorem KZ:∀ {V} {i k},Bo V i= .st k→(k,i) ∈ V
 | [],_,_,h=>by cases h
 | (k',j)::V,i,k,h=>by
  unfold Bo at h
  split at h
  ·cases h
  ·split at h
   ·rename_i e
    cases h; subst e
    exact List.mem_cons_self
   ·exact List.mem_cons_of_mem _ (KZ h)
def dT (P:Program) (ops:Array Oper) (base:Nat) (V:List (Nat × Nat)):Nat→List Oper→St→St→Prop
 |_,[],σ,σ'=>σ=σ'
 |i,o::l,σ,σ'=>∃r σm,HS P ops base V i o σ σm r∧dT P ops base V (i+1) l σm σ'
theorem PY {σ σ'} (h:σ'.t=σ.t):∀ {l},CY σ' l→CY σ l
 | [],_=>trivial
 |(n,tk)::l,hf=>by
  simp only [CY] at hf ⊢
  exact⟨by rw [← h]; exact hf.1,PY h hf.2⟩
theorem PZ {σ σ'} (h:σ'.b=σ.b):∀ {l},EA σ' l→EA σ l
 | [],_=>trivial
 |(n,tk)::l,hf=>by
  simp only [EA] at hf ⊢
  exact⟨by rw [← h]; exact hf.1,PZ h hf.2⟩
theorem kj {σ σ':St} (h:∀x,σ'.g x=σ.g x):σ'.e=σ.e:=funext fun x=>by cases x <;> simp [St.e,h]
theorem UT {pos} {o} {σ} {K} (he:Yt o=false) (h:aop P pos o σ K):∃r,Ev P pos o σ.e σ.T σ.B r∧CY σ r.t∧EA σ r.b∧K (σ.add o.dst r):=by
 grind [aop,Yt]
theorem dU {L} {pos} {o} {σ} {K} (hL:L=false) (he:OG o=false) (h:Ts P L pos o σ K):∃r,Ev P pos o σ.e σ.T σ.B r∧CY σ r.t∧EA σ r.b∧K (σ.add o.dst r):=by
 rcases h with ⟨hA,h⟩|⟨h,-⟩|⟨-,-,h⟩
 ·grind [UT,OG]
 ·rw [hL] at h; cases h
 omega
theorem Wu {cut:Nat}:∀ {l1 l2:List Oper} {i:Nat} {σ:St} {K:St→Prop},(∀j,i≤j→j<i+l1.length→Bo V j= .no)→(∀o ∈ l1,OG o=false)→i+l1.length≤cut→aops P ops base cut i (l1++l2) σ K→∃σ',dT P ops base V i l1 σ σ'∧aops P ops base cut (i+l1.length) l2 σ' K
 | [],l2,i,σ,K,_,_,_,h=>⟨σ,rfl,h⟩
 | o ::l1,l2,i,σ,K,hv,he,hcut,h=>by
  rw [List.length_cons] at hcut
  have q:Bo V i= .no :=hv i (Nat.le_refl _) (by rw [List.length_cons]; omega)
  have I:decide (cut≤i)=false:=by grind
  have F:=he o (by simp)
  rw [List.cons_append] at h
  unfold aops at h
  have next:∀σm r,HS P ops base V i o σ σm r→aops P ops base cut (i+1) (l1++l2) σm K→∃σ',dT P ops base V i (o::l1) σ σ'∧aops P ops base cut (i+(o::l1).length) l2 σ' K:=fun σm r O hm=>by
   obtain⟨σ',h1,h2⟩:=Wu (fun j h1 h2=>hv j (by omega) (by rw [List.length_cons]; omega)) (fun o ho=>he o (by grind)) (by omega) hm
   exact⟨σ',⟨r,σm,O,h1⟩,by rw [List.length_cons,show i+(l1.length+1)=i+1+l1.length from by omega]; exact h2⟩
  split at h
  ·rename_i hg
   obtain⟨r,h1,h2,h3,J⟩:=dU I F h
   refine next _ _ (.run r q (fun j p e=>by rw [hg] at e; cases e) h1 h2 h3 (fun x=>?_) rfl rfl) J
   have:(σ.add o.dst r).g x=(σ.put o.dst r.v).g x:=rfl
   rw [this,St.g_put]
  ·rename_i j p hg
   obtain⟨s,hj,h⟩:=h
   rcases h with ⟨b,hb,h1,h2⟩|⟨hb,h2⟩
   case inr=>
    refine next _ _ (.skip j p s q hg hj (.inr hb) (fun x=>by rw [St.g_put]) ?_ ?_) h2
    ·cases o.dst <;> rfl
    ·cases o.dst <;> rfl
   case inl=>
    have u:∀c,b=c→∀x,(σ.put (some s) (.bool c)).g x=σ.g x:=fun c e x=>by
     grind [St.g_put]
    by_cases hbw:b=p
    ·obtain⟨r,k1,k2,k3,k4⟩:=dU I F (h1 hbw)
     have hp:=u p hbw
     rw [kj hp] at k1
     refine next _ _ (.run r q (fun U G e=>?_) k1 (PY (σ:=σ) (σ':=σ.put (some s) (.bool p)) rfl k2) (PZ (σ:=σ) (σ':=σ.put (some s) (.bool p)) rfl k3) (fun x=>?_) rfl rfl) k4
     ·rw [hg] at e; grind
     ·have:((σ.put (some s) (.bool p)).add o.dst r).g x=((σ.put (some s) (.bool p)).put o.dst r.v).g x:=rfl
      rw [this,St.g_put,hp]
    ·have C:b= !p:=by cases b <;> cases p <;> simp_all
     have hp:=u (!p) C
     refine next _ _ (.skip j p s q hg hj (.inl (by rw [hb,C])) (fun x=>by rw [St.g_put,hp]) ?_ ?_) (h2 C)
     ·cases o.dst <;> rfl
     ·cases o.dst <;> rfl
end
section
variable {P:Program} {ops:Array Oper} {base:Nat} {V:List (Nat × Nat)} {l:List Oper} {hd:Nat→Bool} {f:Nat→St} {r:Nat→Option Res}
structure Run (P:Program) (ops:Array Oper) (base:Nat) (V:List (Nat × Nat)) (l:List Oper) (n:Nat) (hd:Nat→Bool) (f:Nat→St) (r:Nat→Option Res):Prop where
 st:∀i o,i<n→hd i=true→l[i]? =some o→HS P ops base V i o (f i) (f (i+1)) (r i)
 sk:∀i,i<n→hd i=false→f (i+1)=f i
 le:n≤l.length
 un:∀i j o o' d,i<n→j<n→hd i=true→hd j=true→l[i]? =some o→l[j]? =some o'→o.dst=some d→o'.dst=some d→i=j
 vp:∀p ∈ V,p.1 <n∧p.2 <n∧hd p.1 =true∧hd p.2 =true∧Bo V p.1 = .al ∧Bo V p.2 = .st p.1 ∧look (f n).b (base+p.1)=none∧((deps l).getD p.2 0).testBit p.1 =true∧∃o o' t a x,l[p.1]? =some o∧l[p.2]? =some o'∧o.op= .alloc t∧o'.op= .store t a x
 vn:∀p ∈ V,∀q ∈ V,p.1 =q.1 ↔p.2 =q.2
variable {n:Nat} (R:Run P ops base V l n hd f r)
include R
theorem Run.op {i} (hi:i<n):∃o,l[i]? =some o:=⟨l[i]'(by have:=R.le; omega),List.getElem?_eq_getElem _⟩
theorem Run.g_step {i} (hi:i<n) {o} (ho:l[i]? =some o) (x:Nat) (hx:hd i=true→o.dst≠some x):(f (i+1)).g x=(f i).g x:=by
 cases hh:hd i with
 |false=>rw [R.sk i hi hh]
 |true=>
 have hx:=hx hh
 have p:=R.st i o hi hh ho
 generalize r i=ri at p
 cases p with
 |run rr hv hg hev hft hfb hs ht hb=>rw [hs,if_neg hx]
 |skip j want s hv hg hj hb hs ht hb'=>rw [hs,if_neg hx]
 |val t hv hop hgn hz hs ht hb=>rw [hs,if_neg hx]
 |vst k t a y cs hv hop hgn hc h3 ha hs ht hb=>rw [hs,if_neg hx]
theorem Run.look_t {i} (hi:i<n) {x} {y} (h:look (f i).t x=some y):look (f (i+1)).t x=some y:=by
 obtain⟨o,ho⟩:=R.op hi
 cases hh:hd i with
 |false=>rw [R.sk i hi hh]; exact h
 |true=>
 have p:=R.st i o hi hh ho
 generalize r i=ri at p
 cases p with
 | run rr hv hg hev hft hfb hs ht hb=>
  rw [ht,PT]
  ·exact h
  ·intro z hz e
   grind [Fi]
 |skip j want s hv hg hj hb hs ht hb'=>rw [ht]; exact h
 |val t hv hop hgn hz hs ht hb=>rw [ht]; exact h
 |vst k t a y cs hv hop hgn hc h3 ha hs ht hb=>rw [ht]; exact h
theorem Run.look_b {i} (hi:i<n) {x} {y} (h:look (f i).b x=some y):look (f (i+1)).b x=some y:=by
 obtain⟨o,ho⟩:=R.op hi
 cases hh:hd i with
 |false=>rw [R.sk i hi hh]; exact h
 |true=>
 have p:=R.st i o hi hh ho
 generalize r i=ri at p
 cases p with
 | run rr hv hg hev hft hfb hs ht hb=>
  rw [hb,PU]
  ·exact h
  ·intro z hz e
   grind [El]
 |skip j want s hv hg hj hb hs ht hb'=>rw [hb']; exact h
 |val t hv hop hgn hz hs ht hb=>rw [hb]; exact h
 |vst k t a y cs hv hop hgn hc h3 ha hs ht hb=>rw [hb]; exact h
theorem Run.look_t':∀ {k i},i+k≤n→∀ {x} {y},look (f i).t x=some y→look (f (i+k)).t x=some y
 |0,i,_,x,y,h=>h
 |k+1,i,hk,x,y,h=>R.look_t (i:=i+k) (by omega) (Run.look_t' (k:=k) (by omega) h)
theorem Run.look_b':∀ {k i},i+k≤n→∀ {x} {y},look (f i).b x=some y→look (f (i+k)).b x=some y
 |0,i,_,x,y,h=>h
 |k+1,i,hk,x,y,h=>R.look_b (i:=i+k) (by omega) (Run.look_b' (k:=k) (by omega) h)
theorem Run.look_te {i j} (hij:i≤j) (hj:j≤n) {x} {y} (h:look (f i).t x=some y):look (f j).t x=some y:=by
 have:=R.look_t' (k:=j - i) (i:=i) (by omega) h
 rwa [show i+(j - i)=j from by omega] at this
theorem Run.look_be {i j} (hij:i≤j) (hj:j≤n) {x} {y} (h:look (f i).b x=some y):look (f j).b x=some y:=by
 have:=R.look_b' (k:=j - i) (i:=i) (by omega) h
 rwa [show i+(j - i)=j from by omega] at this
theorem Run.g_same:∀ {k i},i+k≤n→∀ {x},(∀j o,i≤j→j<i+k→hd j=true→l[j]? =some o→o.dst≠some x)→(f (i+k)).g x=(f i).g x
 |0,i,_,x,h=>rfl
 |k+1,i,hk,x,h=>by
  obtain⟨o,ho⟩:=R.op (i:=i+k) (by omega)
  have h1:=R.g_step (i:=i+k) (by omega) ho x (fun q=>h (i+k) o (by omega) (by omega) q ho)
  rw [show i+(k+1)=i+k+1 from by omega,h1]
  exact Run.g_same (k:=k) (by omega) fun j o hj p=>h j o hj (by omega)
theorem Run.g_final {i} (hi:i<n) (hh:hd i=true) {o} (ho:l[i]? =some o) {x} (hx:o.dst=some x) {j} (hj:i<j) (hjn:j≤n):(f j).g x=(f (i+1)).g x:=by
 have:=R.g_same (k:=j - (i+1)) (i:=i+1) (by omega) (x:=x) fun C v h1 h2 q u p=>by
  have:=R.un i C o v x hi (by omega) hh q ho u hx p
  omega
 rwa [show i+1+(j - (i+1))=j from by omega] at this
end
def dV (ops:Array Oper) (n:Nat) (hd:Nat→Bool):Prop:=∀i j x y,i<n→hd i=true→hd j=true→j<i→ops.toList[i]? =some x→ops.toList[j]? =some y→
 (∀d,x.dst=some d→y.dst≠some d)∧(WQ ops x y=true→((deps ops.toList).getD i 0).testBit j=true)
section
variable {P:Program} {ops:Array Oper} {base:Nat} {V:List (Nat × Nat)}
theorem Wv:∀ (l:List Oper) (E:List Bool) (i:Nat) (ts:List (Nat × Oper)) (acc:List (Nat × List AV)) (σ:St) (K:List (Nat × Oper)→List (Nat × List AV)→St→Prop),FE P ops base V E i l ts acc σ K→(∀j o,l[j]? =some o→E.getD j false=false→Bo V (i+j)= .no →OG o=false)→(∀j o,l[j]? =some o→E.getD j false=false→Bo V (i+j)≠ .no →o.guard=none)→
  ∃ (f:Nat→St) (r:Nat→Option Res) (u:List (Nat × Oper)) (p:List (Nat × List AV)),f i=σ∧K u p (f (i+l.length))∧(∀j o,l[j]? =some o→(E.getD j false=true→f (i+j+1)=f (i+j))∧(E.getD j false=false→HS P ops base V (i+j) o (f (i+j)) (f (i+j+1)) (r (i+j))))∧
   (∀k o,look u k=some o→look ts k=some o∨∃j,k=i+j∧l[j]? =some o)∧
   (∀x ∈ p,x ∈ acc∨∃j k,Bo V (i+j)= .st k∧x.1 =base+k∧r (i+j)=some ⟨.any,[],[x]⟩)∧(∀x ∈ acc,x ∈ p)∧∀j k,j<l.length→E.getD j false=false→Bo V (i+j)= .st k→∃x ∈ p,x.1 =base+k
 | [],E,i,ts,acc,σ,K,h,_,_=>⟨fun _=>σ,fun _=>none,ts,acc,rfl,by grind [FE],fun j o h=>by grind,fun k o h=>.inl h,fun x hx=>.inl hx,fun x hx=>hx,fun j k h=>by grind⟩
 | o ::l,E,i,ts,acc,σ,K,h,he,hgn=>by
  have done:∀ (G:List Bool) (I:List (Nat × Oper)) (v:List (Nat × List AV)) (σ1:St) (O:Option Res),FE P ops base V G (i+1) l I v σ1 K→(∀j,G.getD j false=E.getD (j+1) false)→(E.getD 0 false=true→σ1=σ)→(E.getD 0 false=false→HS P ops base V i o σ σ1 O)→
    (∀k q,look I k=some q→look ts k=some q∨(k=i∧q=o))→(∀x ∈ v,x ∈ acc∨∃k,Bo V i= .st k∧x.1 =base+k∧O=some ⟨.any,[],[x]⟩)→(∀x ∈ acc,x ∈ v)→(∀k,E.getD 0 false=false→Bo V i= .st k→∃x ∈ v,x.1 =base+k)→
    ∃ (f:Nat→St) (r:Nat→Option Res) (u:List (Nat × Oper)) (p:List (Nat × List AV)),f i=σ∧K u p (f (i+(o::l).length))∧(∀j q,(o::l)[j]? =some q→(E.getD j false=true→f (i+j+1)=f (i+j))∧(E.getD j false=false→HS P ops base V (i+j) q (f (i+j)) (f (i+j+1)) (r (i+j))))∧
     (∀k q,look u k=some q→look ts k=some q∨∃j,k=i+j∧(o::l)[j]? =some q)∧
     (∀x ∈ p,x ∈ acc∨∃j k,Bo V (i+j)= .st k∧x.1 =base+k∧r (i+j)=some ⟨.any,[],[x]⟩)∧(∀x ∈ acc,x ∈ p)∧∀j k,j<(o::l).length →E.getD j false=false→Bo V (i+j)= .st k→∃x ∈ p,x.1 =base+k:=by
   intro G I v σ1 O h1 U h2 h3 h4 h5 h6 h7
   obtain⟨f,r,u,p,k1,k2,k3,k4,k5,k6,k7⟩:=Wv l G (i+1) I v σ1 K h1 (fun j q Y hj hv=>he (j+1) q (by grind) (by rw [← U]; exact hj) (by rw [show i+(j+1)=i+1+j from by omega]; exact hv)) fun j q Y hj hv=>hgn (j+1) q (by grind) (by rw [← U]; exact hj) (by rw [show i+(j+1)=i+1+j from by omega]; exact hv)
   refine⟨fun x=>if x=i then σ else f x,fun x=>if x=i then O else r x,u,p,by simp,?_,fun j q Y=>?_,fun k q hk=>?_,fun x hx=>?_,fun x hx=>k6 x (h6 x hx),fun j k hj hEj hv=>?_⟩
   ·grind
   ·cases j with
    |zero=>
     grind
    |succ j=>
     grind
   ·rcases k4 k q hk with h|⟨j,h5,h6⟩
    ·rcases h4 k q h with h|⟨h,h'⟩
     ·grind
     simp_all
    ·exact .inr ⟨j+1,by omega,by grind⟩
   ·rcases k5 x hx with h|⟨j,k,e1,e2,e3⟩
    ·rcases h5 x h with h|⟨k,e1,e2,e3⟩
     ·grind
     ·exact .inr ⟨0,k,e1,e2,by grind⟩
    ·refine .inr ⟨j+1,k,by rw [show i+(j+1)=i+1+j from by omega]; exact e1,e2,?_⟩
     grind
   ·cases j with
    |zero=>
     grind
    |succ j=>grind
  have run:∀ (G:List Bool),MN P ops base (Bo V i) i o acc σ (fun p σ'=>FE P ops base V G (i+1) l ts p σ' K)→(∀j,G.getD j false=E.getD (j+1) false)→E.getD 0 false=false→∃ (f:Nat→St) (r:Nat→Option Res) (u:List (Nat × Oper)) (p:List (Nat × List AV)),f i=σ∧K u p (f (i+(o::l).length))∧(∀j q,(o::l)[j]? =some q→(E.getD j false=true→f (i+j+1)=f (i+j))∧(E.getD j false=false→HS P ops base V (i+j) q (f (i+j)) (f (i+j+1)) (r (i+j))))∧
     (∀k q,look u k=some q→look ts k=some q∨∃j,k=i+j∧(o::l)[j]? =some q)∧
     (∀x ∈ p,x ∈ acc∨∃j k,Bo V (i+j)= .st k∧x.1 =base+k∧r (i+j)=some ⟨.any,[],[x]⟩)∧(∀x ∈ acc,x ∈ p)∧∀j k,j<(o::l).length →E.getD j false=false→Bo V (i+j)= .st k→∃x ∈ p,x.1 =base+k:=by
   intro G h1 U C
   have F:Bo V i≠ .no →o.guard=none:=fun hv=>hgn 0 o rfl C (by rw [Nat.add_zero]; exact hv)
   have W:Bo V i= .no →OG o=false:=fun hv=>he 0 o rfl C (by rw [Nat.add_zero]; exact hv)
   generalize hvr:Bo V i=vr at h1 F W
   cases vr with
   | no=>
    have heo:=W rfl
    simp only [MN] at h1
    obtain⟨σ',⟨O,σm,hs,hm⟩,h2⟩:=Wu (V:=V) (cut:=i+1) (l1:=[o]) (l2:=[]) (i:=i) (fun j h1 h2=>by
     have:j=i:=by grind
     rw [this,hvr]) (by grind) (by simp) (by simpa using h1)
    simp only [dT] at hm
    subst hm
    simp only [aops] at h2
    exact done G ts acc σm O h2 U (fun h=>by rw [C] at h; cases h) (fun _=>hs) (fun k q h=>.inl h) (fun x hx=>.inl hx) (fun x hx=>hx) fun k _ h=>by rw [hvr] at h; cases h
   | al=>
    simp only [MN] at h1
    split at h1
    ·rename_i t J
     exact done G ts acc _ _ h1.2 U (fun h=>by rw [C] at h; cases h) (fun _=>.val t hvr J (F (by simp)) h1.1 (fun x=>by rw [St.g_put]) (by cases o.dst <;> rfl) (by cases o.dst <;> rfl)) (fun k q h=>.inl h) (fun x hx=>.inl hx) (fun x hx=>hx) fun k _ h=>by rw [hvr] at h; cases h
    grind
   | st k0=>
    simp only [MN] at h1
    split at h1
    ·rename_i t a x J
     split at h1
     ·rename_i cs hcs
      obtain⟨h31,h32,h33⟩:=h1
      refine done G ts _ _ _ h33 U (fun h=>by rw [C] at h; cases h) (fun _=>.vst k0 t a x cs hvr J (F (by simp)) hcs h31 h32 (fun x=>by rw [St.g_put]) (by cases o.dst <;> rfl) (by cases o.dst <;> rfl)) (fun k q h=>.inl h) (fun y hy=>?_) (fun y hy=>List.mem_cons_of_mem _ hy) fun k _ h=>⟨_,List.mem_cons_self,?_⟩
      ·grind
      grind
     grind
    grind
  cases E with
  |nil=>
   simp only [FE] at h
   exact run [] h (fun j=>by simp) (by simp)
  | cons b E=>
   cases b with
   |true=>
    simp only [FE] at h
    refine done E ((i,o)::ts) acc σ none h (fun j=>by simp) (fun _=>rfl) (fun h=>by grind) (fun k q hk=>?_) (fun x hx=>.inl hx) (fun x hx=>hx) fun k h=>by grind
    rw [AI] at hk
    grind
   |false=>
    simp only [FE] at h
    exact run E h (fun j=>by simp) (by simp)
end
theorem ZS {E} {V} {l} {m} (h:vOk E V l m=true):(∀p ∈ V,(m.getD p.2 0).testBit p.1 =true∧E.getD p.1 false=false∧E.getD p.2 false=false∧∃o j t a x,l[p.1]? =some o∧l[p.2]? =some j∧o.guard=none∧j.guard=none∧o.op= .alloc t∧j.op= .store t a x)∧∀p ∈ V,∀q ∈ V,p.1 =q.1 ↔p.2 =q.2 :=by
 unfold vOk at h
 rw [Bool.and_eq_true,List.all_eq_true,List.all_eq_true] at h
 refine⟨fun p hp=>?_,fun p hp q F=>?_⟩
 ·have h1:=h.1 p hp
  rw [Bool.and_eq_true,Bool.and_eq_true,Bool.and_eq_true,Bool.not_eq_true',Bool.not_eq_true'] at h1
  refine⟨h1.1.1.1,h1.1.1.2,h1.1.2,?_⟩
  have h2:=h1.2
  split at h2
  ·rename_i o j ho C
   rw [Bool.and_eq_true,Bool.and_eq_true] at h2
   have h3:=h2.2
   split at h3
   ·rename_i t t' a x v u
    have:t=t':=by grind
    subst this
    exact⟨o,j,t,a,x,ho,C,by simpa using h2.1.1,by simpa using h2.1.2,v,u⟩
   grind
  grind
 grind
theorem iG {E} {V} {l} {m} (h:vOk E V l m=true):∀p ∈ V,Bo V p.1 = .al ∧Bo V p.2 = .st p.1 :=by
 obtain⟨h1,h2⟩:=ZS h
 have key:∀ (W:List (Nat × Nat)),(∀q ∈ W,q ∈ V)→∀p ∈ W,Bo W p.1 = .al ∧Bo W p.2 = .st p.1 :=by
  intro W
  induction W with
  |nil=>grind
  |cons q W ih=>
   grind [Bo]
 exact key V fun q j=>j
theorem UU {E} {V} {tr} {ops} (h:LA E V tr ops=true):
  (∀i o,ops.toList[i]? =some o→∀e ∈ o.after,Region.binds .any e=true→e.on<i)∧
  (∀i o,ops.toList[i]? =some o→E.getD i false=false→(Bo V i= .no →OG o=false)∧∀e ∈ o.after,Region.binds .any e=true→E.getD e.on false=false)∧
  dV ops ops.size (fun i=> !E.getD i false)∧
  (∀t j,t<ops.size→j<ops.size→E.getD t false=true→E.getD j false=false→((deps ops.toList).getD t 0).testBit j=true∨late ops.toList (deps ops.toList) j=true)∧
  Vj ops.toList (deps ops.toList) tr ((List.range ops.toList.length).filter fun i=> !E.getD i false)=true∧vOk E V ops.toList (deps ops.toList)=true:=by
 unfold LA at h
 simp only [Bool.and_eq_true,List.all_eq_true] at h
 obtain⟨⟨⟨⟨⟨h1,h2⟩,h3⟩,Y⟩,U⟩,O⟩:=h
 refine⟨fun i o ho e I hb=>?_,fun i o ho v=>?_,fun i j x y J q u hj hx hy=>?_,fun t j C hj v F=>?_,U,O⟩
 ·have:=h1 (o,i) (by rw [List.mem_zipIdx_iff_getElem?]; exact ho)
  grind [Array.all_eq_true_iff_forall_mem]
 ·have:=h2 (o,i) (by rw [List.mem_zipIdx_iff_getElem?]; exact ho)
  simp only [v,Bool.false_or,Bool.and_eq_true,Bool.or_eq_true,Bool.not_eq_true',Array.all_eq_true_iff_forall_mem] at this
  refine⟨fun hv=>?_,fun e I hb=>?_⟩
  ·rcases this.1 with h|h
   ·exact h
   ·rw [List.any_eq_true] at h
    obtain⟨p,hp,W⟩:=h
    grind [PX]
  grind
 ·have:=h3 i (List.mem_range.2 (by rw [Array.length_toList]; exact J))
  simp only [Bool.not_eq_true'] at q u
  simp only [q,Bool.false_or,List.all_eq_true] at this
  have:=this j (List.mem_range.2 hj)
  rw [u,hx,hy] at this
  simp only [Bool.false_or,Bool.and_eq_true,Bool.or_eq_true,Bool.not_eq_true'] at this
  refine⟨fun d hd G=>?_,fun C=>?_⟩
  ·grind
  grind
 grind
def Ind {α:Type} (P:Program) (s:Sem α):Prop:=(∃v,∀w,s.run P w= .ok v w)∨∀w,∃h w1,s.run P w= .halt h w1
theorem Ind.ok {α:Type} {P} (x:α):Ind P (pure x:Sem α):=.inl ⟨x,fun w=>by simp⟩
theorem Ind.stop {α:Type} {P} (h:Halt):Ind P (.halt h:Sem α):=.inr fun w=>⟨h,w,rfl⟩
theorem Ind.bind {α β:Type} {P:Program} {s:Sem α} {k:α→Sem β} (h:Ind P s) (hk:∀a,Ind P (k a)):Ind P (s >>= k):=by
 rcases h with ⟨v,h⟩|h
 ·rcases hk v with ⟨u,h'⟩|h'
  ·exact .inl ⟨u,fun w=>by rw [Sem.run_bind,h]; exact h' w⟩
  ·refine .inr fun w=>?_
   simp_all
 ·refine .inr fun w=>?_
  obtain⟨x,w1,e⟩:=h w
  simp_all
def ZT {α:Type} (P:Program) (s:Sem α):Prop:=∀w,∃h w1,s.run P w= .halt h w1
theorem ZT.ind {α:Type} {P:Program} {s:Sem α} (h:ZT P s):Ind P s:=.inr h
theorem ZT.bind {α β:Type} {P:Program} {s:Sem α} {k:α→Sem β} (hk:∀a,ZT P (k a)):ZT P (s >>= k):=fun w=>by
 rw [Sem.run_bind]
 cases s.run P w with
 |ok a w'=>exact hk a w'
 |halt h w'=>simp_all
theorem Fk {P:Program} (t:TypeId):Ind P (underlying t):=by
 unfold underlying
 refine Ind.bind (.inl ⟨P,fun w=>by rfl⟩) fun p=>?_
 cases p.underlying t with
 |none=>exact Ind.stop _
 |some d=>exact Ind.ok d
theorem MY {P:Program} (t:TypeId):Ind P (sizeOf t):=by
 unfold sizeOf typeInfo
 refine Ind.bind (Ind.bind (.inl ⟨P,fun w=>by rfl⟩) fun p=>?_) fun i=>Ind.ok _
 cases p.info? t with
 |none=>exact Ind.stop _
 |some d=>exact Ind.ok d
theorem Gj {α:Type} {P:Program} (k:IntKind) (x y:Int) (c:BoundsCode):ZT P (boundsPanic k x y c:Sem α):=by
 unfold boundsPanic
 dsimp only
 split
 all_goals
  refine ZT.bind fun b=>?_
  unfold runtimePanic
  refine ZT.bind fun p=>fun w=>?_
  exact⟨_,w,rfl⟩
theorem iH {P} (x:Value):Ind P (Instr.sureAddr x):=by
 unfold Instr.sureAddr
 split
 ·exact Ind.ok _
 ·exact Ind.stop _
theorem fE {P} {s} {k} {q} (hq:fOff P s k=some q) (hz:0<tsz P q.2) (g o:Nat) (w:World):(Instr.fieldAt s (.pointer (some ⟨g,o,none⟩)) k).run P w= .ok (.pointer (some ⟨g,o+q.1,none⟩)) w:=by
 unfold fOff at hq
 split at hq
 ·rename_i fs j
  obtain⟨p,u,rfl⟩:=dC j
  rw [List.getElem?_map,Array.getElem?_toList] at hq
  cases hg:p[k]? with
  |none=>grind
  |some fd=>
   simp only [hg,Option.map_some,Option.some.injEq] at hq
   subst hq
   have v:tsz P fd.type≠0:=by grind
   simp_all [Instr.fieldAt,run_underlying,Instr.sureAddr,fieldPlace,CZ,Addr.add_lit]
 grind
theorem fF {P:Program} (t:TypeId) (x i:Value):Ind P (Instr.indexAt t x i):=by
 unfold Instr.indexAt
 refine Ind.bind ?_ fun q=>?_
 ·unfold asIntOf
  split
  ·exact Ind.ok _
  ·exact Ind.stop _
  ·exact Ind.stop _
 obtain⟨k,i⟩:=q
 dsimp only
 refine Ind.bind (Fk t) fun d=>?_
 split
 ·refine Ind.bind (iH _) fun a=>Ind.bind (Ind.ok _) fun p=>Ind.bind (Fk t) fun j=>?_
  split
  ·split
   ·grind [Ind.bind,MY,Ind.ok]
   ·split <;> (split <;> first|exact Ind.stop _|exact(Gj _ _ _ _).ind)
  ·exact(Gj _ _ _ _).ind
 ·refine Ind.bind (Ind.ok _) fun p=>Ind.bind (Fk t) fun j=>?_
  split
  ·split
   ·grind [Ind.bind,MY,Ind.ok]
   ·split <;> (split <;> first|exact Ind.stop _|exact(Gj _ _ _ _).ind)
  ·exact(Gj _ _ _ _).ind
 ·refine Ind.bind (Ind.stop _) fun p=>Ind.bind (Fk t) fun j=>?_
  split
  ·split
   ·grind [Ind.bind,MY,Ind.ok]
   ·split <;> (split <;> first|exact Ind.stop _|exact(Gj _ _ _ _).ind)
  ·exact(Gj _ _ _ _).ind
theorem iI {P:Program} (t:TypeId):Ind P (typeInfo t):=by
 unfold typeInfo
 refine Ind.bind (.inl ⟨P,fun w=>by rfl⟩) fun p=>?_
 cases p.info? t with
 |none=>exact Ind.stop _
 |some d=>exact Ind.ok d
theorem iJ {P:Program} (t:TypeId):Ind P (zeroValue t):=by
 unfold zeroValue
 refine Ind.bind (iI t) fun i=>?_
 cases i.zero with
 |none=>exact Ind.stop _
 |some z=>exact Ind.ok z
theorem ZU {α β:Type} {P:Program} {g:α→Sem β} (h:∀x,Ind P (g x)):∀l:List α,Ind P (l.mapM g)
 | [] =>by rw [List.mapM_nil]; exact Ind.ok _
 |x::l=>by
  rw [List.mapM_cons]
  exact Ind.bind (h x) fun y=>Ind.bind (ZU h l) fun j=>Ind.ok _
theorem fG {P:Program} (t:TypeId) (ps:Array (Nat × Value)):Ind P (Instr.build t ps):=by
 unfold Instr.build
 refine Ind.bind (iJ t) fun z=>Ind.bind (Fk t) fun d=>?_
 split
 ·refine Ind.bind ?_ fun pl=>?_
  ·rw [Array.mapM_eq_mapM_toList,map_eq_pure_bind]
   grind [Ind.bind,ZU,MY,Ind.ok]
  ·split
   ·exact Ind.ok _
   ·exact Ind.stop _
 ·refine Ind.bind (MY _) fun n=>?_
  split
  ·exact Ind.ok _
  ·exact Ind.stop _
 ·exact Ind.stop _
def Q5 (P:Program) (o:Oper) (a:Act):Prop:=(∃u,∀w,(execOp a.eval o).run P w= .ok (.value u) w)∨∀w,∃h w1,(execOp a.eval o).run P w= .halt h w1
theorem NN {P} {o} {a} {s} (he:execOp a.eval o=s >>= fun x=>pure (.value x)) (h:Ind P s):Q5 P o a:=by
 unfold Q5
 rw [he]
 rcases h with ⟨v,h⟩|h
 ·simp_all
 ·refine .inr fun w=>?_
  obtain⟨x,w1,e⟩:=h w
  simp_all
theorem bin_det {P} {op} {t} {x y v} (h:Bin P op t x y v) (hop:op= .add ∨op= .sub):(∃k n,v= .int k n)∨∃s,v= .str s:=by
 rcases hop with rfl|rfl
 all_goals
  unfold Bin at h
  split at h <;> simp_all [Lt]
  all_goals exact .inl ⟨_,_,h.2.symm⟩
theorem ZV {cx:Cx} {γ:Gh} {op:BinOp} {t yt:TypeId} {x y:Operand} {ex ey v:AV} {a:Act} {dst:Option Tmp} {ty:TypeId} {ps:String} {after:Array Edge} {guard:Option (Nat × Bool)} (hx:VSim γ.vw γ ex (a.eval x)) (hy:VSim γ.vw γ ey (a.eval y)) (h:Bin cx.P op t ex ey v) (hop:op= .add ∨op= .sub):
  Q5 cx.P ⟨dst,.binOp op t x y yt,ty,ps,after,guard⟩ a:=by
 have p:∃u,∀j,VSim γ.vw γ v j→j=u:=by
  rcases bin_det h hop with ⟨k,n,rfl⟩|⟨s,rfl⟩
  ·exact⟨_,fun j h=>by simp only [VSim] at h; exact h.1⟩
  ·exact⟨_,fun j h=>by simp only [VSim] at h; exact h.1⟩
 obtain⟨u,p⟩:=p
 refine .inl ⟨u,fun w=>?_⟩
 obtain⟨q,h2,h3⟩:=WT (cx:=cx) (w:=w) (ox:=x) (oy:=y) hx hy h
 rw [← p q h3]
 simp only [execOp,Sem.run_bind] at h2 ⊢
 rw [h2]; rfl
theorem Pa {cx:Cx} {N:Nat} {γ:Gh} {T:Nat→Option Tok} {B:Nat→Option (List AV)} {pos:Nat} {o:Oper} {e:Operand→AV} {a:Act} {r:Res} (hsf:KC o=true) (hev:Ev cx.P pos o e T B r) (hop:∀x ∈ o.op.operands,VSim γ.vw γ (e x) (a.eval x)):Q5 cx.P o a:=by
 obtain⟨dst,op,ty,v,after,j⟩:=o
 unfold KC at hsf
 unfold Ev at hev
 dsimp only at hev hop hsf
 split at hsf
 ·rename_i x; exact .inl ⟨a.eval x,fun w=>by rfl⟩
 ·rename_i x; exact .inl ⟨a.eval x,fun w=>by rfl⟩
 · -- extract
  rename_i x k
  refine NN (s:=Instr.extract (a.eval x) k) rfl ?_
  unfold Instr.extract
  split
  ·split
   ·exact Ind.ok _
   ·exact Ind.stop _
  ·exact Ind.stop _
 · -- fieldAddr
  rename_i s x f
  have h1:=hop x (by simp [Op.operands])
  have fin:∀g o q,a.eval x= .pointer (some ⟨g,o,none⟩)→fOff cx.P s f=some q→0<tsz cx.P q.2 →Q5 cx.P ⟨dst,.fieldAddr s x f,ty,v,after,j⟩ a:=fun g o q hx p hz=>
   NN (s:=Instr.fieldAt s (a.eval x) f) rfl (.inl ⟨_,fun w=>by rw [hx]; exact fE p hz g o w⟩)
  grind [VSim]
 · -- indexAddr
  rename_i t x i
  exact NN (s:=Instr.indexAt t (a.eval x) (a.eval i)) rfl (fF _ _ _)
 · -- build
  rename_i t parts
  exact NN (s:=Instr.build t (parts.map fun (i,x)=>(i,a.eval x))) rfl (fG _ _)
 · -- add, sub
  grind [ZV,Op.operands]
 ·grind [ZV,Op.operands]
 · -- pick
  rename_i c x y
  obtain⟨t,u,-⟩:=hev
  have h1:=hop c (by simp [Op.operands])
  rw [u] at h1
  simp only [VSim] at h1
  exact .inl ⟨if t then a.eval x else a.eval y,fun w=>by cases t <;> simp [execOp,h1,asBool]⟩
 grind
theorem Pb {listed:Array Bool} {i:Nat} (hi:i<listed.size) (h:listed.getD i true=false):((listed.setIfInBounds i true).toList.count false)+1=listed.toList.count false:=by
 have j:listed.toList[i]? =some false:=by
  rw [Array.getElem?_toList,Array.getElem?_eq_getElem hi]
  rw [Array.getD_eq_getD_getElem?,Array.getElem?_eq_getElem hi] at h
  grind
 grind
theorem ZW {listed:Array Bool} (h:listed.toList.count false=0) {i:Nat} (hi:i<listed.size):listed.getD i true=true:=by
 rw [Array.getD_eq_getD_getElem?,Array.getElem?_eq_getElem hi,Option.getD_some]
 grind [List.count_eq_zero]
theorem kl {listed:Array Bool} (h:0<listed.toList.count false):∃i,i<listed.size∧listed.getD i true=false:=by
 have:=List.count_pos_iff.1 h
 obtain⟨i,j,hx⟩:=List.getElem_of_mem this
 refine⟨i,by omega,?_⟩
 rw [Array.getD_eq_getD_getElem?,← Array.getElem?_toList,List.getElem?_eq_getElem j,hx]; rfl
section
variable {cx:Cx} {N:Nat} {ops:Array Oper}
structure Lst (ops:Array Oper) (listed:Array Bool):Prop where
 size:listed.size=ops.size
 closed:Xf ops.toList fun j=>listed.getD j false=true
theorem Lst.set {listed} (h:Lst ops listed) {i} (hr:i ∈ Region.ready .any ops listed):Lst ops (listed.setIfInBounds i true):=by
 obtain⟨h0,o,ho,q⟩:=mem_ready.1 hr
 refine⟨by simp [h.size],fun j u hj C e v hb=>?_⟩
 by_cases hij:i=j
 ·grind [getD_set_true]
 ·have p:(listed.setIfInBounds i true).getD j false=true:=C
  rw [getD_set_ne false hij] at p
  exact getD_set_true (h.closed j u hj p e v hb)
theorem Lst.far {listed} (h:Lst ops listed) {i} (hr:i ∈ Region.ready .any ops listed) {j} (hj:((deps ops.toList).getD i 0).testBit j=true):listed.getD j false=true:=by
 obtain⟨h0,o,ho,q⟩:=mem_ready.1 hr
 have u:i<ops.toList.length:=by rw [Array.length_toList]; grind
 exact Wt ops.toList i u _ h.closed (fun v p e C hb=>by
  rw [Array.getElem?_toList,ho] at p; grind) j hj
theorem Lst.far' {listed} (h:Lst ops listed) {i} (hi:i<ops.size) (hl:listed.getD i false=true) {j} (hj:((deps ops.toList).getD i 0).testBit j=true):listed.getD j false=true:=by
 have q:i<ops.toList.length:=by rw [Array.length_toList]; exact hi
 exact Wt ops.toList i q _ h.closed (fun v p e u hb=>h.closed i v p hl e u hb) j hj
theorem Lst.some_ready (hon:∀i o,ops.toList[i]? =some o→∀e ∈ o.after,Region.binds .any e=true→e.on<i) {listed:Array Bool} (h:Lst ops listed) (hc:0<listed.toList.count false):Region.ready .any ops listed≠ [] :=by
 obtain⟨i,p,q⟩:=kl hc
 have key:∀n i,i<n→i<listed.size→listed.getD i true=false→∃k,k ∈ Region.ready .any ops listed:=by
  intro n
  induction n with
  |zero=>omega
  | succ n ih=>
   intro i u p q
   by_cases hall:∀o,ops[i]? =some o→∀e ∈ o.after,Region.binds .any e=true→listed.getD e.on false=true
   ·have j:i<ops.size:=by rw [← h.size]; exact p
    have ho:ops[i]? =some ops[i] :=Array.getElem?_eq_getElem j
    exact⟨i,mem_ready.2 ⟨q,_,ho,hall _ ho⟩⟩
   grind
 grind
end
section
variable {cx:Cx} {N:Nat} {ops:Array Oper} {base n:Nat} {V:List (Nat × Nat)} {hd:Nat→Bool} {f:Nat→St} {r:Nat→Option Res}
def rb (x:Option Res):Option (List AV):=(x.bind fun r=>r.b.head?).map (·.2)
def vb (base:Nat) (V:List (Nat × Nat)) (r:Nat→Option Res) (listed:Array Bool):List (Nat × Option (List AV)):=V.map fun p=>(base+p.1,if listed.getD p.2 false=true then rb (r p.2) else rb (r p.1))
def blk (base:Nat) (V:List (Nat × Nat)) (r:Nat→Option Res) (listed:Array Bool) (b:List (Nat × Option (List AV))) (x:Nat):Option (List AV):=(look (vb base V r listed++b) x).join
theorem UV {α:Type}:∀ (l1 l2:List (Nat × α)) (x:Nat),look (l1++l2) x=(match look l1 x with|some y=>some y|none=>look l2 x)
 | [],l2,x=>rfl
 |(j,y)::l1,l2,x=>by
  rw [List.cons_append,AI,AI,UV l1 l2 x]
  split <;> rfl
theorem dW {listed} {x}:∀ {V},(∀p ∈ V,x≠base+p.1)→look (vb base V r listed) x=none
 | [],_=>rfl
 |p::V,h=>by
  show look ((base+p.1,_)::vb base V r listed) x=none
  rw [AI,if_neg (h p List.mem_cons_self)]
  exact dW fun q j=>h q (List.mem_cons_of_mem _ j)
theorem dX {listed} {p}:∀ {V},p ∈ V→(∀q ∈ V,q.1 =p.1 →q.2 =p.2)→look (vb base V r listed) (base+p.1)=some (if listed.getD p.2 false=true then rb (r p.2) else rb (r p.1))
 | [],h,_=>by cases h
 | q::V,h,hu=>by
  show look ((base+q.1,_)::vb base V r listed) (base+p.1)=_
  rw [AI]
  by_cases e:base+p.1 =base+q.1
  ·have j:q.1 =p.1 :=by omega
   have v:=hu q List.mem_cons_self j
   rw [if_pos e,j,v]
  ·rw [if_neg e]
   rcases List.mem_cons.1 h with rfl|h
   ·exact absurd rfl e
   ·exact dX h fun q u=>hu q (List.mem_cons_of_mem _ u)
theorem UW {listed} {b} {x} (h:∀p ∈ V,x≠base+p.1):blk base V r listed b x=(look b x).join :=by
 unfold blk
 rw [UV,dW h]
theorem Q6 {listed} {b} {p} (hp:p ∈ V) (hu:∀q ∈ V,q.1 =p.1 →q.2 =p.2):blk base V r listed b (base+p.1)=if listed.getD p.2 false=true then rb (r p.2) else rb (r p.1):=by
 grind [blk,UV,dX]
theorem Xg {listed} {i} {b} (h:∀p ∈ V,p.2 ≠i):blk base V r (listed.setIfInBounds i true) b=blk base V r listed b:=by
 have:vb base V r (listed.setIfInBounds i true)=vb base V r listed:=List.map_congr_left fun p hp=>by
  rw [getD_set_ne false (fun e=>h p hp e.symm)]
 funext x
 unfold blk
 rw [this]
structure Inv (cx:Cx) (N:Nat) (ops:Array Oper) (base:Nat) (V:List (Nat × Nat)) (n:Nat) (hd:Nat→Bool) (f:Nat→St) (r:Nat→Option Res) (listed:Array Bool) (γ:Gh) (a:Act) (w:World):Prop where
 L:Lst ops listed
 tail:∀t,hd t=false→t<ops.size→listed.getD t true=false
 os:OSim cx γ (f n).T (blk base V r listed (f n).b) w
 slW:∀j o x,j<n→hd j=true→ops.toList[j]? =some o→o.dst=some x→listed.getD j false=true→VSim γ.vw γ ((f n).g x) (a.tmps.getD x undef)
 slU:∀x,(∀j o,j<n→hd j=true→ops.toList[j]? =some o→o.dst=some x→listed.getD j false=false)→VSim γ.vw γ ((f 0).g x) (a.tmps.getD x undef)
 td:∀t,γ.tl t→(look (f 0).t t).isSome =true∨∃j rr,j<n∧hd j=true∧listed.getD j false=true∧r j=some rr∧∃z ∈ rr.t,z.1 =t
 bd:∀b,γ.bl b→(look (f 0).b b).isSome =true∨∃j rr,j<n∧hd j=true∧listed.getD j false=true∧r j=some rr∧∃z ∈ rr.b,z.1 =b
 df:a.defers=[]
 nn:a.tmps.size=N
theorem Pc {listed:Array Bool} {i:Nat} (h:listed.getD i true=false):listed.getD i false=false:=by
 rw [Array.getD_eq_getD_getElem?] at h ⊢
 grind
theorem Run.at_slot (R:Run cx.P ops base V ops.toList n hd f r) (hp:dV ops n hd) {listed:Array Bool} {γ:Gh} {a:Act} {w:World} (I:Inv cx N ops base V n hd f r listed γ a w)
  {i:Nat} (hi:i<n) (hhi:hd i=true) {o:Oper} (ho:ops.toList[i]? =some o) (hr:i ∈ Region.ready .any ops listed) {t:Nat} (ht:t ∈ PL ops o):VSim γ.vw γ ((f i).g t) (a.tmps.getD t undef):=by
 have hun:listed.getD i false=false:=Pc (mem_ready.1 hr).1
 have hsz:∀j,j<n→j<ops.size:=fun j hj=>by have:=R.le; rw [Array.length_toList] at this; omega
 by_cases hw:∃j U,j<n∧hd j=true∧ops.toList[j]? =some U∧U.dst=some t
 ·obtain⟨j,U,hj,G,J,F⟩:=hw
  have huniq:∀k p,k<n→hd k=true→ops.toList[k]? =some p→p.dst=some t→k=j:=fun k p hk q u C=>R.un k j p U t hk hj q G u J C F
  have Y:i≤j→listed.getD j false=false→VSim γ.vw γ ((f i).g t) (a.tmps.getD t undef):=fun hij W=>by
   have h1:=I.slU t fun k p hk q u C=>by rw [huniq k p hk q u C]; omega
   have h2:=R.g_same (k:=i) (i:=0) (by omega) (x:=t) fun k p _ hk q u C=>by
    grind
   rw [Nat.zero_add] at h2
   rw [h2]; exact h1
  rcases Nat.lt_trichotomy j i with hlt|heq|hgt
  ·have v:WQ ops o U=true:=by
    grind [WQ]
   have O:=(hp i j o U (by omega) hhi G hlt ho J).2 v
   have W:=I.L.far hr O
   have h1:=I.slW j U t hj G J F W
   rw [R.g_final hj G J F (j:=n) (by omega) (Nat.le_refl _)] at h1
   rw [R.g_final hj G J F (j:=i) hlt (by omega)]
   exact h1
  ·grind
  ·have v:WQ ops U o=true:=by
    grind [WQ]
   have O:=(hp j i U o hj G hhi hgt J ho).2 v
   refine Y (by omega) ?_
   cases W:listed.getD j false with
   |false=>rfl
   |true=>
    have:=I.L.far' (hsz j hj) W O
    rw [hun] at this; grind
 ·have hnw:∀k p,k<n→hd k=true→ops.toList[k]? =some p→p.dst≠some t:=fun k p hk q u C=>hw ⟨k,p,hk,q,u,C⟩
  have h1:=I.slU t fun k p hk q u C=>absurd C (hnw k p hk q u)
  have h2:=R.g_same (k:=i) (i:=0) (by omega) (x:=t) fun k p _ hk q u=>hnw k p (by omega) q u
  rw [Nat.zero_add] at h2
  rw [h2]; exact h1
theorem Pd {o} {t} (h:Operand.tmp t ∈ o.op.operands):t ∈ PL ops o:=by
 unfold PL
 refine List.mem_append.2 (.inl (List.mem_filterMap.2 ⟨.tmp t,Array.mem_toList_iff.2 h,rfl⟩))
theorem SC {o} {j} {want} {s} (hg:o.guard=some (j,want)) (hs:Ij ops j=some s):s ∈ PL ops o:=by
 grind [PL]
theorem Ka:∀ {V} {i},Bo V i= .al →∃p ∈ V,p.1 =i
 | [],_,h=>by cases h
 | (k,j)::V,i,h=>by
  unfold Bo at h
  split at h
  ·rename_i e
   exact⟨(k,j),List.mem_cons_self,e.symm⟩
  ·split at h
   ·cases h
   ·obtain⟨p,hp,e⟩:=Ka h
    exact⟨p,List.mem_cons_of_mem _ hp,e⟩
theorem Run.uniq (R:Run cx.P ops base V ops.toList n hd f r) {p} (hp:p ∈ V):∀q ∈ V,q.1 =p.1 →q.2 =p.2 :=fun q j=>(R.vn q j p hp).1
theorem Run.al (R:Run cx.P ops base V ops.toList n hd f r) {p} (hp:p ∈ V):∃t u a x,r p.1 =some ⟨.box (base+p.1) 0,[],[(base+p.1,(tz cx.P t).map zAV)]⟩∧(0<(tz cx.P t).length ∧(tz cx.P t).length =tsz cx.P t∧isMp ((tz cx.P t).map zAV)=false)∧ops.toList[p.2]? =some u∧u.op= .store t a x:=by
 obtain⟨h1,h2,h3,C,v,G,I,F,o,u,t,a,x,k1,k2,k3,k4⟩:=R.vp p hp
 have q:=R.st p.1 o h1 h3 k1
 generalize hr:r p.1 =ri at q
 cases q with
 |run rr hv=>rw [v] at hv; cases hv
 |skip j want s hv=>rw [v] at hv; cases hv
 |val t' hv hop hgn hz hs ht hb=>
  rw [k3] at hop; grind
 |vst k t a y cs hv=>rw [v] at hv; cases hv
theorem Run.not_priv (R:Run cx.P ops base V ops.toList n hd f r) {x} {y} (h:look (f n).b x=some y):∀p ∈ V,x≠base+p.1 :=fun p hp e=>by
 obtain⟨-,-,-,-,-,-,j,-⟩:=R.vp p hp
 rw [e,j] at h; cases h
theorem Inv.box_in (R:Run cx.P ops base V ops.toList n hd f r) {listed} {γ} {a} {w} (I:Inv cx N ops base V n hd f r listed γ a w) {b} (hl:γ.bl b):(look (f n).b b).isSome =true∨∃p ∈ V,b=base+p.1 ∧listed.getD p.1 false=true:=by
 have F:n≤ops.size:=by have:=R.le; rwa [Array.length_toList] at this
 rcases I.bd b hl with h|⟨j,rr,h1,h1h,h2,h3,z,hz,hzx⟩
 ·obtain⟨y,hy⟩:=Option.isSome_iff_exists.1 h
  rw [R.look_be (i:=0) (j:=n) (by omega) (Nat.le_refl _) hy]
  grind
 ·obtain⟨G,v⟩:=R.op h1
  have u:=R.st j G h1 h1h v
  rw [h3] at u
  cases u with
  |run _ hv hg' hev' hft' hfb' hs' ht' hb'=>
   have C:=Q4 hev'
   have q:look (f (j+1)).b z.1 =some (some z.2):=by rw [hb']; grind [MW]
   rw [← hzx,R.look_be (i:=j+1) (j:=n) (by omega) (Nat.le_refl _) q]
   grind
  |val t hv hop hgn hz' hs' ht' hb'=>
   rw [List.mem_singleton] at hz
   grind [Ka]
  |vst k t a y cs hv hop hgn hc h3' ha hs' ht' hb'=>
   rw [List.mem_singleton] at hz
   subst hz
   have hp:=KZ hv
   obtain⟨-,-,-,-,-,-,-,J,-⟩:=R.vp _ hp
   exact .inr ⟨(k,j),hp,hzx.symm,I.L.far' (by omega) h2 J⟩
theorem Inv.step (R:Run cx.P ops base V ops.toList n hd f r) (hp:dV ops n hd) (hok:∀o ∈ ops.toList,ED N o=true) {listed:Array Bool} {γ:Gh} {a:Act} {w:World} (I:Inv cx N ops base V n hd f r listed γ a w)
  {i:Nat} (hi:i<n) (hhi:hd i=true) (hr:i ∈ Region.ready .any ops listed) {Q:Exit→Act→World→Prop} {K:Act→World→Prop} (hk:∀γ' a' w',Inv cx N ops base V n hd f r (listed.setIfInBounds i true) γ' a' w'→K a' w'):wpOp cx.P ops Q i K a w:=by
 obtain⟨o,ho⟩:=R.op hi
 have ho':ops[i]? =some o:=by rw [← Array.getElem?_toList]; exact ho
 have hilt:i<ops.size:=(Array.getElem?_eq_some_iff.1 ho').1
 have hoo:=hok o (List.mem_of_getElem? ho)
 have hdst:=Et hoo
 have hun:listed.getD i false=false:=Pc (mem_ready.1 hr).1
 have C:=fun t ht=>R.at_slot hp I hi hhi ho hr (t:=t) ht
 have hseti:(listed.setIfInBounds i true).getD i false=true:=by
  rw [Array.getD_eq_getD_getElem?,Array.getElem?_setIfInBounds_self,if_pos (by rw [I.L.size]; omega)]; rfl
 have hsetj:∀j,j≠i→(listed.setIfInBounds i true).getD j false=listed.getD j false:=fun j hj=>getD_set_ne false (fun e=>hj e.symm)
 have hmono:∀j,listed.getD j false=true→(listed.setIfInBounds i true).getD j false=true:=fun j hj=>by
  grind
 have mk:∀γ' av v w',Gh.Ext γ γ'→OSim cx γ' (f n).T (blk base V r (listed.setIfInBounds i true) (f n).b) w'→VSim γ'.vw γ' av v→(∀x,o.dst=some x→(f (i+1)).g x=av)→
   (∀t,γ'.tl t→γ.tl t∨∃rr,r i=some rr∧∃z ∈ rr.t,z.1 =t)→(∀b,γ'.bl b→γ.bl b∨∃rr,r i=some rr∧∃z ∈ rr.b,z.1 =b)→
   Inv cx N ops base V n hd f r (listed.setIfInBounds i true) γ' (a.put o.dst v) w':=by
  intro γ' av v w' he hos hv hav Y W
  refine⟨I.L.set hr,fun t ht htlt=>?_,hos,fun j oj x hj hhj F hx hl=>?_,fun x hx=>?_,fun t h=>?_,fun b h=>?_,by rw [Hk]; exact I.df,by rw [KX]; exact I.nn⟩
  ·rw [getD_set_ne true (fun e=>by rw [e,ht] at hhi; grind)]; exact I.tail t ht htlt
  ·rw [Xe a o.dst v x (by rw [I.nn]; omega)]
   by_cases e:j=i
   ·subst e
    rw [ho] at F; cases F
    rw [if_pos hx,R.g_final hi hhi ho hx (j:=n) (by omega) (Nat.le_refl _),hav x hx]
    exact hv
   ·rw [if_neg (fun h=>e (R.un j i oj o x hj hi hhj hhi F ho hx h))]
    rw [hsetj j e] at hl
    exact VSim.mono he.vw he (I.slW j oj x hj hhj F hx hl)
  ·have hnd:o.dst≠some x:=fun h=>by
    grind
   rw [Xe a o.dst v x (by rw [I.nn]; omega),if_neg hnd]
   refine VSim.mono he.vw he (I.slU x fun j oj hj hhj F hdj=>?_)
   grind
  ·rcases Y t h with h|⟨rr,h1,h2⟩
   ·rcases I.td t h with h|⟨j,rr,k1,k1h,k2,k3,k4⟩
    ·grind
    grind
   grind
  ·rcases W b h with h|⟨rr,h1,h2⟩
   ·rcases I.bd b h with h|⟨j,rr,k1,k1h,k2,k3,k4⟩
    ·grind
    grind
   grind
 have hst:=R.st i o hi hhi ho
 have yl:∀j s b,Ij ops j=some s→s ∈ PL ops o→(f i).g s= .bool b→yielded ops a.tmps j=some b:=fun j s b hj hs hb=>by
  have h1:=C s hs
  rw [hb] at h1
  simp only [VSim] at h1
  unfold Ij at hj
  unfold yielded
  rw [hj]
  simp only [Option.bind_some]
  rw [Array.getD_eq_getD_getElem?] at h1
  grind [undef]
 have yl0:∀j s,Ij ops j=some s→s ∈ PL ops o→(f i).g s= .tup [] →yielded ops a.tmps j=none:=fun j s hj hs hb=>by
  have h1:=C s hs
  rw [hb] at h1
  simp only [VSim,AH] at h1
  obtain⟨us,h1,rfl⟩:=h1
  unfold Ij at hj
  unfold yielded
  rw [hj]
  simp only [Option.bind_some]
  rw [Array.getD_eq_getD_getElem?] at h1
  grind
 unfold wpOp
 rw [ho']
 simp only
 generalize hri:r i=ri at hst
 cases hst with
 | run rr hv hg hev hft hfb hs ht hb=>
  have hbs:blk base V r (listed.setIfInBounds i true) (f n).b =blk base V r listed (f n).b :=Xg fun p hp=>(PX hv p hp).2
  have J:Region.wanted o (yielded ops a.tmps)=true:=by
   grind [Region.wanted,SC]
  rw [if_pos J]
  have hids:=Q4 hev
  have hnew:∀x ∈ rr.t,look (f (i+1)).t x.1 =some (some x.2):=fun x hx=>by rw [ht]; grind [MV]
  have O:∀x ∈ rr.b,look (f (i+1)).b x.1 =some (some x.2):=fun x hx=>by rw [hb]; grind [MW]
  have hTle:Le (f i).T (f n).T :=fun x y h=>by
   unfold St.T at h ⊢
   rw [R.look_te (by omega) (Nat.le_refl _) (join_some h)]; rfl
  have hBle:Le (f i).B (blk base V r listed (f n).b):=fun x y h=>by
   unfold St.B at h
   have h1:=R.look_be (i:=i) (by omega) (Nat.le_refl _) (join_some h)
   rw [UW (R.not_priv h1),h1]; rfl
  refine .inl (UD (dO hTle hBle hev) (BT (s:=(f i).g) hoo (fun x _=>St.e_eq _ x) fun t htm=>C t (Pd htm)) I.os (fun x hx=>⟨?_,fun hl=>?_⟩) (fun x hx=>⟨?_,fun hl=>?_⟩) fun v w' γ' he Y W hos hv=>hk γ' _ w' (mk γ' rr.v v w' he (by rw [hbs]; omega) hv (fun x hx=>by rw [hs,if_pos hx]) (fun t h=>(Y t h).imp id fun h=>⟨rr,hri,h⟩) (fun b h=>(W b h).imp id fun h=>⟨rr,hri,h⟩)))
  ·unfold St.T
   rw [R.look_te (i:=i+1) (by omega) (Nat.le_refl _) (hnew x hx)]; rfl
  ·have hfr:=Fi hft x hx
   rcases I.td _ hl with h|⟨j,r',h1,h1h,h2,h3,z,hz,hzx⟩
   ·obtain⟨y,hy⟩:=Option.isSome_iff_exists.1 h
    have:=R.look_te (i:=0) (j:=i) (by omega) (by omega) hy
    rw [hfr] at this; grind
   ·have hji:j≠i:=fun e=>by grind
    obtain⟨oj,F⟩:=R.op h1
    have hsj:=R.st j oj h1 h1h F
    rw [h3] at hsj
    cases hsj with
    |val t hv hop hgn hz' hs' G hb'=>cases hz
    |vst k t a y cs hv hop hgn hc h3' ha hs' G hb'=>cases hz
    | run _ hv' hg' hev' hft' hfb' hs' G hb'=>
     have hids':=Q4 hev'
     have U:look (f (j+1)).t z.1 =some (some z.2):=by rw [G]; grind [MV]
     rcases Nat.lt_or_gt_of_ne hji with hlt|hgt
     ·have:=R.look_te (i:=j+1) (j:=i) (by omega) (by omega) U
      rw [hzx,hfr] at this; grind
     ·have h4:=Fi hft' z hz
      have:=R.look_te (i:=i+1) (j:=j) (by omega) (by omega) (hnew x hx)
      rw [← hzx,h4] at this; grind
  ·have h1:=R.look_be (i:=i+1) (by omega) (Nat.le_refl _) (O x hx)
   rw [UW (R.not_priv h1),h1]; rfl
  ·have hfr:=El hfb x hx
   rcases I.bd _ hl with h|⟨j,r',h1,h1h,h2,h3,z,hz,hzx⟩
   ·obtain⟨y,hy⟩:=Option.isSome_iff_exists.1 h
    have:=R.look_be (i:=0) (j:=i) (by omega) (by omega) hy
    rw [hfr] at this; grind
   ·have hji:j≠i:=fun e=>by grind
    obtain⟨oj,F⟩:=R.op h1
    have hsj:=R.st j oj h1 h1h F
    rw [h3] at hsj
    have hxn:=R.not_priv (R.look_be (i:=i+1) (by omega) (Nat.le_refl _) (O x hx))
    cases hsj with
    |val t hv hop hgn hz' hs' G hb'=>
     rw [List.mem_singleton] at hz
     grind [Ka]
    |vst k t a y cs hv hop hgn hc h3' ha hs' G hb'=>
     rw [List.mem_singleton] at hz
     subst hz
     exact hxn _ (KZ hv) hzx.symm
    | run _ hv' hg' hev' hft' hfb' hs' G hb'=>
     have hids':=Q4 hev'
     have U:look (f (j+1)).b z.1 =some (some z.2):=by rw [hb']; grind [MW]
     rcases Nat.lt_or_gt_of_ne hji with hlt|hgt
     ·have:=R.look_be (i:=j+1) (j:=i) (by omega) (by omega) U
      rw [hzx,hfr] at this; grind
     ·have h4:=El hfb' z hz
      have:=R.look_be (i:=i+1) (j:=j) (by omega) (by omega) (O x hx)
      rw [← hzx,h4] at this; grind
 | val t hv hop hgn hz hs ht hb=>
  obtain⟨p,u,hpi⟩:=Ka hv
  have hpr:=R.vp p u
  obtain⟨t',o',a',x',hr1,hz1,ho1,hop1⟩:=R.al u
  rw [hpi] at hr1
  rw [hri] at hr1
  have hzz:(tz cx.P t).map zAV=(tz cx.P t').map zAV:=by grind
  have hl2:listed.getD p.2 false=false:=by
   cases hx:listed.getD p.2 false with
   |false=>rfl
   |true=>
    have:=I.L.far' (i:=p.2) (by grind) hx hpr.2.2.2.2.2.2.2.1
    rw [hpi,hun] at this; grind
  have hne:p.2 ≠i:=fun e=>by
   grind
  have hbs:blk base V r (listed.setIfInBounds i true) (f n).b =blk base V r listed (f n).b :=by
   refine Xg fun q hq e=>?_
   have:=(R.vp q hq).2.2.2.2.2.1
   rw [e,hv] at this; grind
  rw [if_pos (by grind [Region.wanted])]
  have hev:Ev cx.P (base+i) o (f i).e (f n).T (blk base V r listed (f n).b) ⟨.box (base+i) 0,[],[(base+i,(tz cx.P t).map zAV)]⟩:=by
   unfold Ev; rw [hop]; grind
  refine .inl (UD hev (BT (s:=(f i).g) hoo (fun x _=>St.e_eq _ x) fun t htm=>C t (Pd htm)) I.os (fun x hx=>by cases hx) (fun x hx=>?_) fun v w' γ' he Y W hos hv'=>hk γ' _ w' (mk γ' _ v w' he (by rw [hbs]; omega) hv' (fun x hx=>by rw [hs,if_pos hx]) (fun t h=>.inl ((Y t h).resolve_right fun ⟨z,hz,_⟩=>by cases hz)) (fun b h=>(W b h).imp id fun h=>⟨_,hri,h⟩)))
  rw [List.mem_singleton] at hx
  subst hx
  refine⟨?_,fun hl=>?_⟩
  ·have:=Q6 (base:=base) (r:=r) (listed:=listed) (b:=(f n).b) u (R.uniq u)
   rw [hpi,hl2,if_neg (by simp),hri] at this
   exact this
  ·rcases I.box_in R hl with h|⟨q,hq,e,h⟩
   ·grind
   grind
 | vst k t ad y cs hv hop hgn hc h3 ha hs ht hb=>
  have u:=KZ hv
  have hpr:=R.vp _ u
  obtain⟨t',o',a',x',hr1,hz1,ho1,hop1⟩:=R.al u
  have G:t'=t:=by
   grind
  subst G
  simp only at hr1 hpr
  have hbk:=Q6 (base:=base) (r:=r) (listed:=listed) (b:=(f n).b) u (R.uniq u)
  simp only [hun] at hbk
  rw [if_neg (by simp),hr1] at hbk
  have hbk:blk base V r listed (f n).b (base+k)=some ((tz cx.P t').map zAV):=hbk
  rw [if_pos (by grind [Region.wanted])]
  have hops:=BT (s:=(f i).g) hoo (fun x _=>St.e_eq (f i) x) fun t htm=>C t (Pd htm)
  rw [hop] at hops
  have hva:=hops ad (by simp [Op.operands])
  have hvy:=hops y (by simp [Op.operands])
  rw [ha] at hva
  have W:γ.bl (base+k):=by grind [VSim]
  have hle:0+cs.length≤((tz cx.P t').map zAV).length :=by rw [List.length_map,h3.1,hz1.2.1]; omega
  obtain⟨w',hrun,hos⟩:=Wh I.os hva hvy hc h3.1 h3.2.1 h3.2.2 hbk hz1.2.2 hle
  have hsp:splice ((tz cx.P t').map zAV) 0 cs=cs:=by
   rw [Dm _ _ _ hle,List.take_zero,List.nil_append,List.drop_eq_nil_of_le (by rw [List.length_map,h3.1,hz1.2.1]; omega),List.append_nil]
  have hrun':(execOp a.eval o).run cx.P w= .ok .skip w':=by simp [execOp,hop,hrun]
  refine .inl ?_
  unfold Oper.wp
  rw [hrun']
  refine hk γ _ w' (mk γ .any undef w' (Gh.Ext.refl γ) (hos.tables (fun t tk _ h=>h) fun b vs _ h=>?_) trivial (fun x hx=>by rw [hs,if_pos hx]) (fun t h=>.inl h) (fun b h=>.inl h))
  ·simp only [hsp]
   by_cases e:b=base+k
   ·rw [if_pos e]
    have:=Q6 (base:=base) (r:=r) (listed:=listed.setIfInBounds i true) (b:=(f n).b) u (R.uniq u)
    simp only [hseti,if_true,hri] at this
    rw [e] at h
    rw [this] at h
    exact h
   ·rw [if_neg e]
    show blk base V r listed (f n).b b=some vs
    by_cases hpb:∃q ∈ V,b=base+q.1
    ·obtain⟨q,hq,rfl⟩:=hpb
     have hne:q.2 ≠i:=fun e2=>e (by rw [(R.vn q hq _ u).2 e2])
     have h1:=Q6 (base:=base) (r:=r) (listed:=listed.setIfInBounds i true) (b:=(f n).b) hq (R.uniq hq)
     have h2:=Q6 (base:=base) (r:=r) (listed:=listed) (b:=(f n).b) hq (R.uniq hq)
     rw [hsetj q.2 hne] at h1
     rw [h2,← h1]; exact h
    grind [UW]
 | skip j want s hv hg hj hb hs ht hb'=>
  have hbs:blk base V r (listed.setIfInBounds i true) (f n).b =blk base V r listed (f n).b :=Xg fun p hp=>(PX hv p hp).2
  have J:Region.wanted o (yielded ops a.tmps)=false:=by
   grind [Region.wanted,SC]
  rw [if_neg (by rw [J]; simp)]
  exact hk γ _ w (mk γ (.tup []) undef w (Gh.Ext.refl γ) (by rw [hbs]; exact I.os) UQ (fun x hx=>by rw [hs,if_pos hx]) (fun t h=>.inl h) (fun b h=>.inl h))
def fin (f:Nat→St) (n:Nat) (acc:List (Nat × List AV)):St:=⟨(f n).s,(f n).t,addB (f n).b acc⟩
theorem addB_mem:∀ (l:List (Nat × List AV)) (σ:List (Nat × Option (List AV))) (x:Nat) (y:Option (List AV)),look (addB σ l) x=some y→(∃z ∈ l,z.1 =x∧y=some z.2)∨((∀z ∈ l,z.1 ≠x)∧look σ x=some y)
 | [],σ,x,y,h=>.inr ⟨fun z hz=>(by cases hz),h⟩
 | (k,vs)::l,σ,x,y,h=>by
  simp only [addB,AI] at h
  split at h
  ·rename_i e
   exact .inl ⟨(k,vs),List.mem_cons_self,e.symm,by cases h; rfl⟩
  ·rename_i e
   rcases addB_mem l σ x y h with ⟨z,hz,h1,h2⟩|⟨h1,h2⟩
   ·exact .inl ⟨z,List.mem_cons_of_mem _ hz,h1,h2⟩
   ·refine .inr ⟨fun z hz=>?_,h2⟩
    rcases List.mem_cons.1 hz with rfl|hz
    ·exact fun h=>e h.symm
    ·exact h1 z hz
theorem Ww:∀ (l:List (Nat × List AV)) (σ:List (Nat × Option (List AV))) (x:Nat),((∃z ∈ l,z.1 =x)∨(look σ x).isSome =true)→(look (addB σ l) x).isSome =true
 | [],σ,x,h=>by
  rcases h with ⟨z,hz,_⟩|h
  ·cases hz
  ·exact h
 | (k,vs)::l,σ,x,h=>by
  simp only [addB,AI]
  split
  ·rfl
  ·rename_i e
   refine Ww l σ x ?_
   rcases h with ⟨z,hz,h1⟩|h
   ·rcases List.mem_cons.1 hz with rfl|hz
    ·exact absurd h1.symm e
    ·exact .inl ⟨z,hz,h1⟩
   ·exact .inr h
theorem Inv.done (R:Run cx.P ops base V ops.toList n hd f r) {listed} {γ} {a} {w} (I:Inv cx N ops base V n hd f r listed γ a w) (hall:∀j,j<n→hd j=true→listed.getD j false=true)
  {acc} (hacc:∀x ∈ acc,∃p ∈ V,x.1 =base+p.1 ∧r p.2 =some ⟨.any,[],[x]⟩) (hacc':∀p ∈ V,∃x ∈ acc,x.1 =base+p.1):Sim cx N γ (fin f n acc) a w:=by
 refine⟨I.os.tables (fun t tk _ h=>h) fun b vs _ h=>?_,fun x=>?_,fun t h=>?_,fun b h=>?_,I.df,I.nn⟩
 ·have h:=join_some (show (look (addB (f n).b acc) b).join =some vs from h)
  rcases addB_mem acc _ _ _ h with ⟨z,hz,h1,h2⟩|⟨h1,h2⟩
  ·obtain⟨p,hp,h3,h4⟩:=hacc z hz
   have hb:=Q6 (base:=base) (r:=r) (listed:=listed) (b:=(f n).b) hp (R.uniq hp)
   obtain⟨-,k2,-,k4,-⟩:=R.vp p hp
   rw [hall p.2 k2 k4,if_pos rfl,h4,← h3,h1] at hb
   rw [hb]
   simp only [Option.some.injEq] at h2
   rw [h2]; rfl
  grind [UW]
 ·show VSim γ.vw γ ((f n).g x) _
  by_cases hw:∃j W,j<n∧hd j=true∧ops.toList[j]? =some W∧W.dst=some x
  ·obtain⟨j,W,hj,J,ho',U⟩:=hw
   exact I.slW j W x hj J ho' U (hall j hj J)
  ·have G:∀k q,k<n→hd k=true→ops.toList[k]? =some q→q.dst≠some x:=fun k q hk u v F=>hw ⟨k,q,hk,u,v,F⟩
   have h1:=I.slU x fun k q hk u v F=>absurd F (G k q hk u v)
   have h2:=R.g_same (k:=n) (i:=0) (by omega) (x:=x) fun k q _ hk u v=>G k q (by omega) u v
   rw [Nat.zero_add] at h2
   rw [h2]; exact h1
 ·show (look (f n).t t).isSome =true
  rcases I.td t h with h|⟨j,rr,h1,h1h,h2,h3,z,hz,hzx⟩
  ·obtain⟨y,hy⟩:=Option.isSome_iff_exists.1 h
   rw [R.look_te (i:=0) (j:=n) (by omega) (Nat.le_refl _) hy]; rfl
  ·obtain⟨oj,Y⟩:=R.op h1
   have O:=R.st j oj h1 h1h Y
   rw [h3] at O
   cases O with
   |val t hv hop hgn hz' hs' ht' hb'=>cases hz
   |vst k t a y cs hv hop hgn hc h3' ha hs' ht' hb'=>cases hz
   |run _ hv hg' hev' hft' hfb' hs' ht' hb'=>
    have hids':=Q4 hev'
    have C:look (f (j+1)).t z.1 =some (some z.2):=by rw [ht']; grind [MV]
    rw [← hzx,R.look_te (i:=j+1) (j:=n) (by omega) (Nat.le_refl _) C]; rfl
 ·refine Ww acc _ _ ?_
  rcases I.box_in R h with h|⟨p,hp,e,-⟩
  ·grind
  grind
end
theorem Wx {ops} {m} {q} (h:late ops.toList m q=true):Region.noSelect ops=true∧∃o,ops.toList[q]? =some o∧KC o=true∧o.guard=none∧
  ∀j p,ops[j]? =some p→j≠q→(∀e ∈ p.after,Region.binds .any e=true→e.on≠q)→(m.getD q 0).testBit j=false→o.apart ops p=true:=by
 unfold late at h
 rw [Bool.and_eq_true,Array.toArray_toList] at h
 obtain⟨h0,h⟩:=h
 refine⟨h0,?_⟩
 split at h
 ·rename_i o ho
  rw [Bool.and_eq_true,Bool.and_eq_true,List.all_eq_true] at h
  refine⟨o,ho,h.1.1,by simp_all,fun j p hj C F v=>?_⟩
  have u:j<ops.toList.length:=by rw [Array.length_toList]; grind
  have:=h.2 j (List.mem_range.2 u)
  rw [Array.getElem?_toList,hj] at this
  grind
 grind
section
variable {cx:Cx} {N:Nat} {ops:Array Oper} {base n:Nat} {V:List (Nat × Nat)} {hd:Nat→Bool} {f:Nat→St} {r:Nat→Option Res}
theorem SD {o} {a} {w} {i} {K} (ho:ops[i]? =some o) (hg:o.guard=none) (hs:Q5 cx.P o a) (h:wpOp cx.P ops (fun _ _ _=>False) i K a w):∃u,Yields cx.P ops o u a∧K (a.put o.dst u) w:=by
 have j:Region.wanted o (yielded ops a.tmps)=true:=by simp [Region.wanted,hg]
 unfold wpOp at h
 rw [ho] at h
 simp only [j,if_true] at h
 rcases h with h|⟨_,_,_,h⟩
 ·rcases hs with ⟨u,hu⟩|hx
  ·refine⟨u,.inl ⟨j,hu⟩,?_⟩
   grind [Oper.wp,Oper.upon]
  ·obtain⟨x,w1,e⟩:=hx w
   unfold Oper.wp at h
   rw [e] at h
   cases x <;> simp only [Oper.upon] at h
 grind
theorem Inv.ext (R:Run cx.P ops base V ops.toList n hd f r) (hp:dV ops n hd) (hok:∀o ∈ ops.toList,ED N o=true) {listed:Array Bool} {γ:Gh} {a:Act} {w:World} (I:Inv cx N ops base V n hd f r listed γ a w)
  {i:Nat} (hi:i<n) (hhi:hd i=true) (hr:i ∈ Region.ready .any ops listed) {o:Oper} (ho:ops.toList[i]? =some o) (hsf:KC o=true) (hg:o.guard=none):∃v,Yields cx.P ops o v a∧∃γ',Inv cx N ops base V n hd f r (listed.setIfInBounds i true) γ' (a.put o.dst v) w:=by
 have J:ops[i]? =some o:=by rw [← Array.getElem?_toList]; exact ho
 have F:=hok o (List.mem_of_getElem? ho)
 have p:=fun t C=>R.at_slot hp I hi hhi ho hr (t:=t) C
 have u:=R.st i o hi hhi ho
 have q:=I.step R hp hok hi hhi hr (Q:=fun _ _ _=>False) (K:=fun O w'=>∃γ',Inv cx N ops base V n hd f r (listed.setIfInBounds i true) γ' O w') fun γ' O w' h=>⟨γ',h⟩
 generalize r i=ri at u
 cases u with
 |skip j want s hv hg' hj hb hs C hb'=>rw [hg] at hg'; grind
 |val t hv hop=>grind [KC]
 |vst k t a y cs hv hop=>grind [KC]
 |run rr hv hg' hev hft hfb hs C hb=>
  exact SD J hg (Pa (N:=N) hsf hev (BT (s:=(f i).g) F (fun x _=>St.e_eq _ x) fun t G=>p t (Pd G))) q
theorem MZ {Q} {cut i} {o} {σ} {K} {KK} {a} {w} (ho:ops[i]? =some o) (hoo:ED N o=true) (h:aops cx.P ops base cut i [o] σ K) (q:SimE cx N σ a w)
  (next:∀σ' a' w',K σ'→SimE cx N σ' a' w'→KK a' w'):wpOp cx.P ops Q i KK a w:=by
 unfold wpOp
 rw [ho]
 simp only
 obtain⟨γ,q⟩:=q
 unfold aops at h
 split at h
 ·grind [Region.wanted,NM,aops]
 ·rename_i j p hg
  obtain⟨s,hj,h⟩:=h
  simp only [aops] at h
  rcases h with ⟨b,hb,h1,h2⟩|⟨hb,h2⟩
  case inr=>
   have hy:=UP q hj hb
   rw [if_neg (by grind [Region.wanted])]
   exact next _ _ _ h2 ⟨γ,q.putU (Et hoo)⟩
  case inl=>
   have hy:=UO q hj hb
   have v:∀c,b=c→Sim cx N γ (σ.put (some s) (.bool c)) a w:=fun c e=>by
    subst e
    have C:∀i,(σ.put (some s) (.bool b)).g i=σ.g i:=fun i=>by
     rw [St.g_put]; grind
    exact⟨q.os,fun i=>by rw [C]; exact q.sl i,q.td,q.bd,q.df,q.n⟩
   by_cases hbw:b=p
   ·rw [if_pos (by grind [Region.wanted])]
    grind [NM]
   ·have u:b= !p:=by cases b <;> cases p <;> simp_all
    rw [if_neg (by grind [Region.wanted])]
    exact next _ _ _ (h2 u) ⟨γ,(v (!p) u).putU (Et hoo)⟩
theorem iK {cut i:Nat} {o:Oper} {σ:St} {K:St→Prop} {a:Act} {w:World} (ho:ops[i]? =some o) (hoo:ED N o=true) (hsf:KC o=true) (hg:o.guard=none) (h:aops cx.P ops base cut i [o] σ K) (q:SimE cx N σ a w):∃v,Yields cx.P ops o v a∧∃σ',K σ'∧SimE cx N σ' (a.put o.dst v) w:=by
 have p:=MZ (Q:=fun _ _ _=>False) ho hoo h q (KK:=fun G w'=>∃σ',K σ'∧SimE cx N σ' G w') fun σ' G w' h1 h2=>⟨σ',h1,h2⟩
 refine SD ho hg ?_ p
 obtain⟨γ,q⟩:=q
 unfold aops at h
 rw [hg] at h
 simp only at h
 have u:¬ (MM cx.P o σ (fun σ'=>aops cx.P ops base cut (i+1) [] σ' K)∨SliK cx.P (base+i) o σ (fun σ'=>aops cx.P ops base cut (i+1) [] σ' K)):=fun h=>by
  grind [KC,MM,SliK]
 have C:Yt o=false:=by
  unfold Yt
  unfold KC at hsf
  split at hsf <;> simp_all
 rcases h with ⟨-,h⟩|⟨-,h⟩|⟨-,-,r,j,-⟩
 ·obtain⟨r,j,-⟩:=UT C h
  exact Pa (N:=N) hsf j (BT (s:=σ.g) hoo (fun x _=>St.e_eq _ x) fun t _=>q.sl t)
 ·rcases h with h|h|⟨-,σ1,hn,h⟩
  ·exact absurd (.inl h) u
  ·exact absurd (.inr h) u
  ·obtain⟨γ1,F⟩:=JM hn ⟨γ,q⟩
   obtain⟨r,j,-⟩:=UT C h
   exact Pa (N:=N) hsf j (BT (s:=σ1.g) hoo (fun x _=>St.e_eq _ x) fun t _=>F.sl t)
 ·exact Pa (N:=N) hsf j (BT (s:=σ.g) hoo (fun x _=>St.e_eq _ x) fun t _=>q.sl t)
theorem iL {listed} {done} (hl:∀j,j<ops.size→(listed.getD j false=true↔j ∈ done)) (hsz:listed.size=ops.size) (hon:∀i o,ops.toList[i]? =some o→∀e ∈ o.after,Region.binds .any e=true→e.on<i) {i}:i ∈ Region.ready .any ops listed↔i<ops.toList.length∧OH ops.toList done i=true:=by
 rw [mem_ready,Array.length_toList]
 grind [OH,Array.all_eq_true_iff_forall_mem]
theorem bP {Q:Exit→Act→World→Prop} {K:St→Prop} {ts:List (Nat × Oper)} (hts:∀i o,look ts i=some o→ops.toList[i]? =some o) (hok:∀o ∈ ops.toList,ED N o=true)
  (hon:∀i o,ops.toList[i]? =some o→∀e ∈ o.after,Region.binds .any e=true→e.on<i) (hQ:∀c a w,¬Q (.panic c) a w) (hk:∀σ' a' w',K σ'→SimE cx N σ' a' w'→Q .normal a' w'):
  ∀ (Y:Tr),(∀ (done:List Nat) (listed:Array Bool) (σ:St) (a:Act) (w:World) (fuel:Nat),Vj ops.toList (deps ops.toList) Y done=true→Lst ops listed→(∀j,j<ops.size→(listed.getD j false=true↔j ∈ done))→listed.toList.count false=fuel→aTr cx.P ops base ts Y σ K→SimE cx N σ a w→wpAny cx.P .any ops Q fuel listed a w)∧
   (∀ (done:List Nat) (listed:Array Bool) (σ:St) (a:Act) (w:World) (fuel:Nat),Qo ops.toList (deps ops.toList) Y done=true→Lst ops listed→(∀j,j<ops.size→(listed.getD j false=true↔j ∈ done))→listed.toList.count false=fuel+1→aTr cx.P ops base ts Y σ K→SimE cx N σ a w→
    ∀i,i ∈ Y.alts→i ∈ Region.ready .any ops listed→wpOp cx.P ops Q i (wpAny cx.P .any ops Q fuel (listed.setIfInBounds i true)) a w):=by
 have step:∀ {listed:Array Bool} {done:List Nat} {i:Nat} {fuel:Nat},Lst ops listed→(∀j,j<ops.size→(listed.getD j false=true↔j ∈ done))→listed.toList.count false=fuel+1→i ∈ Region.ready .any ops listed→
   Lst ops (listed.setIfInBounds i true)∧(∀j,j<ops.size→((listed.setIfInBounds i true).getD j false=true↔j ∈ i::done))∧(listed.setIfInBounds i true).toList.count false=fuel:=by
  intro listed done i fuel p C G J
  obtain⟨h0,o,ho,-⟩:=mem_ready.1 J
  have hilt:=(Array.getElem?_eq_some_iff.1 ho).1
  refine⟨p.set J,fun j hj=>?_,?_⟩
  ·by_cases e:i=j
   ·subst e
    have:(listed.setIfInBounds i true).getD i false=true:=by
     rw [Array.getD_eq_getD_getElem?,Array.getElem?_setIfInBounds_self,if_pos (by rw [p.size]; exact hj)]; rfl
    grind
   ·rw [getD_set_ne false e,C j hj,List.mem_cons]
    grind
  grind [Pb]
 intro Y
 induction Y with
 | fin=>
  refine⟨fun done listed σ a w fuel h p C G u I=>?_,fun done listed σ a w fuel h p C G u I i hi=>by grind [Tr.alts]⟩
  simp only [Vj,List.all_eq_true] at h
  have hall:∀j,j<ops.size→listed.getD j false=true:=fun j hj=>(C j hj).2 (List.contains_iff_mem.1 (h j (List.mem_range.2 (by rw [Array.length_toList]; exact hj))))
  have J:Region.ready .any ops listed=[] :=by
   refine List.eq_nil_iff_forall_not_mem.2 fun i hi=>?_
   grind [mem_ready]
  grind [wpAny_done,aTr]
 |stop=>grind [Vj,Tr.alts]
 |fz t iht=>
  refine⟨fun done listed σ a w fuel h p C G u I=>?_,fun done listed σ a w fuel h p C G u I i hi=>by grind [Tr.alts]⟩
  simp only [Vj] at h
  simp only [aTr] at u
  obtain⟨σ1,hn,u⟩:=u
  exact iht.1 done listed σ1 a w fuel h p C G u (JM hn I)
 | br i t more iht ihm=>
  have q:∀ (done:List Nat) (listed:Array Bool) (σ:St) (a:Act) (w:World) (fuel:Nat),Qo ops.toList (deps ops.toList) (.br i t more) done=true→Lst ops listed→(∀j,j<ops.size→(listed.getD j false=true↔j ∈ done))→listed.toList.count false=fuel+1→aTr cx.P ops base ts (.br i t more) σ K→SimE cx N σ a w→
    ∀j,j ∈ (Tr.br i t more).alts →j ∈ Region.ready .any ops listed→wpOp cx.P ops Q j (wpAny cx.P .any ops Q fuel (listed.setIfInBounds j true)) a w:=by
   intro done listed σ a w fuel h p C G u I j hj J
   simp only [Qo,Bool.and_eq_true] at h
   simp only [aTr] at u
   simp only [Tr.alts,List.mem_cons] at hj
   rcases hj with rfl|hj
   ·have F:=u.1
    split at F
    ·rename_i o hlk
     have ho:=hts j o hlk
     have O:ops[j]? =some o:=by rw [← Array.getElem?_toList]; exact ho
     obtain⟨h1,h2,h3⟩:=step p C G J
     exact MZ O (hok o (List.mem_of_getElem? ho)) F I fun σ' a' w' hk' hs'=>iht.1 _ _ σ' a' w' fuel h.1 h1 h2 h3 hk' hs'
    grind
   grind
  refine⟨fun done listed σ a w fuel h p C G u I=>?_,q⟩
  simp only [Vj,Bool.and_eq_true] at h
  obtain⟨⟨hcov,h1⟩,h2⟩:=h
  unfold Tr.cover at hcov
  rw [Bool.and_eq_true,Bool.not_eq_true'] at hcov
  obtain⟨hne,hcov⟩:=hcov
  obtain⟨q0,hq0⟩:∃q0,q0 ∈ (List.range ops.toList.length).filter (OH ops.toList done):=by
   cases hx:(List.range ops.toList.length).filter (OH ops.toList done) with
   |nil=>rw [hx] at hne; grind
   |cons y ys=>exact⟨y,by simp⟩
  have W:∀i,i ∈ (List.range ops.toList.length).filter (OH ops.toList done)↔i ∈ Region.ready .any ops listed:=fun i=>by
   rw [iL C p.size hon,List.mem_filter,List.mem_range]
  have U:=(W q0).1 hq0
  obtain⟨fuel,rfl⟩:∃k,fuel=k+1:=by
   obtain⟨h0,o,ho,-⟩:=mem_ready.1 U
   have hilt:=(Array.getElem?_eq_some_iff.1 ho).1
   have:=Pb (i:=q0) (by rw [p.size]; omega) h0
   exact⟨fuel - 1,by omega⟩
  rw [Bool.or_eq_true] at hcov
  rcases hcov with hcov|hcov
  · -- one that may come as late as it likes
   have hq:more= .stop ∧late ops.toList (deps ops.toList) i=true∧i ∈ (List.range ops.toList.length).filter (OH ops.toList done):=by
    grind
   obtain⟨rfl,hlate,hmem⟩:=hq
   have J:=(W i).1 hmem
   obtain⟨hns,o,ho,hsf,hg,hap⟩:=Wx hlate
   have O:ops[i]? =some o:=by rw [← Array.getElem?_toList]; exact ho
   simp only [aTr] at u
   have F:=u.1
   split at F
   ·rename_i o2 hlk
    have ho2:=hts i o2 hlk
    rw [ho] at ho2
    cases ho2
    obtain⟨v,hy,σ',hK,hs'⟩:=iK O (hok o (List.mem_of_getElem? ho)) hsf hg F I
    obtain⟨k1,k2,k3⟩:=step p C G J
    refine wpAny_first O (fun j o cs b hj=>Region.noSelect_spec hns j o cs b hj) (fun c a w h=>(hQ c _ _ h).elim) fuel listed a w (fun j oj hj hne hun hno=>hap j oj hj hne hno ?_) J hy (iht.1 _ _ σ' _ w fuel h1 k1 k2 k3 hK hs')
    cases hb:((deps ops.toList).getD i 0).testBit j with
    |false=>rfl
    |true=>have:=p.far J hb; rw [Pc hun] at this; grind
   grind
  ·refine⟨fun h0=>(by rw [h0] at U; grind),fun j hj=>?_⟩
   rw [List.all_eq_true] at hcov
   have:=hcov j ((W j).2 hj)
   exact q done listed σ a w fuel (by grind [Qo]) p C G u I j (List.contains_iff_mem.1 this) hj
theorem leS_get {s:List (Nat × AV)}:∀ {r:List (Nat × AV)},leS s r→∀ {t v},look r t=some v→v= .any ∨look s t=some v
 | [],_,t,v,h=>by cases h
 |(t',v')::r,hl,t,v,h=>by
  rw [AI] at h
  split at h
  ·rename_i e; cases h; rw [e]; exact hl.1
  ·exact leS_get hl.2 h
theorem leO_get {α:Type} {s:List (Nat × Option α)}:∀ {r:List (Nat × Option α)},leO s r→∀ {t v},look r t=some v→v=none∨look s t=some v
 | [],_,t,v,h=>by cases h
 |(t',v')::r,hl,t,v,h=>by
  rw [AI] at h
  split at h
  ·rename_i e; cases h; rw [e]; exact hl.1
  ·exact leO_get hl.2 h
theorem OV {α:Type} {s:List (Nat × α)}:∀ {r:List (Nat × α)},IY s r→∀ {t},(look r t).isSome =true→(look s t).isSome =true
 | [],_,t,h=>by cases h
 |(t',v')::r,hl,t,h=>by
  rw [AI] at h
  split at h
  ·rename_i e; rw [e]; exact hl.1
  ·exact OV hl.2 h
theorem SimE.le {σ σ':St} {a:Act} {w:World} (h:St.Le σ σ') (p:SimE cx N σ a w):SimE cx N σ' a w:=by
 obtain⟨γ,p⟩:=p
 obtain⟨h1,⟨h2,h3⟩,u,q⟩:=h
 refine⟨γ,p.os.tables (fun t tk _ j=>?_) (fun b vs _ hb=>?_),fun i=>?_,fun t j=>OV h3 (p.td t j),fun b hb=>OV q (p.bd b hb),p.df,p.n⟩
 ·unfold St.T at j ⊢
  cases hx:look σ'.t t with
  |none=>rw [hx] at j; cases j
  |some o=>
   rw [hx] at j
   simp only [Option.join] at j
   rcases leO_get h2 hx with e|e
   ·rw [e] at j; cases j
   grind
 ·unfold St.B at hb ⊢
  cases hx:look σ'.b b with
  |none=>rw [hx] at hb; cases hb
  |some o=>
   rw [hx] at hb
   simp only [Option.join] at hb
   rcases leO_get u hx with e|e
   ·rw [e] at hb; cases hb
   grind
 ·have:=p.sl i
  unfold St.g at this ⊢
  cases hx:look σ'.s i with
  |none=>trivial
  |some v=>
   rcases leS_get h1 hx with e|e
   ·rw [e]; trivial
   grind
theorem SE {P:Program} {ops:Array Oper} {base:Nat} {F:(Nat→Bool)→St}:∀ {l:List Oper} {k:Nat} {ds:List (List Nat × List Nat)},Ik P ops base F k l ds→∀ {i:Nat} {o:Oper},l[i]? =some o→∀S:Nat→Bool,S (k+i)=false→(∀e ∈ o.after,Region.binds .any e=true→S e.on=true)→(∀j,j<ops.size→((deps ops.toList).getD j 0).testBit (k+i)=true→S j=false)→aops P ops base 0 (k+i) [o] (F S) fun σ'=>St.Le σ' (F fun j=>if j=k+i then true else S j)
 | [],_,_,_,i,o,h=>by grind
 |_::_,_,[],h,_,_,_=>h.elim
 | o'::l,k,(d,u)::ds,h,0,o,ho=>fun S v hd q=>by
  simp only [List.getElem?_cons_zero,Option.some.injEq] at ho
  subst ho
  refine h.1.2 S v ?_ ?_
  ·have p:=h.1.1.1
   clear h q
   induction d with
   |nil=>trivial
   |cons j r ih=>
    rw [List.all_cons,Bool.and_eq_true] at p
    refine⟨?_,ih p.2⟩
    grind
  ·have p:=h.1.1.2
   clear h hd
   induction u with
   |nil=>trivial
   |cons j r ih=>
    rw [List.all_cons,Bool.and_eq_true] at p
    refine⟨?_,ih p.2⟩
    simp only [Bool.and_eq_true,decide_eq_true_eq] at p
    exact q j p.1.1 p.1.2
 |o'::l,k,(d,u)::ds,h,i+1,o,ho=>fun S v hd q=>by
  rw [List.getElem?_cons_succ] at ho
  have:=SE h.2 ho S (by rw [show k+1+i=k+(i+1) from by omega]; exact v) hd (fun j hj C=>q j hj (by rw [show k+(i+1)=k+1+i from by omega]; exact C))
  rw [show k+1+i=k+(i+1) from by omega] at this
  omega
theorem iM {l:List Oper} (h:kR l=true):∀i o,l[i]? =some o→∀e ∈ o.after,Region.binds .any e=true→e.on<i:=fun i o ho e j hb=>by
 unfold kR at h
 have h1:=List.all_eq_true.1 h (o,i) (List.mem_zipIdx_iff_getElem?.2 ho)
 grind [Array.all_eq_true_iff_forall_mem]
theorem fH {Q:Exit→Act→World→Prop} {F:(Nat→Bool)→St} (hok:∀o ∈ ops.toList,ED N o=true)
  (hon:∀i o,ops.toList[i]? =some o→∀e ∈ o.after,Region.binds .any e=true→e.on<i)
  (hstep:∀S i o,ops.toList[i]? =some o→S i=false→(∀e ∈ o.after,Region.binds .any e=true→S e.on=true)→(∀j,j<ops.size→((deps ops.toList).getD j 0).testBit i=true→S j=false)→aops cx.P ops base 0 i [o] (F S) fun σ'=>St.Le σ' (F fun j=>if j=i then true else S j))
  (hk:∀a w,SimE cx N (F fun _=>true) a w→Q .normal a w):
  ∀ (fuel:Nat) (listed:Array Bool) (a:Act) (w:World),Lst ops listed→listed.toList.count false=fuel→SimE cx N (F fun j=>listed.getD j true) a w→wpAny cx.P .any ops Q fuel listed a w:=by
 have W:∀ {listed:Array Bool} {j:Nat},j<listed.size→listed.getD j true=listed.getD j false:=fun {listed j} hj=>by
  rw [Array.getD_eq_getD_getElem?,Array.getD_eq_getD_getElem?,Array.getElem?_eq_getElem hj]; rfl
 intro fuel
 induction fuel with
 | zero=>
  intro listed a w p hc U
  have u:∀j,listed.getD j true=true:=fun j=>by
   grind [ZW]
  have hr:Region.ready .any ops listed=[] :=by
   simp_all [List.eq_nil_iff_forall_not_mem,mem_ready]
  grind [wpAny_done]
 | succ fuel ih=>
  intro listed a w p hc U
  refine⟨fun h0=>absurd h0 (p.some_ready hon (by omega)),fun i O=>?_⟩
  obtain⟨h0,o,ho,u⟩:=mem_ready.1 O
  have J:=(Array.getElem?_eq_some_iff.1 ho).1
  have q:i<listed.size:=by rw [p.size]; omega
  have v:ops.toList[i]? =some o:=by rw [Array.getElem?_toList]; exact ho
  refine MZ ho (hok o (List.mem_of_getElem? v)) (hstep _ i o v h0 (fun e he hb=>?_) fun j hj Y=>?_) U fun σ' a' w' C G=>ih (listed.setIfInBounds i true) a' w' (p.set O) ?_ ?_
  ·grind
  ·have I:j<listed.size:=by rw [p.size]; exact hj
   rw [W I]
   cases hl:listed.getD j false with
   |false=>rfl
   |true=>
    have:=p.far' hj hl Y
    rw [W q] at h0
    rw [this] at h0
    cases h0
  ·grind [Pb]
  ·have:=SimE.le C G
   have e1:(fun j=>if j=i then true else listed.getD j true)=fun j=>(listed.setIfInBounds i true).getD j true:=funext fun j=>by
    by_cases e:j=i
    ·simp_all
    ·rw [if_neg e,getD_set_ne true (fun h=>e h.symm)]
   rw [e1] at this; omega
theorem bQ {Q:Exit→Act→World→Prop} {K:St→Prop} {E:List Bool} {tr:Tr} {ts:List (Nat × Oper)} {acc:List (Nat × List AV)} (hE:LA E V tr ops=true) (hacc:∀x ∈ acc,∃p ∈ V,x.1 =base+p.1 ∧r p.2 =some ⟨.any,[],[x]⟩) (hacc':∀p ∈ V,∃x ∈ acc,x.1 =base+p.1) (R:Run cx.P ops base V ops.toList ops.size (fun i=> !E.getD i false) f r) (hok:∀o ∈ ops.toList,ED N o=true) (hQ:∀c a w,¬Q (.panic c) a w)
  (hts:∀i o,look ts i=some o→ops.toList[i]? =some o) (h:aTr cx.P ops base ts tr (fin f ops.size acc) K) (hk:∀σ' U w',K σ'→SimE cx N σ' U w'→Q .normal U w'):
  ∀ (fuel:Nat) (listed:Array Bool) (γ:Gh) (a:Act) (w:World),Inv cx N ops base V ops.size (fun i=> !E.getD i false) f r listed γ a w→listed.toList.count false=fuel→wpAny cx.P .any ops Q fuel listed a w:=by
 obtain⟨J,hhd,hp,htl,htr,-⟩:=UU hE
 have fin:∀ (fuel:Nat) (listed:Array Bool) (γ:Gh) (a:Act) (w:World),Inv cx N ops base V ops.size (fun i=> !E.getD i false) f r listed γ a w→listed.toList.count false=fuel→(∀j,j<ops.size→E.getD j false=false→listed.getD j false=true)→wpAny cx.P .any ops Q fuel listed a w:=fun fuel listed γ a w I O u=>by
  refine(bP hts hok J hQ hk tr).1 _ listed (fin f ops.size acc) a w fuel htr I.L (fun j hj=>?_) O h ⟨γ,I.done R (fun j hj hj'=>u j hj (by grind)) hacc hacc'⟩
  rw [List.mem_filter,List.mem_range,Array.length_toList]
  cases hb:E.getD j false with
  |false=>grind
  |true=>
   have:=Pc (I.tail j (by grind) hj)
   rw [this]
   simp
 intro fuel
 induction fuel with
 |zero=>
  intro listed γ a w I O
  refine fin 0 listed γ a w I O fun j hj _=>?_
  have:=ZW O (i:=j) (by rw [I.L.size]; exact hj)
  rw [Array.getD_eq_getD_getElem?,Array.getElem?_eq_getElem (by rw [I.L.size]; exact hj)] at this ⊢
  grind
 | succ fuel ih=>
  intro listed γ a w I O
  by_cases hlate:∃q,q<ops.size∧E.getD q false=false∧q ∈ Region.ready .any ops listed∧late ops.toList (deps ops.toList) q=true
  ·obtain⟨q,hq,hEq,W,hl⟩:=hlate
   obtain⟨hns,o,ho,hsf,hg,hap⟩:=Wx hl
   have ho':ops[q]? =some o:=by rw [← Array.getElem?_toList]; exact ho
   obtain⟨v,hy,γ',I'⟩:=I.ext R hp hok hq (by grind) W ho hsf hg
   refine wpAny_first ho' (fun j o cs b hj=>Region.noSelect_spec hns j o cs b hj) (fun c a w h=>(hQ c _ _ h).elim) fuel listed a w (fun j oj hj hne hun hno=>hap j oj hj hne hno ?_) W hy ?_
   ·cases hb:((deps ops.toList).getD q 0).testBit j with
    |false=>rfl
    |true=>have:=I.L.far W hb; rw [Pc hun] at this; grind
   ·refine ih _ γ' _ _ I' ?_
    have:=Pb (i:=q) (by rw [I.L.size]; exact hq) (mem_ready.1 W).1
    omega
  by_cases u:∀j,j<ops.size→E.getD j false=false→listed.getD j false=true
  ·grind
  ·have G:=u
   refine⟨fun h0=>absurd h0 (I.L.some_ready J (by omega)),fun i Y=>?_⟩
   have hi0:=(mem_ready.1 Y).1
   obtain⟨_,oi,hoi,-⟩:=mem_ready.1 Y
   have F:=(Array.getElem?_eq_some_iff.1 hoi).1
   have hin:E.getD i false=false:=by
    cases hEi:E.getD i false with
    |false=>rfl
    | true=>
     exfalso
     have h1:∀j,j<ops.size→E.getD j false=false→listed.getD j false=true∨late ops.toList (deps ops.toList) j=true:=fun j hj C=>by
      rcases htl i j F hj hEi C with h|h
      ·exact .inl (I.L.far Y h)
      grind
     refine G fun j=>?_
     induction j using Nat.strongRecOn with
     | ind j ihj=>
      intro hj C
      rcases h1 j hj C with h|h
      ·exact h
      ·refine Classical.byContradiction fun hlj=>hlate ⟨j,hj,C,?_,h⟩
       have hoj:ops[j]? =some ops[j] :=Array.getElem?_eq_getElem hj
       have hojl:ops.toList[j]? =some ops[j] :=by rw [Array.getElem?_toList]; omega
       refine mem_ready.2 ⟨?_,ops[j],hoj,fun e he hb=>?_⟩
       ·rw [Array.getD_eq_getD_getElem?,Array.getElem?_eq_getElem (by rw [I.L.size]; exact hj),Option.getD_some] at hlj ⊢
        grind
       grind
   refine I.step R hp hok F (by grind) Y fun γ' U w' I'=>ih _ γ' U w' I' ?_
   grind [Pb]
theorem bR {id} {Q} {σ} {K} {a} {w} (hm:cx.P.follows .mixedOrders =true) (hok:∀o ∈ ops.toList,ED N o=true) (hQ:∀c a w,¬Q (.panic c) a w) {E} {tr} (hE:LA E V tr ops=true)
  (h:FE cx.P ops base V E 0 ops.toList [] [] σ fun ts acc σ'=>az acc σ' fun σ'=>aTr cx.P ops base ts tr σ' K) (u:SimE cx N σ a w) (hk:∀σ' a' w',K σ'→SimE cx N σ' a' w'→Q .normal a' w'):(Code.region id ops true).wp cx.P Q a w:=by
 obtain⟨hon,hhd,hp,htl,htr,I⟩:=UU hE
 have F:=ZS I
 have hva:=iG I
 have hgv:∀j o,ops.toList[j]? =some o→Bo V j≠ .no →o.guard=none:=fun j o ho hv=>by
  generalize hr:Bo V j=vr at hv
  cases vr with
  |no=>grind
  |al=>
   grind [Ka]
  |st k=>
   obtain⟨-,-,-,o1,o2,t,a,x,k1,k2,k3,k4,-,-⟩:=F.1 _ (KZ hr)
   grind
 obtain⟨f,r,ts,acc,k1,⟨k2f,k2⟩,k3,k4,k5,-,k7⟩:=Wv ops.toList E 0 [] [] σ _ h (fun j o ho hj hv=>(hhd j o ho hj).1 (by grind)) fun j o ho hj hv=>hgv j o ho (by grind)
 simp only [Nat.zero_add,Array.length_toList] at k2 k2f k3 k4 k5 k7
 have O:∀j o,ops.toList[j]? =some o→j<ops.size:=fun j o ho=>by
  have:=(List.getElem?_eq_some_iff.1 ho).1
  rwa [Array.length_toList] at this
 have Y:∀x ∈ acc,∃p ∈ V,x.1 =base+p.1 ∧r p.2 =some ⟨.any,[],[x]⟩:=fun x hx=>by
  rcases k5 x hx with h|⟨j,k,e1,e2,e3⟩
  ·cases h
  ·exact⟨(k,j),KZ e1,e2,e3⟩
 have q:∀p ∈ V,∃x ∈ acc,x.1 =base+p.1 :=fun p hp=>by
  grind
 have R:Run cx.P ops base V ops.toList ops.size (fun i=> !E.getD i false) f r:=by
  refine⟨fun i o hi v ho=>(k3 i o ho).2 (by grind),fun i hi v=>?_,by rw [Array.length_toList]; omega,fun i j o o' d hi hj v W ho ho' U J=>?_,fun p hp=>?_,F.2⟩
  ·have ho:ops.toList[i]? =some ops[i] :=by rw [Array.getElem?_toList]; grind
   grind
  ·rcases Nat.lt_trichotomy i j with O|heq|hgt
   ·exact absurd U ((hp j i o' o hj W v O ho' ho).1 d J)
   ·omega
   ·exact absurd J ((hp i j o o' hi v W hgt ho ho').1 d U)
  ·obtain⟨q0,q1,q2,o1,o2,t,a,x,q3,q4,q5,q6,q7,q8⟩:=F.1 p hp
   obtain⟨x,hx,hxe⟩:=q p hp
   grind [El]
 refine wp_region_any hm ?_
 obtain⟨γ,u⟩:=u
 have hos:=u.os.below (w':= {w with drawn:=w.drawn+1}) ((Below.refl _ w).drew)
 have C:∀j b,(Array.replicate ops.size false).getD j b=if j<ops.size then false else b:=fun j b=>by
  rw [Array.getD_eq_getD_getElem?,Array.getElem?_replicate]
  split <;> rfl
 have G:∀j,(Array.replicate ops.size false).getD j false=false:=fun j=>by rw [C]; split <;> rfl
 refine bQ hE Y q R hok hQ (fun i o hlk=>?_) k2 hk ops.size _ γ a _ ⟨⟨by simp,fun j o ho hl=>by grind⟩,fun t _ h2=>by rw [C,if_pos h2],?_,fun j o x _ _ _ _ hl=>(by rw [G] at hl; cases hl),fun x _=>by rw [k1]; exact u.sl x,fun t h=>.inl (by rw [k1]; exact u.td t h),fun b h=>.inl (by rw [k1]; exact u.bd b h),u.df,u.n⟩ (by simp)
 ·grind [look]
 refine hos.tables (fun t tk h1 h2=>?_) fun b vs h1 h2=>?_
 ·obtain⟨y,hy⟩:=Option.isSome_iff_exists.1 (u.td t h1)
  have:=R.look_te (i:=0) (j:=ops.size) (by omega) (Nat.le_refl _) (by rw [k1]; exact hy)
  grind [St.T]
 ·obtain⟨y,hy⟩:=Option.isSome_iff_exists.1 (u.bd b h1)
  have:=R.look_be (i:=0) (j:=ops.size) (by omega) (Nat.le_refl _) (by rw [k1]; exact hy)
  rw [UW (R.not_priv this),this] at h2
  grind [St.B]
theorem bS {id} {Q} {σ} {K} {a} {w} (hm:cx.P.follows .mixedOrders =true) (hok:∀o ∈ ops.toList,ED N o=true)
  (h:qI cx.P ops base σ K) (p:SimE cx N σ a w) (hk:∀σ' a' w',K σ'→SimE cx N σ' a' w'→Q .normal a' w'):(Code.region id ops true).wp cx.P Q a w:=by
 obtain⟨F,W,h1,h2,h3,I⟩:=h
 refine wp_region_any hm ?_
 obtain⟨γ,p⟩:=p
 have v:SimE cx N σ a {w with drawn:=w.drawn+1}:=⟨γ,p.os.below ((Below.refl _ w).drew),p.sl,p.td,p.bd,p.df,p.n⟩
 have u:=SimE.le h2 v
 have q:∀j b,(Array.replicate ops.size false).getD j b=if j<ops.size then false else b:=fun j b=>by
  rw [Array.getD_eq_getD_getElem?,Array.getElem?_replicate]
  split <;> rfl
 have C:∀j,(Array.replicate ops.size false).getD j false=false:=fun j=>by rw [q]; split <;> rfl
 have O:(fun j=>decide (ops.size≤j))=fun j=>(Array.replicate ops.size false).getD j true:=funext fun j=>by
  rw [q]
  grind
 rw [O] at u
 refine fH (base:=base) hok (iM h1) (fun S i o ho U hd J=>?_) (fun a w p=>hk _ a w I p) ops.size (Array.replicate ops.size false) a _ ⟨by simp,fun j o ho Y=>by grind⟩ (by simp) u
 have:=SE h3 ho S (by rw [Nat.zero_add]; exact U) hd (fun j hj G=>J j hj (by rw [Nat.zero_add] at G; exact G))
 rw [Nat.zero_add] at this
 omega
end
end Go.Proofs.YtjnifengdhcojaaGreatDoor.Ab
