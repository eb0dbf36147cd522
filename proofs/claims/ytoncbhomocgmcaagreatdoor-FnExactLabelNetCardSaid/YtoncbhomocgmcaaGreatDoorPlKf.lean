/-
  Decimal: both sides give the decimal numeral. No program is in sight.
-/
import Derived.Test.YtoncbhomocgmcaaGreatDoorModQ
import Derived.Test.YtoncbhomocgmcaaGreatDoorPlNet
import Derived.Test.YtoncbhomocgmcaaGreatDoorModS
import Derived.Test.YtoncbhomocgmcaaGreatDoorModI
import Derived.Test.YtoncbhomocgmcaaGreatDoorPlGc
namespace Go.Proofs.YtoncbhomocgmcaaGreatDoor.Ab
set_option linter.unusedVariables false
set_option linter.unusedSimpArgs false
open Go.RowKit
theorem Hi (n:Int):EO n=some (GA n):=by
 unfold EO Ga
 rw [if_pos rfl]
 rfl
def digs:Nat→Nat→List Int
 |0,_=>[]
 |k+1,u=>if u=0 then [] else (48+((u % 10:Nat):Int))::digs k (u / 10)
theorem MV:∀k u,(digs k u).length ≤k
 |0,_=>by simp [digs]
 | k+1,u=>by
  unfold digs
  split
  ·simp
  ·have:=MV k (u / 10)
   simp; omega
theorem In:∀k u,0<u→u<10 ^ k→Lib.decDigits u=(digs k u).reverse.map fun z=>UInt8.ofNat z.toNat
 |0,u,h0,h1=>by simp at h1; omega
 | k+1,u,h0,h1=>by
  rw [Nat.pow_succ] at h1
  rw [Lib.decDigits,digs,if_neg (by omega),List.reverse_cons,List.map_append]
  by_cases h:u<10
  ·rw [dif_pos h]
   have e:u / 10=0:=by omega
   have e2:digs k 0=[] :=by cases k with|zero=>rfl|succ k=>simp [digs]
   have e3:u % 10=u:=by omega
   rw [e,e2,e3]
   simp only [List.reverse_nil,List.map_nil,List.nil_append,List.map_cons]
   congr 2
  ·rw [dif_neg h,In k (u / 10) (by omega) (by omega)]
   simp only [List.map_cons,List.map_nil]
   congr 3
theorem Xw (p:List Int) (hp:p.length≤Big):∀ (n k:Nat) (acc:List Int),k≤p.length→k<n→acc.length+k≤Big→Ct n p acc ((k:Int) - 1)=MS (acc++(p.take k).reverse):=by
 intro n
 induction n with
 |zero=>intro k acc h1 h2; omega
 | succ n ih=>
  intro k acc h1 h2 h3
  rw [Ct]
  cases k with
  |zero=>
   rw [if_neg (by simp)]
   cases h:MS (acc++(List.take 0 p).reverse) <;> simp at h <;> simp [h]
  | succ k=>
   have e:(((k+1:Nat):Int) - 1)=(k:Int):=by omega
   unfold Big at hp h3
   rw [e,if_pos (by simp)]
   unfold at?
   rw [if_pos (by omega),Int.toNat_natCast,List.getElem?_eq_getElem (by omega),AA,CC (by simp [Big]; omega),AA,w64 (by omega) (by omega),ih k _ (by omega) (by omega) (by simp [Big]; omega)]
   have e2:acc++[p[k]] ++(p.take k).reverse =acc++(p.take (k+1)).reverse :=by
    rw [List.take_succ_eq_append_getElem (by omega),List.reverse_append]
    simp
   rw [e2]
theorem Zx (a:Int):∀ (k n:Nat) (acc:List Int) (m:Int),m.natAbs<10 ^ k→k≤25→2*k+3≤n→acc.length+k≤1000→(-9223372036854775808≤m∧m≤9223372036854775807)→
  CH n a acc m=if a=0 then Bq a (acc++digs k m.natAbs++[48]) else Bq a (acc++digs k m.natAbs):=by
 intro k
 induction k with
 |zero=>
  intro n acc m h1 hk hn hl hm
  obtain⟨n,rfl⟩:∃q,n=q+1:=⟨n - 1,by omega⟩
  have:m=0:=by simp at h1; omega
  subst this
  rw [CH,if_neg (by simp)]
  simp only [digs,List.append_nil]
  by_cases h:a=0
  ·rw [if_pos (by simpa using h),if_pos h,CC (by simp [Big]; omega),AA]
  ·rw [if_neg (by simpa using h),if_neg h]
 | succ k ih=>
  intro n acc m h1 hk hn hl hm
  obtain⟨n,rfl⟩:∃q,n=q+2:=⟨n - 2,by omega⟩
  rw [CH]
  by_cases h0:m=0
  ·subst h0
   rw [if_neg (by simp)]
   have e:digs (k+1) (Int.natAbs 0)=[] :=by simp [digs]
   rw [e]
   simp only [List.append_nil]
   by_cases h:a=0
   ·rw [if_pos (by simpa using h),if_pos h,CC (by simp [Big]; omega),AA]
   ·rw [if_neg (by simpa using h),if_neg h]
  ·rw [if_pos (by simpa using h0)]
   have hd:(Int.tdiv m 10).natAbs =m.natAbs / 10:=by rw [Int.natAbs_tdiv]; rfl
   have hr:(Int.tmod m 10).natAbs =m.natAbs % 10:=by rw [Int.natAbs_tmod]; rfl
   have hw:IntKind.i64.wrap (Int.tdiv m 10)=Int.tdiv m 10:=w64 (by omega) (by omega)
   have step:∀z:Int,z=((m.natAbs % 10:Nat):Int)→DJ (n+1) a acc m z=if a=0 then Bq a (acc++digs (k+1) m.natAbs++[48]) else Bq a (acc++digs (k+1) m.natAbs):=fun z hz=>by
    subst hz
    have hu:IntKind.u8.wrap (IntKind.i64.wrap (48+((m.natAbs % 10:Nat):Int)))=48+((m.natAbs % 10:Nat):Int):=by
     rw [w64 (by omega) (by omega)]
     simp only [IntKind.wrap,IntKind.signed,IntKind.bits]
     simp
     omega
    rw [DJ,hu,CC (by simp [Big]; omega),AA,hw,ih n _ _ (by rw [hd]; rw [Nat.pow_succ] at h1; omega) (by omega) (by omega) (by simp; omega) (by omega),hd]
    have e:digs (k+1) m.natAbs=(48+((m.natAbs % 10:Nat):Int))::digs k (m.natAbs / 10):=by rw [digs,if_neg (by omega)]
    rw [e]
    simp only [List.append_assoc,List.cons_append,List.nil_append]
   by_cases hneg:(Int.tmod m 10)<0
   ·rw [if_pos (by simpa using hneg)]
    exact step _ (by rw [w64 (by omega) (by omega)]; omega)
   ·rw [if_neg (by simpa using hneg)]
    exact step _ (by omega)
theorem aX (a:Int) (l:List Int) (hl:l.length≤1000):Bq a l=some (strOfNums (if a<0 then 45::l.reverse else l.reverse)):=by
 have tail:∀q:List Int,q.length≤1001→Da q=some (strOfNums q.reverse):=fun q hq=>by
  unfold Da
  rw [w64 (by omega) (by omega),Xw q (by unfold Big; omega) fuel q.length [] (Nat.le_refl _) (Nat.lt_of_lt_of_le (by omega) (Qf (n:=2000) (by omega))) (by simp [Big]; omega)]
  unfold MS
  rw [if_pos (by simp; omega),List.take_length,List.nil_append]
 unfold Bq
 by_cases h:a<0
 ·rw [if_pos (by simpa using h),CC (by simp [Big]; omega),AA,tail _ (by simp; omega),if_pos h]
  simp
 ·rw [if_neg (by simpa using h),tail _ (by omega),if_neg h]
theorem Hj (n:Int) (h:(Lit.int IntKind.i64 n).wf =true):Ey n=some (GA n):=by
 have hr: -9223372036854775808≤n∧n≤9223372036854775807:=by simpa [Lit.wf,IntKind.min,IntKind.max,IntKind.signed,IntKind.bits] using h
 unfold Ey
 rw [Zx n 20 fuel [] n (by omega) (by omega) (Qf (by omega)) (by simp) hr,List.nil_append]
 have hlen:=MV 20 n.natAbs
 unfold GA Lib.itoa
 by_cases h0:n=0
 ·subst h0
  rw [if_pos rfl,aX _ _ (by simp [digs]),if_neg (by omega),if_neg (by omega),show Int.toNat 0=0 from rfl,Lib.decDigits,dif_pos (by omega)]
  rfl
 ·rw [if_neg h0,aX _ _ (by omega)]
  have hd:=In 20 n.natAbs (by omega) (by omega)
  by_cases hneg:n<0
  ·rw [if_pos hneg,if_pos hneg,hd]
   unfold strOfNums
   rfl
  ·rw [if_neg hneg,if_neg hneg,show n.toNat=n.natAbs by omega,hd]
   unfold strOfNums
   rfl
theorem GL (n:Int) (h:(Lit.int IntKind.i64 n).wf =true):(GA n).size ≤21:=by
 have hr: -9223372036854775808≤n∧n≤9223372036854775807:=by simpa [Lit.wf,IntKind.min,IntKind.max,IntKind.signed,IntKind.bits] using h
 have:=Lib.itoa_length_le n hr.1 hr.2
 show (Lib.itoa n).toArray.size ≤21
 rw [List.size_toArray]
 omega
set_option maxHeartbeats 1000000
theorem Hk {a b:ByteArray} (h:a.size+b.size≤9223372036854775807):D6 a b=some (a++b):=by unfold D6; rw [if_pos h]
theorem Pz:∀ (l:List Agent) (i:Nat),Qg i l=true→∀ (k:Nat) (a:Agent),l[k]? =some a→agB a=true
 | [],_,_,k,a,h=>by grind
 |x::l,i,hb,0,a,h=>by grind [Qg]
 |x::l,i,hb,k+1,a,h=>by
  rw [Qg] at hb
  simp only [Bool.and_eq_true] at hb
  rw [List.getElem?_cons_succ] at h
  exact Pz l (i+1) hb.2 k a h
theorem MW {l:List Agent} {i:Nat}:∀ (ps:List Port) (k:Nat),FL l i k ps=true→∀ (j:Nat) (p:Port),ps[j]? =some p→P0 l i (k+j) p=true
 | [],_,_,j,p,h=>by grind
 |x::ps,k,hb,0,p,h=>by
  rw [FL] at hb
  grind
 |x::ps,k,hb,j+1,p,h=>by
  rw [FL] at hb
  simp only [Bool.and_eq_true] at hb
  rw [List.getElem?_cons_succ] at h
  have:=MW ps (k+1) hb.2 j p h
  rwa [show k+1+j=k+(j+1) from by omega] at this
theorem Io {l:List Agent}:∀ (m:List Agent) (i:Nat),Dz l i m=true→∀ (k:Nat) (a:Agent),m[k]? =some a→FL l (i+k) 0 a.ports=true
 | [],_,_,k,a,h=>by grind
 |x::m,i,hb,0,a,h=>by
  rw [Dz] at hb
  grind
 |x::m,i,hb,k+1,a,h=>by
  rw [Dz] at hb
  simp only [Bool.and_eq_true] at hb
  rw [List.getElem?_cons_succ] at h
  have:=Io m (i+1) hb.2 k a h
  rwa [show i+1+k=i+(k+1) from by omega] at this
def Tl (l:List Agent) (p:Port):Prop:=∃a q,at? l p.agent=some a∧at? a.ports p.slot=some q
structure Vg (l:List Agent):Prop where
 len:1≤l.length∧l.length≤600
 ag:∀i a,at? l i=some a→agB a=true
 pr:∀i a k p,at? l i=some a→at? a.ports k=some p→Tl l p
theorem Net.valid_vg {n:Net} (h:n.valid=true):Vg n.agents:=by
 unfold Net.valid agentsB at h
 simp only [Bool.and_eq_true,decide_eq_true_eq] at h
 obtain⟨⟨h1,h2⟩,h3⟩:=h
 refine⟨h1,fun i a hi=>?_,fun i a k p hi hk=>?_⟩
 ·exact Pz _ 0 h2 _ _ (EY hi).2
 ·have:=MW _ 0 (Io _ 0 h3 _ _ (EY hi).2) _ _ (EY hk).2
  unfold P0 at this
  simp only [Bool.and_eq_true] at this
  cases hq:FW n.agents p with
  |none=>rw [hq] at this; simp at this
  |some q=>
   obtain⟨b,hb,hbq⟩:=Option.bind_eq_some_iff.1 hq
   exact⟨b,q,hb,hbq⟩
theorem agP {a:Agent} (h:agB a=true):(1≤a.kind∧a.kind≤12)∧(0≤a.level∧a.level≤8)∧a.ports.length≤4∧a.data.length≤4∧1≤a.ports.length∧
  ((a.kind=2∨a.kind=3∨a.kind=4∨a.kind=7)→a.ports.length=3)∧((a.kind=8∨a.kind=10∨a.kind=11)→a.ports.length=2)∧(a.kind=8→a.data.length=1):=by
 unfold agB levB P1 at h
 simp only [Bool.and_eq_true,decide_eq_true_eq] at h
 obtain⟨⟨⟨h1,h2⟩,h3,h4⟩,h5⟩:=h
 refine⟨h3,by grind,?_,by grind,by omega,?_,?_,by grind⟩
 all_goals unfold ports at h2; grind
theorem Ip {α:Type} {l:List α} {i:Int} (h0:0≤i) (h:i<(l.length:Int)):∃x,at? l i=some x:=by
 obtain⟨x,hx,-⟩:=OG ⟨h0,h⟩
 exact⟨x,hx⟩
theorem M9 {l:List Agent} {a:Agent} {i k:Int} {q:Port} (h:at? l i=some a) (hk:at? a.ports k=some q):CB ⟨l⟩ ⟨i,k⟩=some q:=by
 unfold CB
 rw [h,AA,hk,AA]
theorem wfI {n:Int} (h: -9223372036854775808≤n∧n≤9223372036854775807):(Lit.int IntKind.i64 n).wf =true:=by
 simpa [Lit.wf,IntKind.min,IntKind.max,IntKind.signed,IntKind.bits] using h
def entB (p:Port):ByteArray:=GA p.agent++ByteArray.mk #[46] ++GA p.slot++ByteArray.mk #[59]
theorem K3:(ByteArray.mk #[46]).size =1:=rfl
theorem P2:(ByteArray.mk #[59]).size =1:=rfl
theorem WC (p:Port) (h:(Lit.int IntKind.i64 p.agent).wf =true) (h2:(Lit.int IntKind.i64 p.slot).wf =true):(entB p).size ≤50:=by
 have:=GL _ h
 have:=GL _ h2
 simp only [entB,ByteArray.size_append,K3,P2]
 omega
theorem Xx (p:Port) (h:(Lit.int IntKind.i64 p.agent).wf =true) (h2:(Lit.int IntKind.i64 p.slot).wf =true):E8 p=some (entB p)∧GB p=some (entB p):=by
 have h3:=GL _ h
 have h4:=GL _ h2
 have e1:D6 (GA p.agent) (ByteArray.mk #[46])=some (GA p.agent++ByteArray.mk #[46]):=Hk (by rw [K3]; omega)
 have e2:D6 (GA p.agent++ByteArray.mk #[46]) (GA p.slot)=some (GA p.agent++ByteArray.mk #[46] ++GA p.slot):=Hk (by simp only [ByteArray.size_append,K3]; omega)
 have e3:D6 (GA p.agent++ByteArray.mk #[46] ++GA p.slot) (ByteArray.mk #[59])=some (entB p):=Hk (by simp only [ByteArray.size_append,K3,P2]; omega)
 constructor
 ·unfold E8
  rw [Hi,AA,e1,AA,Hi,AA,e2,AA,e3,AA]
 ·unfold GB
  rw [Hj _ h,AA,e1,AA,Hj _ h2,AA,e2,AA,e3,AA]
theorem wfP {l:List Agent} (hv:Vg l) {p:Port} (h:Tl l p):(Lit.int IntKind.i64 p.agent).wf =true∧(Lit.int IntKind.i64 p.slot).wf =true∧0≤p.agent∧p.agent<600∧0≤p.slot∧p.slot<4:=by
 obtain⟨a,q,ha,hq⟩:=h
 have h1:=GZ ha
 have h2:=GZ hq
 have h3:=agP (hv.ag _ _ ha)
 have:=hv.len
 exact⟨wfI (by omega),wfI (by omega),by omega,by omega,by omega,by omega⟩
def Stacks.lst (s:Stacks):List (List Int):=s.l.map fun o=>(stl o).reverse
theorem Stacks.l_len (s:Stacks):s.l.length=9:=rfl
theorem Stacks.lst_len (s:Stacks):s.lst.length=9:=rfl
def Stacks.Fit (s:Stacks) (e:Nat):Prop:=∀x ∈ s.l,(stl x).length ≤e∧∀k ∈ stl x,1≤k∧k≤2
theorem Stacks.Fit.mono {s:Stacks} {e f:Nat} (h:s.Fit e) (he:e≤f):s.Fit f:=fun x hx=>⟨Nat.le_trans (h x hx).1 he,(h x hx).2⟩
theorem Stacks.of_l:∀ (l:List (Option Stack)),l.length=9→∃t,Stacks.of? l=some t∧t.l=l
 | [a,b,c,d,e,f,g,h,i],_=>⟨_,rfl,rfl⟩
theorem Tm {α β:Type} {l:List α} {f:α→β} {i:Int} {x:α} (h:at? l i=some x):at? (l.map f) i=some (f x):=by
 obtain⟨h0,h1⟩:=EY h
 unfold at?
 rw [if_pos h0,List.getElem?_map,h1]; rfl
theorem Qh {α:Type} {l:List α} {i:Int} {x:α} (h:at? l i=some x):x ∈ l:=List.mem_of_getElem? (EY h).2
theorem Stacks.set_ok (s:Stacks) (lv:Int) (x:Option Stack):∃t,Option.bind (CL s.l lv x) Stacks.of?=some t∧t.lst=s.lst.set lv.toNat (stl x).reverse ∧(∀e,s.Fit e→(stl x).length ≤e→(∀k ∈ stl x,1≤k∧k≤2)→t.Fit e):=by
 obtain⟨t,h1,h2⟩:=Stacks.of_l (s.l.set lv.toNat x) (by rw [List.length_set]; rfl)
 refine⟨t,h1,?_,fun e hs hx hk y hy=>?_⟩
 ·unfold Stacks.lst
  rw [h2,List.map_set]
 ·rw [h2] at hy
  rcases List.mem_or_eq_of_mem_set hy with hy|rfl
  ·exact hs y hy
  ·exact⟨hx,hk⟩
theorem P3 (s:List (List Int)) (lv:Int) (x:List Int) (h0:0≤lv) (h1:lv<(s.length:Int)) (hl:s.length≤9):G5 s lv x=some (s.set lv.toNat x):=by
 unfold G5
 obtain⟨y,hy⟩:=Ip h0 h1
 rw [CC (by simp [Big]; omega),AA,List.nil_append,hy,AA]
 rfl
theorem Tn (l:List Int) (h:l.length≤Big):FA l=some l:=by
 unfold FA
 rw [CC (by simpa using h),AA,List.nil_append]
theorem HH (s:Stack):stl (some s)=s.port::stl s.rest:=Stack.li_eq s
theorem cY {A:List Agent} {a:Agent} {q:Port} {s:Stacks} {st:Option Stack} (r:Reading) (hr:r.net=⟨A⟩) (p:Port) (ha:at? A p.agent=some a) (hq:at? a.ports 0=some q) (hs:at? s.l a.level=some st) (h:0<p.slot) (hp:p.slot≤2) (e:Nat) (hf:s.Fit e):
  ∃t,Bp r p s=some (q,true,t)∧t.lst=s.lst.set a.level.toNat ((stl st).reverse ++[p.slot])∧t.Fit (e+1):=by
 obtain⟨t,h1,h2,h3⟩:=s.set_ok a.level (some ⟨p.slot,st⟩)
 refine⟨t,?_,?_,h3 _ (hf.mono (by omega)) ?_ ?_⟩
 ·unfold Bp
  rw [hr,show (Net.mk A).agents =A from rfl,ha,AA,if_pos (by simpa using h)]
  change Option.bind (at? s.l a.level) _=_
  rw [hs,AA]
  change Option.bind (at? s.l a.level) _=_
  rw [hs,AA]
  change Option.bind (CL s.l a.level (some ⟨p.slot,st⟩)) _=_
  cases hx:CL s.l a.level (some ⟨p.slot,st⟩) with
  |none=>rw [hx] at h1; cases h1
  |some l=>
   rw [hx] at h1
   rw [AA] at h1 ⊢
   rw [h1,AA,M9 ha hq,AA]
 ·rw [h2,HH,List.reverse_cons]
 ·rw [HH,List.length_cons]
  have:=(hf st (Qh hs)).1
  show (stl st).length +1≤e+1
  omega
 ·intro k hk
  rw [HH,List.mem_cons] at hk
  rcases hk with rfl|hk
  ·show 1≤p.slot∧p.slot≤2
   omega
  ·exact(hf st (Qh hs)).2 k hk
theorem Xy {A:List Agent} {a:Agent} {s:Stacks} (r:Reading) (hr:r.net=⟨A⟩) (p:Port) (ha:at? A p.agent=some a) (hs:at? s.l a.level=some none) (h:¬ 0<p.slot):Bp r p s=some (⟨0,0⟩,false,s):=by
 unfold Bp
 rw [hr,show (Net.mk A).agents =A from rfl,ha,AA,if_neg (by simpa using h)]
 change Option.bind (at? s.l a.level) _=_
 rw [hs,AA]
 rfl
theorem Xz {A:List Agent} {a:Agent} {q:Port} {s:Stacks} {st:Stack} (r:Reading) (hr:r.net=⟨A⟩) (p:Port) (ha:at? A p.agent=some a) (hs:at? s.l a.level=some (some st)) (hq:at? a.ports st.port=some q) (h:¬ 0<p.slot) (e:Nat) (hf:s.Fit e):
  ∃t,Bp r p s=some (q,true,t)∧t.lst=s.lst.set a.level.toNat (stl st.rest).reverse ∧t.Fit e:=by
 obtain⟨t,h1,h2,h3⟩:=s.set_ok a.level st.rest
 have hst:=hf _ (Qh hs)
 rw [HH] at hst
 refine⟨t,?_,h2,h3 _ hf (by have:=hst.1; rw [List.length_cons] at this; omega) fun k hk=>hst.2 k (List.mem_cons_of_mem _ hk)⟩
 unfold Bp
 rw [hr,show (Net.mk A).agents =A from rfl,ha,AA,if_neg (by simpa using h)]
 change Option.bind (at? s.l a.level) _=_
 rw [hs,AA]
 change Option.bind (at? s.l a.level) _=_
 rw [hs,AA]
 change Option.bind (CL s.l a.level st.rest) _=_
 cases hx:CL s.l a.level st.rest with
 |none=>rw [hx] at h1; cases h1
 |some l=>
  rw [hx] at h1
  rw [AA] at h1 ⊢
  rw [h1,AA,M9 ha hq,AA]
theorem Oi (l m:List Int) (hl:l.length≤Big):Bm (Fj l m) (l=m):=by
 unfold Fj
 exact WD (fun n i=>DK n l m i) (fun x y=>some (decide (x=y))) l m (fun n i=>by rw [DK]; rfl) hl fun x _ y _=>.mk Gb
theorem Lm (l m:List (List Int)) (hl:l.length≤Big) (h:∀x ∈ l,x.length≤Big):Bm (DX l m) (l=m):=by
 unfold DX
 exact WD (fun n i=>BU n l m i) Fj l m (fun n i=>by rw [BU]) hl fun x hx y _=>Oi x y (h x hx)
theorem OH (s t:Stacks) (lv:Int) (h1:lv≤8):∀ (j:Nat) (i:Int) (n:Nat),0≤i→i+j=lv→j<n→Bm (Ao n s t lv i) (∀k:Nat,i≤k→(k:Int)<lv→s.lst[k]? =t.lst[k]?)
 |0,i,n,h0,hj,hn=>by
  obtain⟨n,rfl⟩:∃m,n=m+1:=⟨n - 1,by omega⟩
  rw [Ao,if_neg (by simp; omega)]
  exact .mk ⟨fun _ k h1 h2=>by omega,fun _=>rfl⟩
 | j+1,i,n,h0,hj,hn=>by
  obtain⟨n,rfl⟩:∃m,n=m+1:=⟨n - 1,by omega⟩
  obtain⟨x,hx⟩:=Ip (l:=s.l) h0 (by rw [Stacks.l_len]; omega)
  obtain⟨y,hy⟩:=Ip (l:=t.l) h0 (by rw [Stacks.l_len]; omega)
  have ih:=OH s t lv h1 j (i+1) n (by omega) (by omega) (by omega)
  rw [Ao,if_pos (by simp; omega)]
  change Bm ((at? s.l i).bind fun v=>Option.bind (at? t.l i) _) _
  rw [hx,AA,hy,AA,w64 (by omega) (by omega)]
  unfold Im
  rw [AA]
  have hxl:=(EY (Tm (f:=fun o=>(stl o).reverse) hx)).2
  have hyl:=(EY (Tm (f:=fun o=>(stl o).reverse) hy)).2
  change s.lst[i.toNat]? =some _ at hxl
  change t.lst[i.toNat]? =some _ at hyl
  refine(EQ Gb fun _=>ih).iff ⟨fun ⟨e,hk⟩ k h2 h3=>?_,fun hk=>⟨?_,fun k h2 h3=>hk k (by omega) h3⟩⟩
  ·by_cases hi:(k:Int)=i
   ·rw [show k=i.toNat from by omega,hxl,hyl,e]
   ·exact hk k (by omega) h3
  ·have:=hk i.toNat (by omega) (by omega)
   rw [hxl,hyl,Option.some.injEq,List.reverse_inj] at this
   exact this
theorem X0 (s t:Stacks) (lv:Int) (h0:0≤lv) (h1:lv≤8):Bm (CS s t lv) (t.lst.take lv.toNat=s.lst.take lv.toNat):=by
 unfold CS
 refine(OH s t lv h1 lv.toNat 0 fuel (by omega) (by omega) (by rw [BF]; omega)).iff ⟨fun h=>?_,fun h k _ hk=>?_⟩
 ·refine List.ext_getElem? fun k=>?_
  rw [List.getElem?_take,List.getElem?_take]
  split
  ·exact(h k (by omega) (by omega)).symm
  ·rfl
 ·have:=congrArg (fun l=>l[k]?) h
  simp only [List.getElem?_take] at this
  rw [if_pos (by omega),if_pos (by omega)] at this
  exact this.symm
def ReadBinder.bl:ReadBinder→List (Int × Stacks)
 |⟨p,s,none⟩=>[(p,s)]
 |⟨p,s,some r⟩=>(p,s)::r.bl
def rbl:Option ReadBinder→List (Int × Stacks)
 |none=>[]
 |some b=>b.bl
theorem K4 (b:ReadBinder):rbl (some b)=(b.lam,b.stacks)::rbl b.rest:=by
 obtain⟨p,s,r⟩:=b
 cases r <;> simp only [rbl,ReadBinder.bl]
def X1 (A:List Agent) (i:Int):Nat:=match at? A i with
 |some a=>a.level.toNat
 |none=>0
theorem SN {A:List Agent} {i:Int} {a:Agent} (h:at? A i=some a):X1 A i=a.level.toNat:=by unfold X1; rw [h]
def sbOf (A:List Agent) (x:Int × Stacks):L16Binder:=⟨x.1,x.2.lst.take (X1 A x.1)⟩
def hit (lam:Int) (lv:Nat) (s:Stacks) (x:Int × Stacks):Bool:=decide (x.1 =lam)&&decide (x.2.lst.take lv=s.lst.take lv)
def GM (lam:Int) (lv:Nat) (s:Stacks):Int→List (Int × Stacks)→Int
 |_,[] => -1
 |k,x::l=>if hit lam lv s x=true then k else GM lam lv s (k+1) l
theorem P4 {A:List Agent} {a:Agent} (hv:Vg A) (r:Reading) (hr:r.net=⟨A⟩) (lam:Int) (ha:at? A lam=some a) (s:Stacks):∀ (l:List (Int × Stacks)) (b:Option ReadBinder) (n:Nat) (k:Int),rbl b=l→2*l.length+1≤n→0≤k→k+l.length≤1000000→
  Ah n r lam s b k=some (GM lam a.level.toNat s k l)
 |l,none,n,k,hb,hn,hk,hl=>by
  obtain⟨n,rfl⟩:∃m,n=m+1:=⟨n - 1,by omega⟩
  cases hb
  rw [Ah]
  rfl
 | l,some b,n,k,hb,hn,hk,hl=>by
  rw [K4] at hb
  subst hb
  rw [List.length_cons] at hn hl
  obtain⟨n,rfl⟩:∃m,n=m+2:=⟨n - 2,by omega⟩
  have ih:=P4 hv r hr lam ha s (rbl b.rest) b.rest n (k+1) rfl (by omega) (by omega) (by omega)
  have hp:=agP (hv.ag _ _ ha)
  obtain⟨v,h1,h2⟩:=X0 s b.stacks a.level hp.2.1.1 hp.2.1.2
  rw [Ah]
  simp only [Xs]
  have h8:∀v,A4 (n+1) r lam s k b v=some (if v=true then k else GM lam a.level.toNat s (k+1) (rbl b.rest)):=fun v=>by
   rw [A4,w64 (by omega) (by omega),ih]
   cases v <;> rfl
  rw [h8,hr,show (Net.mk A).agents =A from rfl,ha,AA,h1,AA,h8,GM,hit]
  by_cases e:b.lam=lam
  ·rw [if_pos (by simpa using e),decide_eq_true e,Bool.true_and]
   congr 1
   by_cases ev:v=true
   ·rw [if_pos ev,if_pos (decide_eq_true (h2.1 ev))]
   ·rw [if_neg ev,if_neg (fun h=>ev (h2.2 (of_decide_eq_true h)))]
  ·rw [if_neg (by simpa using e),decide_eq_false e,Bool.false_and]
theorem Zy {A:List Agent} {a:Agent} (hv:Vg A) (r:Reading) (hr:r.net=⟨A⟩) (lam:Int) (ha:at? A lam=some a) (s:Stacks) (b:Option ReadBinder) (hb:(rbl b).length ≤100000):Bl r lam s b=some (GM lam a.level.toNat s 0 (rbl b)):=by
 unfold Bl
 exact P4 hv r hr lam ha s _ b fuel 0 rfl (by rw [BF]; omega) (by omega) (by omega)
theorem Stacks.lst_le {s:Stacks} {e:Nat} (h:s.Fit e):∀x ∈ s.lst,x.length≤e:=by
 intro x hx
 obtain⟨o,ho,rfl⟩:=List.mem_map.1 hx
 rw [List.length_reverse]
 exact(h o ho).1
theorem P5 {A:List Agent} {a:Agent} (lam:Int) (ha:at? A lam=some a) (s:Stacks) (all:List (Int × Stacks)) (hall:all.length≤100000) (hfit:∀x ∈ all,x.2.Fit 100000):∀ (l pre:List (Int × Stacks)) (n:Nat),all=pre++l→2*l.length+1≤n→
  Ai n lam (all.map (sbOf A)).reverse (s.lst.take a.level.toNat) ((l.length:Int) - 1)=some (GM lam a.level.toNat s pre.length l)
 | [],pre,n,h,hn=>by
  obtain⟨n,rfl⟩:∃m,n=m+1:=⟨n - 1,by omega⟩
  rw [Ai,if_neg (by simp)]
  rfl
 | x::l,pre,n,h,hn=>by
  rw [List.length_cons] at hn
  obtain⟨n,rfl⟩:∃m,n=m+2:=⟨n - 2,by omega⟩
  have ih:=P5 lam ha s all hall hfit l (pre++[x]) n (by rw [h]; simp) (by omega)
  have hat:at? (all.map (sbOf A)).reverse (((x::l).length :Int) - 1)=some (sbOf A x):=by
   have e:(all.map (sbOf A)).reverse =(l.map (sbOf A)).reverse ++sbOf A x::(pre.map (sbOf A)).reverse :=by rw [h]; simp
   have e2:((x::l).length :Int) - 1=(((l.map (sbOf A)).reverse.length :Nat):Int):=by simp
   rw [e2]
   exact Ce e
  have hlen:all.length=pre.length+(l.length+1):=by rw [h]; simp
  have hc:((x::l).length :Int)=(l.length:Int)+1:=by simp
  have h4:∀v,A5 (n+1) lam (all.map (sbOf A)).reverse (((x::l).length :Int) - 1) (s.lst.take a.level.toNat) v=some (if v=true then (pre.length:Int) else GM lam a.level.toNat s (pre.length+1) l):=fun v=>by
   rw [A5]
   cases v with
   |true=>
    have e1:IntKind.i64.wrap ((all.length:Int) - 1)=(all.length:Int) - 1:=w64 (by omega) (by omega)
    rw [if_pos rfl,if_pos rfl,List.length_reverse,List.length_map,e1,hc,w64 (by omega) (by omega)]
    congr 1
    omega
   |false=>
    rw [if_neg (by simp),if_neg (by simp),hc,w64 (by omega) (by omega)]
    have e:(l.length:Int)+1 - 1 - 1=(l.length:Int) - 1:=by omega
    rw [e,ih]
    simp
  rw [Ai,if_pos (by simp),hat,AA,h4,GM,hit]
  by_cases e:x.1 =lam
  ·rw [if_pos (decide_eq_true (show (sbOf A x).agent =lam from e)),AA,decide_eq_true e,Bool.true_and]
   have hst:(sbOf A x).stacks =x.2.lst.take a.level.toNat:=by
    unfold sbOf; rw [e,SN ha]
   obtain⟨v,h1,h2⟩:=Lm (x.2.lst.take a.level.toNat) (s.lst.take a.level.toNat) (by rw [List.length_take,Stacks.lst_len]; unfold Big; omega) fun y hy=>by
    have:=Stacks.lst_le (hfit x (by rw [h]; simp)) y (List.mem_of_mem_take hy)
    unfold Big; omega
   rw [hst,h1,AA,h4]
   congr 1
   by_cases ev:v=true
   ·rw [if_pos ev,if_pos (decide_eq_true (h2.1 ev))]
   ·rw [if_neg ev,if_neg (fun h=>ev (h2.2 (of_decide_eq_true h)))]
  ·rw [if_neg (by rw [decide_eq_true_eq]; exact e),decide_eq_false e,Bool.false_and]
theorem SO (s:Stacks) (lv:Int) (h0:0≤lv) (h1:lv≤8):Ez s.lst lv=some (s.lst.take lv.toNat):=by
 unfold Ez cutL
 rw [if_pos ⟨by omega,by omega,by rw [Stacks.lst_len]; omega⟩,AA,Int.toNat_zero,List.drop_zero,Int.sub_zero]
theorem Zz {A:List Agent} {a:Agent} (hv:Vg A) (w:L16Walk) (hw:w.n=⟨A⟩) (lam:Int) (ha:at? A lam=some a) (s:Stacks) (all:List (Int × Stacks)) (hall:all.length≤100000) (hfit:∀x ∈ all,x.2.Fit 100000):
  Ca w lam s.lst (all.map (sbOf A)).reverse =some (GM lam a.level.toNat s 0 all):=by
 have hp:=agP (hv.ag _ _ ha)
 have:=P5 lam ha s all hall hfit all [] fuel rfl (by rw [BF]; omega)
 unfold Ca
 rw [hw,show (Net.mk A).agents =A from rfl,ha,AA,SO s _ hp.2.1.1 hp.2.1.2,AA,List.length_reverse,List.length_map,w64 (by omega) (by omega)]
 simpa using this
def conS (n:Nat):List Int:=(List.range (n - 1)).map fun t=>(1:Int)+((t:Nat):Int)
theorem X2 (n:Nat):(conS n).length =n - 1:=by unfold conS; simp
theorem X3 {n:Nat} {x:Int} (h:x ∈ conS n):1≤x∧x<n:=by
 unfold conS at h
 simp only [List.mem_map,List.mem_range] at h
 obtain⟨t,ht,rfl⟩:=h
 omega
def planB (a:Agent) (slot:Int):Int × List Int:=
 if a.kind=2∧slot=0 then (4,[2]) else if a.kind=2∧slot=1 then (1,[]) else if a.kind=3∧slot=2 then (5,[0,1]) else if a.kind=6 then (2,[])
 else if a.kind=7∧slot=2 then (3,[0,1]) else if a.kind=8∧slot=1 then (3,[0]) else if a.kind=9∧slot=0 then (8,conS a.ports.length)
 else if a.kind=10∧slot=1 then (9,[0]) else if a.kind=11∧slot=1 then (10,[0]) else if a.kind=12 then (11,[]) else (0,[])
theorem Iq (i:Int) (j:Nat):(List.range (j+1)).map (fun t=>i+((t:Nat):Int))=i::(List.range j).map fun t=>i+1+((t:Nat):Int):=by
 rw [List.range_succ_eq_map,List.map_cons,List.map_map]
 congr 1
 ·simp
 ·refine List.map_congr_left fun t _=>?_
  simp only [Function.comp,Nat.succ_eq_add_one]
  omega
theorem SP (a:Agent):∀ (j:Nat) (i:Int) (n:Nat) (acc:List Int),i+j=(a.ports.length:Int)→0≤i→a.ports.length≤100→j<n→acc.length+j≤1000→Br n a acc i=some (8,acc++(List.range j).map fun t=>i+((t:Nat):Int))
 |0,i,n,acc,h,h0,hl,hn,hacc=>by
  obtain⟨n,rfl⟩:∃m,n=m+1:=⟨n - 1,by omega⟩
  rw [Br,if_neg (by simp; omega)]
  simp
 |j+1,i,n,acc,h,h0,hl,hn,hacc=>by
  obtain⟨n,rfl⟩:∃m,n=m+1:=⟨n - 1,by omega⟩
  rw [Br,if_pos (by simp; omega),CC (by simp [Big]; omega),AA,w64 (by omega) (by omega),SP a j (i+1) n (acc++[i]) (by omega) (by omega) hl (by omega) (by simp; omega),Iq]
  simp
theorem P6 (a:Agent):∀ (j:Nat) (i:Int) (n:Nat) (acc:List Int),i+j=(a.ports.length:Int)→0≤i→a.ports.length≤100→j<n→acc.length+j≤1000→Ap n a acc i=some (⟨8,a.value,[],[]⟩,acc++(List.range j).map (fun t=>i+((t:Nat):Int)),true)
 |0,i,n,acc,h,h0,hl,hn,hacc=>by
  obtain⟨n,rfl⟩:∃m,n=m+1:=⟨n - 1,by omega⟩
  rw [Ap,if_neg (by simp; omega)]
  simp
 |j+1,i,n,acc,h,h0,hl,hn,hacc=>by
  obtain⟨n,rfl⟩:∃m,n=m+1:=⟨n - 1,by omega⟩
  rw [Ap,if_pos (by simp; omega),CC (by simp [Big]; omega),AA,w64 (by omega) (by omega),P6 a j (i+1) n (acc++[i]) (by omega) (by omega) hl (by omega) (by simp; omega),Iq]
  simp
theorem Z0 (a:Agent) (h:agB a=true) (slot:Int):G6 a slot=some (planB a slot):=by
 have hp:=agP h
 have h12:Br fuel a [] 1=some (8,conS a.ports.length):=by
  rw [SP a (a.ports.length - 1) 1 fuel [] (by omega) (by omega) (by omega) (by rw [BF]; omega) (by simp; omega)]
  rfl
 unfold planB
 by_cases s0:slot=0 <;> by_cases s1:slot=1 <;> by_cases s2:slot=2
 all_goals try omega
 all_goals
  rcases kind_cases a.kind with h|h|h|h|h|h|h|h|h|h|h|h|h
  all_goals first|(simp [G6,Ef,Ee,Ed,Ec,Eb,Ea,EZ,EA,h,s0,s1,s2,h12]; done)|omega
def OI (a:Agent) (k:Int):Int:=if k=2∨k=3∨k=8∨k=11 then a.value else 0
def Mf (a:Agent) (k:Int):List Int:=if k=9∨k=10 then a.data else []
def A7 (a:Agent) (slot v:Int):Core × List Int × Bool:=
 if (planB a slot).1 =0 then (⟨0,0,[],[]⟩,[],false) else if (planB a slot).1 =1 then (⟨1,v,[],[]⟩,[],decide (0≤v))
 else (⟨(planB a slot).1,OI a (planB a slot).1,Mf a (planB a slot).1,[]⟩,(planB a slot).2,true)
theorem X4 {A:List Agent} {a:Agent} (hv:Vg A) (r:Reading) (hr:r.net=⟨A⟩) (p:Port) (ha:at? A p.agent=some a) (s:Stacks) (b:Option ReadBinder) (v:Int) (hvar:Bl r p.agent s b=some v):DW r p s b=some (A7 a p.slot v):=by
 have hp:=agP (hv.ag _ _ ha)
 have h12:Ap fuel a [] 1=some (⟨8,a.value,[],[]⟩,conS a.ports.length,true):=by
  rw [P6 a (a.ports.length - 1) 1 fuel [] (by omega) (by omega) (by omega) (by rw [BF]; omega) (by simp; omega)]
  rfl
 have hcl:C8 a.data=some a.data:=by
  unfold C8
  rw [CC (by simp [Big]; omega),AA,List.nil_append]
 unfold DW A7 planB
 obtain⟨pa,slot⟩:=p
 simp only at ha hvar ⊢
 rw [hr,show (Net.mk A).agents =A from rfl,ha,AA]
 by_cases s0:slot=0 <;> by_cases s1:slot=1 <;> by_cases s2:slot=2
 all_goals try omega
 all_goals
  rcases kind_cases a.kind with h|h|h|h|h|h|h|h|h|h|h|h|h
  all_goals first|omega|(simp [CZ,CY,CX,CW,CV,CU,CT,CE,JA,Ew,JB,OI,Mf,h,s0,s1,s2,h12,hcl,hvar]; done)
theorem K5 (w:L16Walk) (c:Int) (h:w.code=0):A1 w c=some (⟨0,0,[],[]⟩,⟨w.n,w.steps,w.nodes,w.entered,w.origins,w.labels,c⟩):=by
 unfold A1
 rw [if_pos (by simpa using h)]
theorem SQ (w:L16Walk) (ag d:Int) (lab:ByteArray) (ho:w.origins.length≤100000) (hl:w.labels.length≤100000) (hk:0≤w.nodes∧w.nodes≤1000):
  C9 w ag d lab=some (decide (w.nodes<400)&&decide (d≤80),⟨w.n,w.steps,w.nodes+1,w.entered,w.origins++[ag],w.labels++[lab],w.code⟩):=by
 unfold C9
 rw [CC (by simp [Big]; omega),AA,CC (by simp [Big]; omega),AA,w64 (by omega) (by omega)]
 by_cases h:w.nodes<400
 ·rw [if_pos (by simp; omega),decide_eq_true h,Bool.true_and]
 ·rw [if_neg (by simp; omega),decide_eq_false h,Bool.false_and]
theorem SR (r:Reading) (ag d:Int) (lab:ByteArray) (ho:r.origins.length≤100000) (hl:r.labels.length≤100000) (hk:0≤r.nodes∧r.nodes≤400):
  Bz r ag lab d=some (if (decide (r.nodes<400)&&decide (d≤80))=true then (0,⟨r.net,r.entered,r.nodes+1,r.origins++[ag],r.times,r.labels++[lab]⟩) else (4,r)):=by
 unfold Bz
 have h1:∀b,B7 r ag lab b=some (if b=true then (4,r) else (0,⟨r.net,r.entered,r.nodes+1,r.origins++[ag],r.times,r.labels++[lab]⟩)):=fun b=>by
  unfold B7
  rw [CC (by simp [Big]; omega),AA,CC (by simp [Big]; omega),AA,w64 (by omega) (by omega)]
  cases b <;> rfl
 rw [h1,h1]
 by_cases h:r.nodes=400
 ·have h2:¬r.nodes<400:=by omega
  rw [if_pos (by simpa using h),decide_eq_false h2,Bool.false_and]
  rfl
 ·have h2:r.nodes<400:=by omega
  rw [if_neg (by simpa using h),decide_eq_true h2,Bool.true_and]
  by_cases h3:d≤80
  ·have h4:¬ 80<d:=by omega
   simp [h3,h4]
  ·have h4:80<d:=by omega
   simp [h3,h4]
theorem X5 {A:List Agent} {a:Agent} (r:Reading) (hr:r.net=⟨A⟩) (p:Port) (ha:at? A p.agent=some a) (ht:r.times.length=A.length) (he:0≤r.entered∧r.entered≤4000):
  (r.entered=4000→∃r',Ck r p=some (4,r'))∧(r.entered<4000→∃T,T.length=A.length∧Ck r p=some (0,⟨⟨A⟩,r.entered+1,r.nodes,r.origins,T,r.labels⟩)):=by
 obtain⟨x,hx⟩:=Ip (l:=r.times) (i:=p.agent) (GZ ha).1 (by rw [ht]; exact(GZ ha).2)
 have hw:IntKind.i64.wrap (r.entered+1)=r.entered+1:=w64 (by omega) (by omega)
 have h1:∀b,∃T,T.length=A.length∧BT r p b=some (0,⟨⟨A⟩,r.entered+1,r.nodes,r.origins,T,r.labels⟩):=fun b=>by
  unfold BT
  rw [hx,AA,AA,hw,hr]
  cases b with
  |true=>exact⟨r.times.set p.agent.toNat (IntKind.i64.wrap (x+1)),by rw [List.length_set,ht],rfl⟩
  |false=>exact⟨_,ht,rfl⟩
 unfold Ck
 rw [hw]
 refine⟨fun h=>?_,fun h=>?_⟩
 ·rw [if_pos (by simp; omega)]
  exact⟨_,rfl⟩
 ·rw [if_neg (by simp; omega),hr,show (Net.mk A).agents =A from rfl,ha,AA]
  split
  ·split
   ·exact h1 _
   ·exact h1 _
  ·exact h1 _
theorem cZ (n:Nat) (a0:L16Walk) (a3:List L16Binder) (d e:Int) (s:Stacks) (ag slot:Int) (E:List Int) (lab:ByteArray) (a:Agent) (ha:agB a=true) (hb:a3.length≤100000) (h0:(planB a slot).1 ≠0) (h1:(planB a slot).1 ≠1):
  ∃m,n≤m∧m≤n+2∧(if (decide ((planB a slot).1 =2))=true then (AR (n+3) a0 a3 d e s.lst ag slot E lab a (planB a slot) (decide ((planB a slot).1 =2))) else (if (decide ((planB a slot).1 =3))=true then (AR (n+3) a0 a3 d e s.lst ag slot E lab a (planB a slot) (decide ((planB a slot).1 =3))) else (if (decide ((planB a slot).1 =8))=true then (AR (n+3) a0 a3 d e s.lst ag slot E lab a (planB a slot) (decide ((planB a slot).1 =8))) else (AR (n+3) a0 a3 d e s.lst ag slot E lab a (planB a slot) (decide ((planB a slot).1 =11))))))=
   Aa m a0 d e s.lst ag slot E lab a (planB a slot) (if (planB a slot).1 =4 then a3++[⟨ag,s.lst.take a.level.toNat⟩] else a3) (OI a (planB a slot).1) (Mf a (planB a slot).1):=by
 have hp:=agP ha
 have hk:(planB a slot).1 =0∨(planB a slot).1 =1∨(planB a slot).1 =2∨(planB a slot).1 =3∨(planB a slot).1 =4∨(planB a slot).1 =5∨(planB a slot).1 =8∨(planB a slot).1 =9∨(planB a slot).1 =10∨(planB a slot).1 =11:=by
  unfold planB
  repeat' split
  all_goals simp
 have hd:FA a.data=some a.data:=Tn _ (by unfold Big; omega)
 have hl:=SO s a.level hp.2.1.1 hp.2.1.2
 have hb1:app? [] a3=some a3:=by rw [CC (by simp [Big]; omega),List.nil_append]
 have hb2:app? a3 [(⟨ag,s.lst.take a.level.toNat⟩:L16Binder)] =some (a3++[⟨ag,s.lst.take a.level.toNat⟩]):=CC (by simp [Big]; omega)
 generalize planB a slot=pl at*
 obtain⟨k,sl⟩:=pl
 simp only at h0 h1 hk ⊢
 rcases hk with h|h|rfl|rfl|rfl|rfl|rfl|rfl|rfl|rfl
 ·exact absurd h h0
 ·exact absurd h h1
 ·exact⟨n+2,by omega,by omega,by simp [AR,OI,Mf]⟩
 ·exact⟨n+2,by omega,by omega,by simp [AR,OI,Mf]⟩
 ·exact⟨n+1,by omega,by omega,by simp [AR,Az,OI,Mf,hd,hl,hb1,hb2]⟩
 ·exact⟨n+1,by omega,by omega,by simp [AR,Az,OI,Mf,hd,hl,hb1,hb2]⟩
 ·exact⟨n+2,by omega,by omega,by simp [AR,OI,Mf]⟩
 ·exact⟨n+1,by omega,by omega,by simp [AR,Az,OI,Mf,hd,hl,hb1,hb2]⟩
 ·exact⟨n+1,by omega,by omega,by simp [AR,Az,OI,Mf,hd,hl,hb1,hb2]⟩
 ·exact⟨n+2,by omega,by omega,by simp [AR,OI,Mf]⟩
theorem To {a:Agent} (h:agB a=true) (slot:Int):(∀x ∈ (planB a slot).2,∃q,at? a.ports x=some q)∧(planB a slot).2.length ≤4:=by
 have hp:=agP h
 have key:∀x:Int,0≤x→x<(a.ports.length:Int)→∃q,at? a.ports x=some q:=fun x h0 h1=>Ip h0 h1
 unfold planB
 repeat' split
 all_goals
  constructor
  ·intro x hx
   first
   |(have:=X3 hx; exact key x (by omega) (by omega))
   |(simp at hx; done)
   |(simp only [List.mem_cons,List.not_mem_nil,or_false] at hx; exact key x (by omega) (by omega))
  ·first
   |(simp; done)
   |(rw [X2]; omega)
theorem Tp {a:Agent} {slot v:Int} (h:(A7 a slot v).2.2 =true):(planB a slot).1 ≠0∧(A7 a slot v).1.kind =(planB a slot).1 ∧(A7 a slot v).1.kids =[] ∧((planB a slot).1 ≠1→(A7 a slot v).2.1 =(planB a slot).2)∧((planB a slot).1 =1→(A7 a slot v).2.1 =[] ∧(planB a slot).2 =[]):=by
 have h1:(planB a slot).1 =1→(planB a slot).2 =[] :=by
  unfold planB
  repeat' split
  all_goals simp
 unfold A7 at h ⊢
 by_cases h0:(planB a slot).1 =0
 ·rw [if_pos h0] at h; cases h
 ·rw [if_neg h0] at h ⊢
  by_cases h2:(planB a slot).1 =1
  ·rw [if_pos h2]
   exact⟨h0,h2.symm,rfl,fun h=>absurd h2 h,fun h=>⟨rfl,h1 h⟩⟩
  ·rw [if_neg h2]
   exact⟨h0,rfl,rfl,fun _=>rfl,fun h=>absurd h h2⟩
theorem j19_node {A:List Agent} {a:Agent} (hv:Vg A) (n:Nat) (w:L16Walk) (hwn:w.n=⟨A⟩) (hwc:w.code=0) (all:List (Int × Stacks)) (hall:all.length≤100000) (hfit:∀x ∈ all,x.2.Fit 100000) (d e:Int) (s:Stacks) (pa ps:Int) (lab:ByteArray) (E:List Int) (ha:at? A pa=some a) (hk:a.kind≠4) (he:0≤e∧e≤4000):
  ((A7 a ps (GM pa a.level.toNat s 0 all)).2.2 =false∧Af (n+5) w (all.map (sbOf A)).reverse d e s.lst pa ps lab a E=some (⟨0,0,[],[]⟩,⟨⟨A⟩,e+1,w.nodes,E,w.origins,w.labels,13⟩))∨
  ((A7 a ps (GM pa a.level.toNat s 0 all)).2.2 =true∧∃m,n≤m∧Af (n+5) w (all.map (sbOf A)).reverse d e s.lst pa ps lab a E=
   Aa m w d e s.lst pa ps E lab a (planB a ps) (if (planB a ps).1 =4 then (all.map (sbOf A)).reverse ++[⟨pa,s.lst.take a.level.toNat⟩] else (all.map (sbOf A)).reverse) (A7 a ps (GM pa a.level.toNat s 0 all)).1.value (A7 a ps (GM pa a.level.toNat s 0 all)).1.data):=by
 have hw:IntKind.i64.wrap (e+1)=e+1:=w64 (by omega) (by omega)
 have hag:at? w.n.agents pa=some a:=by rw [hwn]; exact ha
 have hF:∀st nd en og lb,A1 (⟨⟨A⟩,st,nd,en,og,lb,0⟩:L16Walk) 13=some (⟨0,0,[],[]⟩,⟨⟨A⟩,st,nd,en,og,lb,13⟩):=fun _ _ _ _ _=>K5 _ _ rfl
 rw [show n+5=(n+4)+1 from rfl,Af,if_pos (by simpa using hk),hag,AA,Z0 a (hv.ag _ _ ha),AA,hwn,hwc,hw]
 unfold A7
 by_cases h0:(planB a ps).1 =0
 ·left
  rw [if_pos h0,if_pos (decide_eq_true h0),hF,AA]
  exact⟨rfl,rfl⟩
 rw [if_neg h0,if_neg (show ¬decide ((planB a ps).1 =0)=true by simpa using h0)]
 by_cases h1:(planB a ps).1 =1
 ·rw [if_pos h1,if_pos (decide_eq_true h1),Zz hv _ rfl pa ha s all hall hfit,AA]
  by_cases hv0:GM pa a.level.toNat s 0 all<0
  ·left
   rw [if_pos (decide_eq_true hv0),hF,AA]
   exact⟨by simp; omega,rfl⟩
  ·right
   rw [if_neg (by simpa using hv0)]
   refine⟨by simp; omega,n+4,by omega,?_⟩
   rw [if_neg (by rw [h1]; decide)]
 ·right
  rw [if_neg h1,if_neg (show ¬decide ((planB a ps).1 =1)=true by simpa using h1)]
  obtain⟨m,hm1,-,hm⟩:=cZ (n+1) w (all.map (sbOf A)).reverse d e s pa ps E lab a (hv.ag _ _ ha) (by simpa using hall) h0 h1
  exact⟨rfl,m,by omega,hm⟩
structure Szs (A:List Agent) (e k:Int) (E O T:List Int) (L:List ByteArray):Prop where
 he:0≤e∧e≤4000
 hk:0≤k∧k≤400
 hE:E.length≤Int.toNat e
 hO:O.length=Int.toNat k
 hL:L.length=Int.toNat k
 hT:T.length=A.length
def SS (A:List Agent) (e0 k0:Int) (ri:Core × Int × Reading) (rs:Core × L16Walk):Prop:=
 (ri.2.1 ≠0∧rs.2.code =ri.2.1 ∧rs.2.n =⟨A⟩)∨
 ∃c e k E O T L,ri=(c,0,⟨⟨A⟩,e,k,O,T,L⟩)∧rs=(c,⟨⟨A⟩,e,k,E,O,L,0⟩)∧Szs A e k E O T L∧e0<e∧k0<k∧(c.sz:Int)+1≤5*(k - k0)
def cc (A:List Agent) (m:Nat):Prop:=∀ (r:Reading) (w:L16Walk) (e k d:Int) (E O T:List Int) (L:List ByteArray) (p:Port) (s:Stacks) (b:Option ReadBinder) (lab:ByteArray) (fi fs:Nat),
 r.net=⟨A⟩→w.n=⟨A⟩→w.nodes=k→w.origins=O→w.labels=L→w.code=0→4000 - e≤m→Szs A e k E O T L→1≤d→d≤81→Tl A p→s.Fit e.toNat→(rbl b).length ≤d.toNat→(∀x ∈ rbl b,x.2.Fit 100000)→(lab.size:Int)≤50*e→
 20*m+20≤fi→20*m+20≤fs→
 ∃ri rs,BJ fi r b d e k O T L p.agent p.slot s.e0 s.e1 s.e2 s.e3 s.e4 s.e5 s.e6 s.e7 s.e8 lab=some ri∧Ax fs w ((rbl b).map (sbOf A)).reverse d e E s.lst p.agent p.slot lab=some rs∧SS A e k ri rs
theorem skip {A:List Agent} {a:Agent} (d:Int) (st:List (List Int)) (sb:List L16Binder) (va:Int) (da:List Int) (pl:Int × List Int) (e k:Int) (E O:List Int) (L:List ByteArray) (code:Int) (hc:code≠0) (hl:pl.2.length ≤10):
  ∀ (post pre:List Int) (K:List Core) (n:Nat),pl.2 =pre++post→(∀x ∈ post,∃q,at? a.ports x=some q)→K.length+post.length≤100→post.length+5≤n→
  ∃c,Ag n d st sb va da a pl A e k E O L code K (pre.length:Int)=some (c,⟨⟨A⟩,e,k,E,O,L,code⟩)
 | [],pre,K,n,h,hp,hK,hn=>by
  obtain⟨n,rfl⟩:∃m,n=m+1:=⟨n - 1,by omega⟩
  rw [Ag,Dd h,if_neg (by simp)]
  exact⟨_,rfl⟩
 |x::post,pre,K,n,h,hp,hK,hn=>by
  simp only [List.length_cons] at hK hn
  obtain⟨n,rfl⟩:∃m,n=m+3:=⟨n - 3,by omega⟩
  obtain⟨q,hq⟩:=hp x (by simp)
  rw [Ag,if_pos (DS h),Ce h,AA,hq,AA,show n+2=(n+1)+1 from rfl,Ba,Ax,if_pos (by simpa using hc),AA,CC (by simp [Big]; omega),AA,B5 h (by unfold Big; omega)]
  exact skip d st sb va da pl e k E O L code hc hl post (pre++[x]) _ (n+1+1) (Bd h) (fun y hy=>hp y (List.mem_cons_of_mem _ hy)) (by simp; omega) (by omega)
theorem kids {A:List Agent} {a:Agent} (hv:Vg A) {m:Nat} (ih:cc A m) (r:Reading) (hr:r.net=⟨A⟩) (pa ps:Int) (ha:at? A pa=some a) (s:Stacks) (b:Option ReadBinder) (d:Int) (hd:1≤d∧d≤80) (sh:Core × List Int × Bool) (hsl:sh.2.1.length ≤10) (e0 k0:Int)
  (hb:(rbl b).length ≤d.toNat+1) (hbf:∀x ∈ rbl b,x.2.Fit 100000):
  ∀ (post pre:List Int) (e k:Int) (E O T:List Int) (L:List ByteArray) (K:List Core) (fi fs:Nat),sh.2.1 =pre++post→4000 - e≤m→Szs A e k E O T L→s.Fit e.toNat→(∀x ∈ post,∃q,at? a.ports x=some q)→e0<e→k0<k→((sh.1.data.length +Core.szs K:Nat):Int)+1≤5*(k - k0)→K.length+post.length≤100→
   post.length+20*m+24≤fi→post.length+20*m+24≤fs→
   ∃ri rs,BK fi r d pa ps s.e0 s.e1 s.e2 s.e3 s.e4 s.e5 s.e6 s.e7 s.e8 b sh e k O T L K (pre.length:Int)=some ri∧Ag fs d s.lst ((rbl b).map (sbOf A)).reverse sh.1.value sh.1.data a (sh.1.kind,sh.2.1) A e k E O L 0 K (pre.length:Int)=some rs∧SS A e0 k0 ri rs
 | [],pre,e,k,E,O,T,L,K,fi,fs,h,hm,hz,hs,hp,he,hk,hK,hKl,hfi,hfs=>by
  obtain⟨fi,rfl⟩:∃m,fi=m+1:=⟨fi - 1,by omega⟩
  obtain⟨fs,rfl⟩:∃m,fs=m+1:=⟨fs - 1,by omega⟩
  rw [BK,Dd h,if_neg (by simp),Ag,Dd (l:=(sh.1.kind,sh.2.1).2) h,if_neg (by simp)]
  refine⟨_,_,rfl,rfl,.inr ⟨⟨sh.1.kind,sh.1.value,sh.1.data,K⟩,e,k,E,O,T,L,by rw [hr],rfl,hz,he,hk,?_⟩⟩
  rw [Core.sz_eq]
  exact hK
 | x::post,pre,e,k,E,O,T,L,K,fi,fs,h,hm,hz,hs,hp,he,hk,hK,hKl,hfi,hfs=>by
  simp only [List.length_cons] at hKl hfi hfs
  obtain⟨fi,rfl⟩:∃m,fi=m+2:=⟨fi - 2,by omega⟩
  obtain⟨fs,rfl⟩:∃m,fs=m+2:=⟨fs - 2,by omega⟩
  obtain⟨q,hq⟩:=hp x (by simp)
  obtain⟨ri,rs,h1,h2,h3⟩:=ih ⟨⟨A⟩,e,k,O,T,L⟩ ⟨⟨A⟩,e,k,E,O,L,0⟩ e k (d+1) E O T L q s b (ByteArray.mk #[]) fi fs rfl rfl rfl rfl rfl rfl hm hz (by omega) (by omega) (hv.pr _ _ _ _ ha hq) hs (by omega) hbf (by have:=hz.he; show ((0:Nat):Int)≤_; omega) (by omega) (by omega)
  rw [BK,if_pos (DS h),Ce h,AA,hr,M9 ha hq,AA,B0,w64 (n:=d+1) (by omega) (by omega),h1,AA]
  rw [Ag,if_pos (DS (l:=(sh.1.kind,sh.2.1).2) h),Ce (l:=(sh.1.kind,sh.2.1).2) h,AA,hq,AA,Ba,w64 (n:=d+1) (by omega) (by omega),h2,AA,B5 h (by unfold Big; omega),CC (b:=[rs.1]) (by simp [Big]; omega),AA]
  rcases h3 with ⟨c1,c2,c3⟩|⟨c,e',k',E',O',T',L',rfl,rfl,hz',he',hk',hsz⟩
  ·obtain⟨c,hc⟩:=skip (A:=A) (a:=a) d s.lst ((rbl b).map (sbOf A)).reverse sh.1.value sh.1.data (sh.1.kind,sh.2.1) rs.2.steps rs.2.nodes rs.2.entered rs.2.origins rs.2.labels rs.2.code (by rw [c2]; exact c1) hsl post (pre++[x]) (K++[rs.1]) (fs+1) (Bd h) (fun y hy=>hp y (List.mem_cons_of_mem _ hy)) (by simp; omega) (by omega)
   rw [c3,show (Net.mk A).agents =A from rfl,hc,if_pos (by simpa using c1)]
   exact⟨_,_,rfl,rfl,.inl ⟨c1,c2,rfl⟩⟩
  ·rw [if_neg (by simp),CC (by simp [Big]; omega),AA]
   refine kids hv ih r hr pa ps ha s b d hd sh hsl e0 k0 hb hbf post (pre++[x]) e' k' E' O' T' L' (K++[c]) (fi+1) (fs+1) (Bd h) (by omega) hz' (hs.mono (by have:=hz.he; omega)) (fun y hy=>hp y (List.mem_cons_of_mem _ hy)) (by omega) (by omega) ?_ (by simp; omega) (by omega) (by omega)
   rw [Core.szs_append]
   simp only [Core.szs]
   omega
set_option maxHeartbeats 2000000
theorem cd (n:Nat) (w:L16Walk) (sb:List L16Binder) (d e:Int) (E:List Int) (st:List (List Int)) (pa ps:Int) (lab:ByteArray) (a:Agent) (hE:E.length≤100000):
  ∃E':List Int,E'.length≤E.length+1∧(if (!decide (a.kind=2))=true then (Ay (n+1) w sb d e E st pa ps lab a true) else (Ay (n+1) w sb d e E st pa ps lab a (!decide (ps=1))))=Af n w sb d e st pa ps lab a E':=by
 have h:∀b,∃E':List Int,E'.length≤E.length+1∧Ay (n+1) w sb d e E st pa ps lab a b=Af n w sb d e st pa ps lab a E':=fun b=>by
  rw [Ay]
  cases b with
  |true=>
   rw [if_pos rfl,CC (by simp [Big]; omega),AA]
   exact⟨_,by simp,rfl⟩
  |false=>
   rw [if_neg (by simp)]
   exact⟨E,by omega,rfl⟩
 split
 ·exact h true
 ·exact h _
theorem WE:(ByteArray.mk #[46,120,59]).size =3:=rfl
theorem WF {A:List Agent} {a:Agent} (hv:Vg A) {m:Nat} (ih:cc A m) (fi fs:Nat) (hfi:20*m+30≤fi) (hfs:20*m+30≤fs) (r:Reading) (hr:r.net=⟨A⟩) (w:L16Walk) (hwn:w.n=⟨A⟩) (e k d:Int) (E O T:List Int) (L:List ByteArray) (hwk:w.nodes=k) (hwo:w.origins=O) (hwl:w.labels=L) (hwc:w.code=0)
  (hm:4000 - (e+1)≤m) (he:0≤e) (hz:Szs A (e+1) k E O T L) (hd:1≤d∧d≤81) (pa ps:Int) (ha:at? A pa=some a) (s:Stacks) (hs:s.Fit (e+1).toNat) (b:Option ReadBinder) (hb:(rbl b).length ≤d.toNat) (hbf:∀x ∈ rbl b,x.2.Fit 100000) (lab:ByteArray) (v:Int) (hsh:(A7 a ps v).2.2 =true):
  ∃ri rs,((Bz (⟨⟨A⟩,e+1,k,O,T,L⟩:Reading) pa lab d).bind fun v15005=>(if (!decide (v15005.1 =0))=true then (some ((⟨0,0,[],[]⟩:Core),v15005.1,(⟨r.net,v15005.2.entered,v15005.2.nodes,v15005.2.origins,v15005.2.times,v15005.2.labels⟩:Reading))) else ((at? r.net.agents pa).bind fun v18007=>(if (decide (v18007.kind=8))=true then ((EO pa).bind fun v20003=>((D6 v20003 (ByteArray.mk #[46,120,59])).bind fun v20004=>((Bz (⟨r.net,v15005.2.entered,v15005.2.nodes,v15005.2.origins,v15005.2.times,v15005.2.labels⟩:Reading) (-1) v20004 (IntKind.i64.wrap (d+1))).bind fun v20007=>(if (!decide (v20007.1 =0))=true then (some ((⟨0,0,[],[]⟩:Core),v20007.1,(⟨r.net,v20007.2.entered,v20007.2.nodes,v20007.2.origins,v20007.2.times,v20007.2.labels⟩:Reading))) else ((at? v18007.data 0).bind fun v23004=>((Ew v23004).bind fun v23006=>((app? (A7 a ps v).1.kids [(⟨v23006.kind,v23006.value,[],[]⟩:Core)]).bind fun v23008=>(Am fi r d pa ps s.e0 s.e1 s.e2 s.e3 s.e4 s.e5 s.e6 s.e7 s.e8 (A7 a ps v) v20007.2.entered v20007.2.nodes v20007.2.origins v20007.2.times v20007.2.labels b v23008)))))))) else (if (decide ((A7 a ps v).1.kind =4))=true then (Am fi r d pa ps s.e0 s.e1 s.e2 s.e3 s.e4 s.e5 s.e6 s.e7 s.e8 (A7 a ps v) v15005.2.entered v15005.2.nodes v15005.2.origins v15005.2.times v15005.2.labels (some (⟨pa,(⟨s.e0,s.e1,s.e2,s.e3,s.e4,s.e5,s.e6,s.e7,s.e8⟩:Stacks),b⟩:ReadBinder)) (A7 a ps v).1.kids) else (Am fi r d pa ps s.e0 s.e1 s.e2 s.e3 s.e4 s.e5 s.e6 s.e7 s.e8 (A7 a ps v) v15005.2.entered v15005.2.nodes v15005.2.origins v15005.2.times v15005.2.labels b (A7 a ps v).1.kids))))))=some ri∧
   Aa fs w d e s.lst pa ps E lab a (planB a ps) (if (planB a ps).1 =4 then ((rbl b).map (sbOf A)).reverse ++[⟨pa,s.lst.take a.level.toNat⟩] else ((rbl b).map (sbOf A)).reverse) (A7 a ps v).1.value (A7 a ps v).1.data =some rs∧SS A e k ri rs:=by
 obtain⟨fi,rfl⟩:∃x,fi=x+1:=⟨fi - 1,by omega⟩
 obtain⟨fs,rfl⟩:∃x,fs=x+2:=⟨fs - 2,by omega⟩
 have hp:=agP (hv.ag _ _ ha)
 obtain⟨pp,pl⟩:=To (hv.ag _ _ ha) ps
 obtain⟨q0,q1,q2,q3,q4⟩:=Tp hsh
 have hslots:(A7 a ps v).2.1 =(planB a ps).2 :=by
  by_cases h1:(planB a ps).1 =1
  ·rw [(q4 h1).1,(q4 h1).2]
  ·exact q3 h1
 have hdat:(A7 a ps v).1.data.length ≤4:=by
  unfold A7 Mf
  split
  ·simp
  ·split
   ·simp
   ·dsimp only
    split
    ·omega
    ·simp
 have hk:=hz.hk
 have hO:=hz.hO
 have hL:=hz.hL
 have hw1:IntKind.i64.wrap (e+1)=e+1:=w64 (by have:=hz.he; omega) (by have:=hz.he; omega)
 have hwd:IntKind.i64.wrap (d+1)=d+1:=w64 (by omega) (by omega)
 have hplan:planB a ps=((A7 a ps v).1.kind,(A7 a ps v).2.1):=by rw [q1,hslots]
 have hkids:∀ (b':Option ReadBinder) (k1:Int) (O1:List Int) (L1:List ByteArray) (K:List Core),d≤80→k<k1→k1≤400→O1.length=k1.toNat→L1.length=k1.toNat→((rbl b').length ≤d.toNat+1)→(∀x ∈ rbl b',x.2.Fit 100000)→(((A7 a ps v).1.data.length +Core.szs K:Nat):Int)+1≤5*(k1 - k)→K.length≤50→
   ∃ri rs,Am (fi+1) r d pa ps s.e0 s.e1 s.e2 s.e3 s.e4 s.e5 s.e6 s.e7 s.e8 (A7 a ps v) (e+1) k1 O1 T L1 b' K=some ri∧BV (fs+1) d s.lst ((rbl b').map (sbOf A)).reverse (A7 a ps v).1.value (A7 a ps v).1.data a (planB a ps) A (e+1) k1 E O1 L1 0 K=some rs∧SS A e k ri rs:=by
  intro b' k1 O1 L1 K hd1 hk1 hk2 hO1 hL1 hb1 hb2 hK hKl
  have hlen:(A7 a ps v).2.1.length ≤4:=by rw [hslots]; exact pl
  rw [Am,BV,hplan]
  exact kids hv ih r hr pa ps ha s b' d ⟨hd.1,hd1⟩ (A7 a ps v) (by omega) e k hb1 hb2 (A7 a ps v).2.1 [] (e+1) k1 E O1 T L1 K fi fs rfl hm ⟨hz.he,by omega,hz.hE,hO1,hL1,hz.hT⟩ hs (by rw [hslots]; exact pp) (by omega) hk1 hK (by omega) (by omega) (by omega)
 rw [SR _ pa d lab (by show O.length≤_; omega) (by show L.length≤_; omega) (by show 0≤k∧k≤400; exact hk),AA]
 rw [show fs+2=(fs+1)+1 from rfl,Aa,hwn,hwk,hwo,hwl,hwc,hw1,SQ _ pa d lab (by show O.length≤_; omega) (by show L.length≤_; omega) (by show 0≤k∧k≤1000; omega),AA]
 have c0:¬ ((!decide ((0:Int)=0))=true):=by decide
 have c4:(!decide ((4:Int)=0))=true:=by decide
 have cT:¬ ((!true)=true):=by decide
 have cF:(!false)=true:=rfl
 have cB:¬ (false=true):=by decide
 dsimp only
 by_cases hok:(decide (k<400)&&decide (d≤80))=true
 ·rw [hok,if_pos rfl]
  dsimp only
  rw [if_neg c0,if_neg cT,hr,show (Net.mk A).agents =A from rfl,ha,AA]
  simp only [Bool.and_eq_true,decide_eq_true_eq] at hok
  by_cases h8:a.kind=8
  ·rw [if_pos (decide_eq_true h8),if_pos (decide_eq_true h8)]
   have hpl:(planB a ps).1 ≠4:=by
    unfold planB
    repeat' split
    all_goals simp
    all_goals omega
   have hpa:=GZ ha
   have hlen:=hv.len
   have hwf:(Lit.int IntKind.i64 pa).wf =true:=wfI (by omega)
   have hsz:=GL pa hwf
   obtain⟨x,hx⟩:=Ip (l:=a.data) (i:=0) (by omega) (by rw [hp.2.2.2.2.2.2.2 h8]; omega)
   rw [Hi,AA,Hj _ hwf,AA,Hk (by rw [WE]; omega),AA,AA,hwd]
   rw [SR _ (-1) (d+1) _ (by show (O++[pa]).length ≤_; simp; omega) (by show (L++[lab]).length ≤_; simp; omega) (by show 0≤k+1∧k+1≤400; omega),AA]
   rw [SQ _ (-1) (d+1) _ (by show (O++[pa]).length ≤_; simp; omega) (by show (L++[lab]).length ≤_; simp; omega) (by show 0≤k+1∧k+1≤1000; omega),AA]
   dsimp only
   by_cases hok2:(decide (k+1<400)&&decide (d+1≤80))=true
   ·rw [hok2,if_pos rfl]
    dsimp only
    rw [if_neg c0,if_neg cT,hx,AA,AA]
    simp only [Bool.and_eq_true,decide_eq_true_eq] at hok2
    unfold Ew Qe
    rw [AA,AA,q2,CC (by simp [Big]),AA,AA,if_neg hpl,List.nil_append]
    exact hkids b (k+1+1) _ _ _ hok.2 (by omega) (by omega) (by simp; omega) (by simp; omega) (by omega) hbf (by simp only [Core.szs,Core.sz_eq,List.length_nil]; omega) (by simp)
   ·rw [Bool.eq_false_iff.2 hok2,if_neg cB]
    dsimp only
    rw [if_pos c4,if_pos cF,K5 _ _ rfl,AA]
    exact⟨_,_,rfl,rfl,.inl ⟨(by decide:(4:Int)≠0),rfl,rfl⟩⟩
  ·have c8:¬ (decide (a.kind=8))=true:=by simpa using h8
   rw [if_neg c8,if_neg c8,q2]
   by_cases h4:(planB a ps).1 =4
   ·rw [if_pos (show (decide ((A7 a ps v).1.kind =4))=true by rw [q1]; exact decide_eq_true h4),if_pos h4]
    have hbl:((rbl b).map (sbOf A)).reverse ++[⟨pa,s.lst.take a.level.toNat⟩] =((rbl (some ⟨pa,s,b⟩)).map (sbOf A)).reverse :=by
     rw [K4,List.map_cons,List.reverse_cons]
     simp only [sbOf,SN ha]
    rw [hbl]
    exact hkids (some ⟨pa,s,b⟩) (k+1) _ _ [] hok.2 (by omega) (by omega) (by simp; omega) (by simp; omega) (by rw [K4,List.length_cons]; show (rbl b).length +1≤_; omega) (fun x hx=>by
     rw [K4,List.mem_cons] at hx
     rcases hx with rfl|hx
     ·exact hs.mono (by have:=hz.he; omega)
     ·exact hbf x hx) (by simp only [Core.szs]; omega) (by simp)
   ·rw [if_neg (show ¬ (decide ((A7 a ps v).1.kind =4))=true by rw [q1]; simpa using h4),if_neg h4]
    exact hkids b (k+1) _ _ [] hok.2 (by omega) (by omega) (by simp; omega) (by simp; omega) (by omega) hbf (by simp only [Core.szs]; omega) (by simp)
 ·rw [Bool.eq_false_iff.2 hok,if_neg cB]
  dsimp only
  rw [if_pos c4,if_pos cF,K5 _ _ rfl,AA]
  exact⟨_,_,rfl,rfl,.inl ⟨(by decide:(4:Int)≠0),rfl,rfl⟩⟩
theorem SS.mono {A:List Agent} {e0 e1 k0:Int} {ri:Core × Int × Reading} {rs:Core × L16Walk} (h:SS A e1 k0 ri rs) (he:e0≤e1):SS A e0 k0 ri rs:=by
 rcases h with h|⟨c,e,k,E,O,T,L,h1,h2,h3,h4,h5,h6⟩
 ·exact .inl h
 ·exact .inr ⟨c,e,k,E,O,T,L,h1,h2,h3,by omega,h5,h6⟩
theorem X6 {A:List Agent} (hv:Vg A):∀m,cc A m:=by
 intro m
 induction m using Nat.strongRecOn with
 |ind m ih=>
 intro r w e k d E O T L p s b lab fi fs hr hwn hwk hwo hwl hwc hm hz hd1 hd2 hp hs hb hbf hlab hfi hfs
 have hbl:(rbl b).length ≤100000:=by omega
 obtain⟨fi,rfl⟩:∃x,fi=x+1:=⟨fi - 1,by omega⟩
 obtain⟨fs,rfl⟩:∃x,fs=x+8:=⟨fs - 8,by omega⟩
 have hpw:=wfP hv hp
 obtain⟨a,q,ha,hq⟩:=hp
 obtain⟨pa,ps⟩:=p
 dsimp only at ha hq hpw ⊢
 have hag:=agP (hv.ag _ _ ha)
 have he:=hz.he
 have hk:=hz.hk
 have hent:=Xx ⟨pa,ps⟩ hpw.1 hpw.2.1
 have hesz:=WC ⟨pa,ps⟩ hpw.1 hpw.2.1
 have hsapp:D6 lab (entB ⟨pa,ps⟩)=some (lab++entB ⟨pa,ps⟩):=Hk (by omega)
 have hw1:IntKind.i64.wrap (e+1)=e+1:=w64 (by omega) (by omega)
 have henter:=X5 (a:=a) ⟨r.net,e,k,O,T,L⟩ hr ⟨pa,ps⟩ ha hz.hT he
 have c0:¬ ((!decide ((0:Int)=0))=true):=by decide
 have c4:(!decide ((4:Int)=0))=true:=by decide
 have cT:¬ ((!true)=true):=by decide
 have cF:(!false)=true:=rfl
 rw [BJ,show fs+8=(fs+7)+1 from rfl,Ax,hwc,if_neg c0,hent.2,AA,hsapp,AA,hw1]
 by_cases h4k:e=4000
 ·obtain⟨r',hr'⟩:=henter.1 h4k
  rw [hr',AA,if_pos c4,if_pos (by simp; omega),K5 _ _ rfl,AA]
  exact⟨_,_,rfl,rfl,.inl ⟨(by decide:(4:Int)≠0),rfl,hwn⟩⟩
 have he4:e<4000:=by omega
 obtain⟨m,rfl⟩:∃x,m=x+1:=⟨m - 1,by omega⟩
 obtain⟨T1,hT1,hr'⟩:=henter.2 he4
 have hagw:at? w.n.agents pa=some a:=by rw [hwn]; exact ha
 have hagr:at? r.net.agents pa=some a:=by rw [hr]; exact ha
 obtain⟨E1,hE1,hj18⟩:=cd (fs+6) w ((rbl b).map (sbOf A)).reverse d e E s.lst pa ps (lab++entB ⟨pa,ps⟩) a (by have:=hz.hE; omega)
 have hlab1:((lab++entB ⟨pa,ps⟩).size :Int)≤50*(e+1):=by rw [ByteArray.size_append]; omega
 have hz1:Szs A (e+1) k E1 O T1 L:=⟨by omega,hk,by have:=hz.hE; omega,hz.hO,hz.hL,hT1⟩
 rw [hr',AA]
 dsimp only
 rw [if_neg c0,hent.1,AA,hsapp,AA,hagr,AA,if_neg (show ¬decide (4000<e+1)=true by simp; omega),hagw,AA,hj18]
 by_cases hk4:a.kind=4
 · -- a fan
  have hki:¬ (!decide (a.kind=4))=true:=by simp [hk4]
  have hF:∀st nd en og lb,A1 (⟨⟨A⟩,st,nd,en,og,lb,0⟩:L16Walk) 13=some (⟨0,0,[],[]⟩,⟨⟨A⟩,st,nd,en,og,lb,13⟩):=fun _ _ _ _ _=>K5 _ _ rfl
  obtain⟨o,ho⟩:=Ip (l:=s.l) (i:=a.level) (by omega) (by rw [Stacks.l_len]; omega)
  have hol:at? s.lst a.level=some (stl o).reverse :=Tm ho
  have hof:=hs o (Qh ho)
  have hlv:s.lst.length≤9:=by rw [Stacks.lst_len]; omega
  have hlv2:a.level<(s.lst.length:Int):=by rw [Stacks.lst_len]; omega
  rw [if_neg hki,Af,if_neg hki,hol,AA,hwn,hwc,hw1]
  by_cases hps:0<ps
  ·have hpl:a.ports.length=3:=hag.2.2.2.2.2.1 (.inr (.inr (.inl hk4)))
   obtain⟨q0,hq0⟩:=Ip (l:=a.ports) (i:=0) (by omega) (by omega)
   have hps2:=GZ hq
   obtain⟨t,ht1,ht2,ht3⟩:=cY (A:=A) ⟨r.net,e+1,k,O,T1,L⟩ hr ⟨pa,ps⟩ ha hq0 ho hps (show ps≤2 by omega) e.toNat hs
   have hr1:(⟨⟨A⟩,e+1,k,O,T1,L⟩:Reading)=⟨r.net,e+1,k,O,T1,L⟩:=by rw [hr]
   rw [if_pos (decide_eq_true hps),Tn _ (by rw [List.length_reverse]; unfold Big; omega),AA,CC (by simp [Big]; omega),AA,P3 _ _ _ (by omega) hlv2 hlv,AA,show fs+5=(fs+4)+1 from rfl,Cb,hq0,AA,hw1,ht1,AA]
   dsimp only
   rw [if_neg cT,← ht2]
   obtain⟨ri,rs,h1,h2,h3⟩:=ih m (by omega) r w (e+1) k d E1 O T1 L q0 t b (lab++entB ⟨pa,ps⟩) fi (fs+4) hr hwn hwk hwo hwl hwc (by omega) hz1 hd1 hd2 (hv.pr _ _ _ _ ha hq0) (ht3.mono (by omega)) hb hbf hlab1 (by omega) (by omega)
   exact⟨ri,rs,h1,h2,h3.mono (by omega)⟩
  ·rw [if_neg (show ¬decide (0<ps)=true by simpa using hps)]
   cases o with
   |none=>
    rw [Xy (A:=A) (a:=a) ⟨r.net,e+1,k,O,T1,L⟩ hr ⟨pa,ps⟩ ha ho hps,AA]
    dsimp only
    rw [if_pos cF,if_pos (by simp [stl]),hF,AA]
    exact⟨_,_,rfl,rfl,.inl ⟨(by decide:(13:Int)≠0),rfl,rfl⟩⟩
   | some st=>
    rw [HH] at hof
    have hpt:=hof.2 st.port (List.mem_cons_self ..)
    have hln:=hof.1
    rw [List.length_cons] at hln
    have hpl:a.ports.length=3:=hag.2.2.2.2.2.1 (.inr (.inr (.inl hk4)))
    obtain⟨q1,hq1⟩:=Ip (l:=a.ports) (i:=st.port) (by omega) (by omega)
    obtain⟨t,ht1,ht2,ht3⟩:=Xz (A:=A) ⟨r.net,e+1,k,O,T1,L⟩ hr ⟨pa,ps⟩ ha ho hq1 hps e.toNat hs
    have hrev:(stl (some st)).reverse =(stl st.rest).reverse ++[st.port] :=by rw [HH,List.reverse_cons]
    have hlen:(((stl (some st)).reverse.length :Nat):Int) - 1=(((stl st.rest).reverse.length :Nat):Int):=by rw [hrev,List.length_append]; simp
    have hwl1:IntKind.i64.wrap ((((stl (some st)).reverse.length :Nat):Int) - 1)=(((stl st.rest).reverse.length :Nat):Int):=by rw [hlen,w64 (by omega) (by simp; omega)]
    have hcut:cutL (stl (some st)).reverse 0 (((stl st.rest).reverse.length :Nat):Int)=some (stl st.rest).reverse :=by
     unfold cutL
     rw [if_pos ⟨by omega,by omega,by rw [hrev,List.length_append]; omega⟩,hrev]
     simp
    rw [if_neg (show ¬decide ((((stl (some st)).reverse.length :Nat):Int)=0)=true by rw [hrev]; simp; omega),hwl1,Ce (l:=(stl (some st)).reverse) (post:=[]) hrev,AA,hcut,AA,Tn _ (by rw [List.length_reverse]; unfold Big; omega),AA,P3 _ _ _ (by omega) hlv2 hlv,AA,hq1,AA,ht1,AA]
    dsimp only
    rw [if_neg cT,← ht2]
    obtain⟨ri,rs,h1,h2,h3⟩:=ih m (by omega) r w (e+1) k d E1 O T1 L q1 t b (lab++entB ⟨pa,ps⟩) fi (fs+5) hr hwn hwk hwo hwl hwc (by omega) hz1 hd1 hd2 (hv.pr _ _ _ _ ha hq1) (ht3.mono (by omega)) hb hbf hlab1 (by omega) (by omega)
    exact⟨ri,rs,h1,h2,h3.mono (by omega)⟩
 · -- a node
  have hki:(!decide (a.kind=4))=true:=by simp [hk4]
  have hvar:=Zy hv ⟨r.net,e+1,k,O,T1,L⟩ hr pa ha s b hbl
  rw [if_pos hki,X4 hv ⟨r.net,e+1,k,O,T1,L⟩ hr ⟨pa,ps⟩ ha s b _ hvar,AA]
  have hmm:m<m+1:=Nat.lt_succ_self m
  rcases j19_node hv (fs+1) w hwn hwc (rbl b) hbl hbf d e s pa ps (lab++entB ⟨pa,ps⟩) E1 ha hk4 he with ⟨h1,h2⟩|⟨h1,n,hn,h2⟩
  ·rw [h2,h1,if_pos cF]
   exact⟨_,_,rfl,rfl,.inl ⟨(by decide:(13:Int)≠0),rfl,rfl⟩⟩
  ·rw [h2,h1,if_neg cT]
   have:=WF hv (ih m hmm) fi n (by omega) (by omega) r hr w hwn e k d E1 O T1 L hwk hwo hwl hwc (by omega) he.1 hz1 ⟨hd1,hd2⟩ pa ps ha s (hs.mono (by omega)) b hb hbf (lab++entB ⟨pa,ps⟩) (GM pa a.level.toNat s 0 (rbl b)) h1
   rw [← hr,hagr] at this
   exact this
end Go.Proofs.YtoncbhomocgmcaaGreatDoor.Ab
