/-
  Results that are marked and found marked again: the loops, each once. No program is in sight.
-/
import Derived.Test.YtnfgeocnolheoaaGreatPlG
import Derived.Test.YtnfgeocnolheoaaGreatPlZ
import Derived.Test.YtnfgeocnolheoaaGreatModB
namespace Go.Proofs.YtnfgeocnolheoaaGreat.Ab
set_option linter.unusedVariables false
set_option maxHeartbeats 1000000
set_option linter.unusedSimpArgs false
open Go.RowKit
section
variable {α:Type} {pre post:List α} {x y:α}
theorem Mc:at? (pre++x::post) (pre.length:Int)=some x:=AY rfl
theorem QA:decide ((pre.length:Int)<((List.length (pre++x::post):Nat):Int))=true:=Ah rfl
theorem J6:CZ (pre++x::post) (pre.length:Int) y=some (pre++y::post):=by
 simp [CZ,gF]
theorem Kx (h:pre.length<Big):IntKind.i64.wrap ((pre.length:Int)+1)=((List.length pre+1:Nat):Int):=by
 grind [w64]
end
abbrev KB:Nat:=4611686018427387904
theorem wk {k:Nat} (h:k+1≤KB):IntKind.i64.wrap ((k:Int)+1)=((k+1:Nat):Int):=by
 grind [w64]
theorem nF {k:Nat}:decide (((k:Nat):Int)<0)=false:=by simp
def cnts {α:Type} (c:α→Nat):List α→Nat
 | [] =>0
 |x::l=>c x+cnts c l
theorem cnts_le {α:Type} {c s:α→Nat} {b:Nat}:∀ {l:List α},(∀x,c x≤b+b*s x)→cnts c l≤b*szl s l
 | [],_=>by simp [cnts]
 |x::l,h=>by
  rw [cnts,szl,Nat.mul_add,Nat.mul_add]
  have:=h x
  have:=cnts_le (l:=l) h
  omega
def one {α:Type}:α→Nat:=fun _=>1
theorem one_le {α:Type} {x:α}:one x≤1:=Nat.le_refl 1
theorem ZI {a b:ByteArray} (h:a.size+b.size≤9223372036854775807):US a b=some (a++b):=by unfold US; rw [if_pos h]
theorem QB:∀ (j n k:Nat) (acc:ByteArray),k<10 ^ j→j<n→k≤9223372036854775807→acc.size+j≤1000→∃s,DG n (k:Int) acc=some s:=by
 have k1:(ByteArray.mk #[109]).size =1:=rfl
 have zero:∀ (n:Nat) (acc:ByteArray),0<n→acc.size≤1000→∃s,DG n ((0:Nat):Int) acc=some s:=fun n acc hn ha=>by
  obtain⟨n,rfl⟩:∃m,n=m+1:=⟨n - 1,by omega⟩
  rw [DG,if_neg (by simp),ZI (by omega),AA]
  grind
 intro j
 induction j with
 |zero=>
  grind
 | succ j ih=>
  intro n k acc h1 h2 h3 h4
  by_cases h0:k=0
  ·subst h0; exact zero n acc (by omega) (by omega)
  ·obtain⟨n,rfl⟩:∃m,n=m+1:=⟨n - 1,by omega⟩
   have hd:Int.tdiv (k:Int) 10=((k / 10:Nat):Int):=rfl
   rw [Nat.pow_succ] at h1
   unfold DG
   rw [if_pos (by grind)]
   unfold Y8
   rw [if_pos (by simp),AA]
   have hs:∀z:Int,(strOfNums [z]).size =1:=fun z=>rfl
   rw [ZI (by rw [hs]; omega),AA,hd,w64 (by omega) (by omega)]
   exact ih n (k / 10) _ (by omega) (by omega) (by omega) (by rw [ByteArray.size_append,hs]; omega)
def mkN (k:Nat):ByteArray:=(B5 (k:Int)).getD (ByteArray.mk #[])
theorem GB (k:Nat) (hk:k≤KB):B5 (k:Int)=some (mkN k):=by
 have:∃s,B5 (k:Int)=some s:=by
  unfold B5
  split
  ·grind
  ·exact QB 19 fuel k _ (by grind) (Nat.lt_of_lt_of_le (by omega) (A3 (n:=20) (by omega))) (by grind) (by show 0+19≤1000; omega)
 grind [mkN]
mutual
def TType.mc:TType→Nat
 |⟨_,_,ks⟩=>2+TType.mcs ks
def TType.mcs:List TType→Nat
 | [] =>0
 |x::l=>TType.mc x+TType.mcs l
end
mutual
def TType.mk9:Nat→TType→TType
 |k,⟨_,_,ks⟩=>⟨(k:Int),mkN (k+1),TType.mkS9 (k+2) ks⟩
def TType.mkS9:Nat→List TType→List TType
 |_,[] =>[]
 |k,x::l=>TType.mk9 k x::TType.mkS9 (k+TType.mc x) l
end
theorem TType.mc_eq (t:TType):t.mc=2+TType.mcs t.kids:=by cases t; rfl
theorem TType.mk9_eq (k:Nat) (t:TType):t.mk9 k=⟨(k:Int),mkN (k+1),TType.mkS9 (k+2) t.kids⟩:=by cases t; rfl
theorem YE:∀ {l:List TType},(∀x ∈ l,x.mc≤2*x.sz+2)→TType.mcs l≤2*szl TType.sz l
 | [],_=>by simp [TType.mcs]
 |x::l,h=>by
  have h1:=h x (by simp)
  have h2:=YE fun y hy=>h y (List.mem_cons_of_mem _ hy)
  grind [TType.mcs,szl]
theorem TType.mc_le:∀t:TType,t.mc≤2*t.sz+2:=by
 refine TType.ind fun t ih=>?_
 grind [YE,TType.mc_eq,TType.sz_eq]
def MK9 (l:List TType):Prop:=∀ (n k:Nat),szl TType.sz l≤Big→16*szl TType.sz l+16≤n→k+TType.mcs l≤1000000000000→C1 n l (k:Int)=some (((k+TType.mcs l:Nat):Int),TType.mkS9 k l)∧E9 n (TType.mkS9 k l) (k:Int)=some ((k+TType.mcs l:Nat):Int)
theorem dP (l:List TType) (ih:∀x ∈ l,MK9 x.kids):MK9 l:=by
 intro n k hz hn hk
 have hB:Big=4294967296:=rfl
 have hK:KB=4611686018427387904:=rfl
 have hlen:=AZ TType.sz l
 obtain⟨n,rfl⟩:∃m,n=m+1:=⟨n - 1,by omega⟩
 have hkid:∀x ∈ l,szl TType.sz x.kids≤x.sz:=fun x hx=>by rw [x.sz_eq]; omega
 constructor
 ·have loop:∀ (post pre done:List TType) (k n:Nat),l=pre++post→done.length=pre.length→k+TType.mcs post≤1000000000000→16*szl TType.sz l+15 - pre.length≤n→DP n (done++post) (k:Int) (done.length:Int)=some (((k+TType.mcs post:Nat):Int),done++TType.mkS9 k post):=by
   intro post
   induction post with
   |nil=>
    intro pre done k n h1 h2 h3 h4
    have hpl:pre.length=l.length:=by rw [h1]; simp
    obtain⟨n,rfl⟩:∃m,n=m+1:=⟨n - 1,by omega⟩
    rw [List.append_nil,DP,if_neg (by simp),TType.mkS9,TType.mcs,List.append_nil]; rfl
   |cons x post ihp=>
    intro pre done k n h1 h2 h3 h4
    have hx:x ∈ l:=BE h1
    have hpl:pre.length+1≤l.length:=by rw [h1]; simp
    have hm2:=Ac (s:=TType.sz) hx
    have hkx:=hkid x hx
    simp only [TType.mcs,TType.mc_eq] at h3
    obtain⟨n,rfl⟩:∃m,n=m+1:=⟨n - 1,by omega⟩
    have hrec:=(ih x hx n (k+2) (by omega) (by omega) (by omega)).1
    rw [DP,if_pos QA,Mc,AA,J6,AA,wk (by omega),GB (k+1) (by omega),AA,Mc,AA,J6,AA,Mc,AA,wk (by omega)]
    simp only []
    rw [hrec,AA,J6,AA,Kx (by omega)]
    have:=ihp (pre++[x]) (done++[TType.mk9 k x]) (k+x.mc) n (by rw [h1]; simp) (by grind) (by rw [TType.mc_eq]; omega) (by grind)
    simp only [List.append_assoc,List.cons_append,List.nil_append,List.length_append,List.length_cons,List.length_nil,Nat.zero_add] at this
    rw [TType.mkS9,TType.mcs,TType.mk9_eq] at*
    rw [show k+2+TType.mcs x.kids=k+x.mc from by rw [TType.mc_eq]; omega,show k+(x.mc+TType.mcs post)=k+x.mc+TType.mcs post from by omega]
    omega
  rw [C1]
  exact loop l [] [] k n rfl rfl hk (by omega)
 ·have loop:∀ (post pre done:List TType) (k0 k n:Nat),l=pre++post→TType.mkS9 k0 l=done++TType.mkS9 k post→done.length=pre.length→k+TType.mcs post≤1000000000000→16*szl TType.sz l+15 - pre.length≤n→DS n (TType.mkS9 k0 l) (k:Int) (done.length:Int)=some ((k+TType.mcs post:Nat):Int):=by
   intro post
   induction post with
   |nil=>
    intro pre done k0 k n h1 h2 h3 h4 h5
    have hpl:pre.length=l.length:=by rw [h1]; simp
    obtain⟨n,rfl⟩:∃m,n=m+1:=⟨n - 1,by omega⟩
    rw [h2,TType.mkS9,List.append_nil,DS,if_neg (by simp),TType.mcs]; rfl
   |cons x post ihp=>
    intro pre done k0 k n h1 h2 h3 h4 h5
    have hx:x ∈ l:=BE h1
    have hpl:pre.length+1≤l.length:=by rw [h1]; simp
    have hm2:=Ac (s:=TType.sz) hx
    have hkx:=hkid x hx
    simp only [TType.mcs,TType.mc_eq] at h4
    obtain⟨n,rfl⟩:∃m,n=m+1:=⟨n - 1,by omega⟩
    have hrec:=(ih x hx n (k+2) (by omega) (by omega) (by omega)).2
    have h2':=h2
    rw [TType.mkS9,TType.mk9_eq] at h2
    have h6:=ihp (pre++[x]) (done++[TType.mk9 k x]) k0 (k+x.mc) n (by rw [h1]; simp) (by rw [h2',TType.mkS9]; simp) (by grind) (by rw [TType.mc_eq]; omega) (by grind)
    rw [List.length_append,List.length_cons,List.length_nil] at h6
    rw [DS,if_pos (Ah h2),AY h2,AA]
    simp only [eq_self,decide_true,Bool.not_true,Bool.false_eq_true,if_false,AA]
    rw [wk (by omega),GB (k+1) (by omega),AA,Bj,wk (by omega)]
    grind [Kx,TType.mcs,TType.mc_eq]
  rw [E9]
  exact loop l [] [] k k n rfl (by simp) rfl hk (by omega)
theorem dQ:∀t:TType,MK9 t.kids:=TType.ind fun t ih=>dP t.kids ih
theorem mk9 (l:List TType):MK9 l:=dP l fun x _=>dQ x
theorem Sd {α:Type} (L:Nat→List α→Int→Int→Option (Int × List α)) (c:α→Nat) (N:Nat) (l:List α) (hl:l.length<Big)
  (hL:∀n (pre post:List α) x (k:Nat),x ∈ l→k+c x≤1000000000000→pre.length<Big→N≤n→∃y,L (n+1) (pre++x::post) (k:Int) (pre.length:Int)=L n (pre++y::post) ((k+c x:Nat):Int) ((List.length pre+1:Nat):Int))
  (he:∀n (m:List α) (k:Nat),L (n+1) m (k:Int) (m.length:Int)=some ((k:Int),m)) (k n:Nat) (hk:k+cnts c l≤1000000000000) (hn:N+l.length+1≤n):
  ∃l',L n l (k:Int) 0=some (((k+cnts c l:Nat):Int),l'):=by
 have key:∀ (post pre:List α) (k n:Nat),(∀x ∈ post,x ∈ l)→pre.length+post.length<Big→k+cnts c post≤1000000000000→N+post.length+1≤n→∃l',L n (pre++post) (k:Int) (pre.length:Int)=some (((k+cnts c post:Nat):Int),l'):=by
  intro post
  induction post with
  |nil=>
   intro pre k n hm h1 h2 h3
   obtain⟨n,rfl⟩:∃m,n=m+1:=⟨n - 1,by omega⟩
   rw [List.append_nil]
   exact⟨_,he n pre k⟩
  |cons x post ih=>
   intro pre k n hm h1 h2 h3
   simp only [List.length_cons] at h1 h3
   rw [cnts] at h2
   obtain⟨n,rfl⟩:∃m,n=m+1:=⟨n - 1,by omega⟩
   obtain⟨y,hy⟩:=hL n pre post x k (hm x (by simp)) (by omega) (by omega) (by omega)
   obtain⟨l',h'⟩:=ih (pre++[y]) (k+c x) n (fun z hz=>hm z (by grind)) (by grind) (by omega) (by omega)
   simp_all [cnts,Nat.add_assoc]
 exact key l [] k n (fun x h=>h) (by grind) hk hn
theorem ZJ (l:List ByteArray) (hl:l.length<Big) (k:Nat) (hk:k+cnts one l≤1000000000000):∃l',Gd l (k:Int)=some (((k+cnts one l:Nat):Int),l'):=by
 have hB:Big=4294967296:=rfl
 have hK:KB=4611686018427387904:=rfl
 refine Sd (fun n l k i=>Cc n l k i) one 0 l hl (fun n pre post x k hx h1 h2 _=>⟨mkN k,?_⟩) (fun n m k=>?_) k fuel hk (A3 (by omega))
 ·have e:k+one x=k+1:=by rfl
  rw [e] at h1 ⊢
  rw [Cc,if_pos QA]
  grind [Mc,J6,wk,GB]
 grind [Cc]
theorem PA {α:Type} (l:List α):cnts one l=l.length:=by
 induction l with
 |nil=>rfl
 |cons x l ih=>rw [cnts,ih,List.length_cons]; grind [one]
def Constructor.mc9 (c:Constructor):Nat:=1+TType.mcs c.fields
def Data.mc9 (d:Data):Nat:=1+cnts Constructor.mc9 d.cons
theorem TType.mcs_le' (l:List TType):TType.mcs l≤2*szl TType.sz l:=YE fun x _=>x.mc_le
theorem dR (l:List Constructor) (hl:szl Constructor.sz l<Big) (k:Nat) (hk:k+cnts Constructor.mc9 l≤1000000000000):∃l',FI l (k:Int)=some (((k+cnts Constructor.mc9 l:Nat):Int),l'):=by
 have hB:Big=4294967296:=rfl
 have hK:KB=4611686018427387904:=rfl
 have hlen:=AZ Constructor.sz l
 refine Sd (fun n l k i=>BS n l k i) Constructor.mc9 0 l (by omega) (fun n pre post x k hx h1 h2 _=>⟨⟨mkN k,TType.mkS9 (k+1) x.fields⟩,?_⟩) (fun n m k=>?_) k fuel hk (A3 (by omega))
 ·have hs:=Ac (s:=Constructor.sz) hx
  have hz:x.sz=x.name.size+(szl TType.sz x.fields+0):=rfl
  unfold Constructor.mc9 at h1 ⊢
  have hrec:=(mk9 x.fields fuel (k+1) (by omega) (A3 (by omega)) (by omega)).1
  rw [BS,if_pos QA]
  simp (disch:=omega) only [Mc,J6,AA,wk,Kx,GB,hrec]
  rw [show k+1+TType.mcs x.fields=k+(1+TType.mcs x.fields) from by omega]
 grind [BS]
theorem aZ (l:List Data) (hl:szl Data.sz l<Big) (k:Nat) (hk:k+cnts Data.mc9 l≤1000000000000):∃l',J4 l (k:Int)=some (((k+cnts Data.mc9 l:Nat):Int),l'):=by
 have hB:Big=4294967296:=rfl
 have hK:KB=4611686018427387904:=rfl
 have hlen:=AZ Data.sz l
 refine Sd (fun n l k i=>DQ n l k i) Data.mc9 0 l (by omega) (fun n pre post x k hx h1 h2 _=>?_) (fun n m k=>?_) k fuel hk (A3 (by omega))
 ·have hs:=Ac (s:=Data.sz) hx
  have hz:x.sz=x.name.size+(szl Constructor.sz x.cons+0):=rfl
  unfold Data.mc9 at h1 ⊢
  obtain⟨l',hrec⟩:=dR x.cons (by omega) (k+1) (by omega)
  refine⟨⟨mkN k,l'⟩,?_⟩
  rw [DQ,if_pos QA]
  simp (disch:=omega) only [Mc,J6,AA,wk,Kx,GB,hrec]
  rw [show k+1+cnts Constructor.mc9 x.cons=k+(1+cnts Constructor.mc9 x.cons) from by omega]
 grind [DQ]
mutual
def Term.mc9:Term→Nat
 |⟨_,_,_,ty,nms,ks⟩=>5+TType.mcs ty.kids+nms.length+Term.mcs9 ks
def Term.mcs9:List Term→Nat
 | [] =>0
 |x::l=>Term.mc9 x+Term.mcs9 l
end
theorem Wh:∀l:List Term,Term.mcs9 l=cnts Term.mc9 l
 | [] =>rfl
 |x::l=>by rw [Term.mcs9,cnts,Wh l]
theorem U4 (t:Term):t.mc9=5+TType.mcs t.typ.kids+t.names.length+cnts Term.mc9 t.kids:=by cases t; rw [Term.mc9,Wh]
theorem Md {α:Type} {c s:α→Nat} {b:Nat}:∀ {l:List α},(∀x ∈ l,c x≤b+b*s x)→cnts c l≤b*szl s l
 | [],_=>by simp [cnts]
 |x::l,h=>by
  have h1:=h x (by simp)
  have h2:=Md (l:=l) fun y hy=>h y (List.mem_cons_of_mem _ hy)
  rw [cnts,szl,Nat.mul_add,Nat.mul_add]; omega
theorem gI:∀t:Term,t.mc9≤11+11*t.sz:=by
 refine Term.ind fun t ih=>?_
 have h1:=Md (c:=Term.mc9) (s:=Term.sz) (b:=11) ih
 have h2:=TType.mcs_le' t.typ.kids
 have h3:=t.typ.sz_eq
 rw [U4,Term.sz_eq]; omega
def MT9 (l:List Term):Prop:=∀ (n k:Nat),szl Term.sz l<Big→16*szl Term.sz l+16≤n→k+cnts Term.mc9 l≤1000000000000→∃l',E8 n l (k:Int)=some (((k+cnts Term.mc9 l:Nat):Int),l')
theorem dS (l:List Term) (ih:∀x ∈ l,MT9 x.kids):MT9 l:=by
 intro n k hz hn hk
 have hB:Big=4294967296:=rfl
 have hK:KB=4611686018427387904:=rfl
 have hlen:=AZ Term.sz l
 obtain⟨n,rfl⟩:∃m,n=m+1:=⟨n - 1,by omega⟩
 rw [E8]
 refine Sd (fun n l k i=>DR n l k i) Term.mc9 (16*szl Term.sz l+8 - 6*l.length) l (by omega) (fun n pre post x k hx h1 h2 hN=>?_) (fun n m k=>?_) k n hk (by omega)
 ·have hs:=Ac (s:=Term.sz) hx
  have hp1:1≤l.length:=List.length_pos_of_mem hx
  have hxz:=x.sz_eq
  have htz:=x.typ.sz_eq
  rw [U4] at h1 ⊢
  have r1:=(mk9 x.typ.kids fuel (k+1+1+1+1+1) (by omega) (A3 (by omega)) (by omega)).1
  obtain⟨l2,r2⟩:=ZJ x.names (by omega) (k+1+1+1+1+1+TType.mcs x.typ.kids) (by rw [PA]; omega)
  rw [PA] at r2
  obtain⟨l3,r3⟩:=ih x hx n (k+1+1+1+1+1+TType.mcs x.typ.kids+x.names.length) (by omega) (by omega) (by omega)
  refine⟨⟨(k:Int),((k+1:Nat):Int),mkN (k+1+1),⟨((k+1+1+1:Nat):Int),mkN (k+1+1+1+1),TType.mkS9 (k+1+1+1+1+1) x.typ.kids⟩,l2,l3⟩,?_⟩
  rw [DR,if_pos QA]
  simp (disch:=omega) only [Mc,J6,AA,wk,Kx,GB,r1,r2,r3]
  rw [show k+1+1+1+1+1+TType.mcs x.typ.kids+x.names.length+cnts Term.mc9 x.kids=k+(5+TType.mcs x.typ.kids+x.names.length+cnts Term.mc9 x.kids) from by omega]
 grind [DR]
theorem dT:∀t:Term,MT9 t.kids:=Term.ind fun t ih=>dS t.kids ih
theorem mt9 (l:List Term):MT9 l:=dS l fun x _=>dT x
def Def.mc9 (d:Def):Nat:=3+TType.mcs d.typ.kids+d.body.mc9
theorem dU (l:List Def) (hl:szl Def.sz l<Big) (k:Nat) (hk:k+cnts Def.mc9 l≤1000000000000):∃l',LT l (k:Int)=some (((k+cnts Def.mc9 l:Nat):Int),l'):=by
 have hB:Big=4294967296:=rfl
 have hK:KB=4611686018427387904:=rfl
 have hlen:=AZ Def.sz l
 refine Sd (fun n l k i=>Dr n l k i) Def.mc9 0 l (by omega) (fun n pre post x k hx h1 h2 _=>?_) (fun n m k=>?_) k fuel hk (A3 (by omega))
 ·have hs:=Ac (s:=Def.sz) hx
  have hz:x.sz=x.name.size+(x.typ.sz+(x.body.sz+0)):=rfl
  have hbz:=x.body.sz_eq
  have htz:=x.typ.sz_eq
  have hbt:=x.body.typ.sz_eq
  unfold Def.mc9 at h1 ⊢
  rw [U4] at h1 ⊢
  have r0:=(mk9 x.typ.kids fuel (k+1+1+1) (by omega) (A3 (by omega)) (by omega)).1
  have r1:=(mk9 x.body.typ.kids fuel (k+1+1+1+TType.mcs x.typ.kids+1+1+1+1+1) (by omega) (A3 (by omega)) (by omega)).1
  obtain⟨l2,r2⟩:=ZJ x.body.names (by omega) (k+1+1+1+TType.mcs x.typ.kids+1+1+1+1+1+TType.mcs x.body.typ.kids) (by rw [PA]; omega)
  rw [PA] at r2
  obtain⟨l3,r3⟩:=mt9 x.body.kids fuel (k+1+1+1+TType.mcs x.typ.kids+1+1+1+1+1+TType.mcs x.body.typ.kids+x.body.names.length) (by omega) (A3 (by omega)) (by omega)
  refine⟨⟨mkN k,⟨((k+1:Nat):Int),mkN (k+1+1),TType.mkS9 (k+1+1+1) x.typ.kids⟩,⟨((k+1+1+1+TType.mcs x.typ.kids:Nat):Int),((k+1+1+1+TType.mcs x.typ.kids+1:Nat):Int),mkN (k+1+1+1+TType.mcs x.typ.kids+1+1),⟨((k+1+1+1+TType.mcs x.typ.kids+1+1+1:Nat):Int),mkN (k+1+1+1+TType.mcs x.typ.kids+1+1+1+1),TType.mkS9 (k+1+1+1+TType.mcs x.typ.kids+1+1+1+1+1) x.body.typ.kids⟩,l2,l3⟩⟩,?_⟩
  rw [Dr,if_pos QA]
  simp (disch:=omega) only [Mc,J6,AA,wk,Kx,GB,r0,r1,r2,r3]
  rw [show k+1+1+1+TType.mcs x.typ.kids+1+1+1+1+1+TType.mcs x.body.typ.kids+x.body.names.length+cnts Term.mc9 x.body.kids=k+(3+TType.mcs x.typ.kids+(5+TType.mcs x.body.typ.kids+x.body.names.length+cnts Term.mc9 x.body.kids)) from by omega]
 grind [Dr]
theorem dV (p:TProgram) (hz:p.sz≤1048576):∃ (k:Nat) (a:List Data) (b:List Def),Ge p 1=some ((k:Int),a,b):=by
 have hB:Big=4294967296:=rfl
 unfold TProgram.sz at hz
 have b1:cnts Data.mc9 p.datas≤11*szl Data.sz p.datas:=Md fun d _=>by
  have h1:cnts Constructor.mc9 d.cons≤4*szl Constructor.sz d.cons:=Md fun c _=>by
   grind [TType.mcs_le',Constructor.mc9,Constructor.sz]
  grind [Data.mc9,Data.sz]
 have b2:cnts Def.mc9 p.defs≤20*szl Def.sz p.defs:=Md fun d _=>by
  have h1:=gI d.body
  have h2:=TType.mcs_le' d.typ.kids
  have h3:=d.typ.sz_eq
  grind [Def.mc9,Def.sz]
 obtain⟨a,ha⟩:=aZ p.datas (by omega) 1 (by omega)
 obtain⟨b,hb⟩:=dU p.defs (by omega) (1+cnts Data.mc9 p.datas) (by omega)
 unfold Ge
 rw [show (1:Int)=((1:Nat):Int) from rfl,ha,AA,hb,AA]
 exact⟨_,_,_,rfl⟩
end Go.Proofs.YtnfgeocnolheoaaGreat.Ab
