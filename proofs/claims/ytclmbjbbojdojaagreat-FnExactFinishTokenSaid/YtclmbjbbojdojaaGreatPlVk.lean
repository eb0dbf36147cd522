/-
  Clusters: the reference's tables of places. No program is in sight.
-/
import Derived.Test.YtclmbjbbojdojaaGreatPlVe
namespace Go.Proofs.YtclmbjbbojdojaaGreat.Ab
set_option linter.unusedVariables false
set_option maxHeartbeats 1000000
set_option linter.unusedSimpArgs false
open Go.RowKit
def szC (c:ShardCell):Nat:=if c.kind=0 then 0 else c.aux.length+1
def tot:List ShardCell→Nat
 | [] =>0
 |c::l=>szC c+tot l
def offs:Nat→List ShardCell→List Int
 |_,[] =>[]
 |b,c::l=>((b:Nat):Int)::offs (b+szC c) l
def totS:List Shard→Nat
 | [] =>0
 |s::l=>tot s.cells+totS l
def rows:Nat→List Shard→List (List Int)
 |_,[] =>[]
 |b,s::l=>offs b s.cells::rows (b+tot s.cells) l
def rng:Nat→Nat→List Int
 |_,0=>[]
 |b,n+1=>((b:Nat):Int)::rng (b+1) n
def totV:List Shard→Nat
 | [] =>0
 |s::l=>s.vars.length+totV l
def Eh:Nat→List Shard→List (List Int)
 |_,[] =>[]
 |b,s::l=>rng b s.vars.length::Eh (b+s.vars.length) l
theorem mU (c:ShardCell):szC c≤c.aux.length+1:=by unfold szC; split <;> omega
theorem cC {st:L27Links} {c:ShardCell} (hc:c.Small) (ha:st.agents.length<Big):∀ (r k n:Nat) (po:List Port),k+r=c.aux.length+1→po.length+r≤Big→r+1≤n→
  ∃po',B3 n st c po (k:Int)=some ((st.ports.length:Int),⟨st.agents++[XX c],po',st.cells,st.vars,st.ends,st.pairs⟩)∧po'.length=po.length+r
 |0,k,n+1,po,hk,hp,hn=>by
  refine⟨po,?_,by omega⟩
  rw [B3,decide_eq_false (by omega),if_neg (by simp),ZA hc,AA,EF (by grind),AA]
 |r+1,k,n+1,po,hk,hp,hn=>by
  have h1:=hc.a
  rw [B3,decide_eq_true (by omega),if_pos rfl,EF (by grind),AA]
  have hw:IntKind.i64.wrap ((k:Int)+1)=((k+1:Nat):Int):=by rw [w64 (by omega) (by omega)]; omega
  rw [hw]
  obtain⟨po',e,hl⟩:=cC (st:=st) hc ha r (k+1) n (po++[⟨(st.agents.length:Int),(k:Int)⟩]) (by omega) (by rw [List.length_append]; grind) (by omega)
  grind
theorem kM {st:L27Links} {c:ShardCell} (hc:c.Small) (ha:st.agents.length<Big) (hp:st.ports.length+szC c≤Big):
  ∃ag po,El st c=some ((st.ports.length:Int),⟨ag,po,st.cells,st.vars,st.ends,st.pairs⟩)∧ag.length≤st.agents.length+1∧po.length=st.ports.length+szC c:=by
 have h1:=hc.a
 unfold El
 unfold szC at hp ⊢
 by_cases h:c.kind=0
 ·rw [decide_eq_true h,if_pos rfl,if_pos h]
  grind
 ·rw [decide_eq_false h,if_neg (by simp),if_neg h]
  rw [if_neg h] at hp
  obtain⟨po,e,hl⟩:=cC (st:=st) hc ha (c.aux.length+1) 0 fuel st.ports (by omega) hp (by rw [Ax]; omega)
  grind
theorem cD (g:Grid) (m:Nat) (s:Shard) (hm:at? g.shards (m:Int)=some s) (ag:List Agent) (po:List Port) (C:List (List Int)) (E P:List (List Int)) (H:List Int) (V:List (List Int)) (hV:V.length<Big) (hs:s.vars.length≤4194304):
  ∀ (r k n b:Nat) (acc:List Int),k+r=s.vars.length→acc.length=k→b+r≤4294967296→De (n+r+1) g ag po C E P H V (m:Int) (b:Int) acc (k:Int)=B4 n g ag po C E P H (V++[acc++rng b r]) ((b+r:Nat):Int) (IntKind.i64.wrap ((m:Int)+1))
 |0,k,n,b,acc,hk,ha,hb=>by
  rw [De,hm,AA,decide_eq_false (by omega),if_neg (by simp),EF (by grind),AA,rng,List.append_nil,Nat.add_zero]
 |r+1,k,n,b,acc,hk,ha,hb=>by
  have hw:IntKind.i64.wrap ((k:Int)+1)=((k+1:Nat):Int):=by rw [w64 (by omega) (by omega)]; omega
  have hw2:IntKind.i64.wrap ((b:Int)+1)=((b+1:Nat):Int):=by rw [w64 (by omega) (by omega)]; omega
  rw [De,hm,AA,decide_eq_true (by omega),if_pos rfl,EF (by grind),AA,hw,hw2,show n+(r+1)=n+r+1 from rfl,cD g m s hm ag po C E P H V hV hs r (k+1) n (b+1) (acc++[(b:Int)]) (by omega) (by rw [List.length_append,List.length_singleton]; omega) (by omega),rng,List.append_assoc,List.singleton_append,show b+1+r=b+(r+1) by omega]
theorem ZJ (g:Grid) (hs:∀s ∈ g.shards,s.vars.length≤4194304) (hg:g.shards.length≤4194304) (ag:List Agent) (po:List Port) (C:List (List Int)) (E P:List (List Int)) (H:List Int):
  ∀ (post pre:List Shard) (V:List (List Int)) (b n:Nat),g.shards=pre++post→V.length=pre.length→b+totV post≤Big→1+(2*post.length+totV post)≤n→
  B4 n g ag po C E P H V (b:Int) (pre.length:Int)=some (⟨ag,po,C,V++Eh b post,List.replicate (b+totV post) [],P⟩,H)
 | [],pre,V,b,n,h,hV,hb,hn=>by
  obtain⟨n,rfl⟩:∃k,n=k+1:=⟨n - 1,by omega⟩
  have hl:g.shards.length=pre.length:=by rw [h,List.append_nil]
  rw [totV,Nat.add_zero] at hb
  rw [B4,decide_eq_false (by omega),if_neg (by simp),NO hb,AA,Eh,List.append_nil,totV,Nat.add_zero]
 |s::post,pre,V,b,n,h,hV,hb,hn=>by
  have hlt:pre.length<g.shards.length:=by rw [h]; simp
  have hsv:=hs s (by rw [h]; simp)
  rw [totV] at hb hn
  rw [List.length_cons] at hn
  obtain⟨n,rfl⟩:∃k,n=(k+s.vars.length+1)+1:=⟨n - s.vars.length - 2,by omega⟩
  rw [B4,decide_eq_true (by omega),if_pos rfl]
  have e:=cD g pre.length s (Ak h) ag po C E P H V (by grind) hsv s.vars.length 0 n b [] (by omega) rfl (by grind)
  rw [show ((0:Nat):Int)=0 from rfl] at e
  rw [e,AT h (by grind),ZJ g hs hg ag po C E P H post (pre++[s]) (V++[[] ++rng b s.vars.length]) (b+s.vars.length) n (Ba h) (by rw [List.length_append,List.length_append,List.length_singleton,List.length_singleton,hV]) (by omega) (by omega),Eh,totV,List.nil_append,List.append_assoc,List.singleton_append,Nat.add_assoc]
theorem cE (g:Grid) (a1:List ShardCell) (hs:∀c ∈ a1,c.Small) (C:List (List Int)) (E P:List (List Int)) (Z:Option (L27Links × List Int)) (Q:List Port→Prop) (T:Nat):
  ∀ (post pre:List ShardCell) (ag:List Agent) (po:List Port) (acc:List Int) (n:Nat),a1=pre++post→a1.length≤4194304→ag.length+post.length<Big→po.length+tot post≤Big→acc.length=pre.length→1+post.length≤n→
  ∃ag' po',Cv n g a1 ag po C [] E P acc (pre.length:Int)=B4 fuel g ag' po' C E P (acc++offs po.length post) [] (po'.length:Int) 0∧po'.length=po.length+tot post
 | [],pre,ag,po,acc,n,h,hl,ha,hp,hc,hn=>by
  obtain⟨n,rfl⟩:∃k,n=k+1:=⟨n - 1,by omega⟩
  have hl':a1.length=pre.length:=by rw [h,List.append_nil]
  exact⟨ag,po,by rw [Cv,decide_eq_false (by omega),if_neg (by simp),offs,List.append_nil],by rw [tot]; rfl⟩
 |c::post,pre,ag,po,acc,n,h,hl,ha,hp,hc,hn=>by
  have hlt:pre.length<a1.length:=by rw [h]; simp
  rw [tot] at hp
  rw [List.length_cons] at hn ha
  obtain⟨n,rfl⟩:∃k,n=k+1:=⟨n - 1,by omega⟩
  obtain⟨ag1,po1,e,h1,h2⟩:=kM (st:=⟨ag,po,C,[],E,P⟩) (hs c (by rw [h]; simp)) (by grind) (by grind)
  simp only at h1 h2
  obtain⟨ag2,po2,e2,h3⟩:=cE g a1 hs C E P Z Q T post (pre++[c]) ag1 po1 (acc++[(po.length:Int)]) n (Ba h) hl (by omega) (by omega) (by rw [List.length_append,List.length_append,hc]; rfl) (by omega)
  refine⟨ag2,po2,?_,by rw [tot]; omega⟩
  rw [Cv,decide_eq_true (by omega),if_pos rfl,Ak h,AA,e,AA]
  simp only
  rw [EF (by grind),AA,AT h (by grind),e2,offs,List.append_assoc,List.singleton_append,h2]
theorem cF (g:Grid) (a1:List ShardCell) (m:Nat) (s:Shard) (hm:at? g.shards (m:Int)=some s) (hs:s.Small) (C:List (List Int)) (hC:C.length<Big) (E P:List (List Int)):
  ∀ (post pre:List ShardCell) (ag:List Agent) (po:List Port) (acc:List Int) (n:Nat),s.cells=pre++post→ag.length+post.length<Big→po.length+tot post≤Big→acc.length=pre.length→
  ∃ag' po',Df (n+post.length+1) g a1 (m:Int) ag po C [] E P acc (pre.length:Int)=CW n g a1 ag' po' (C++[acc++offs po.length post]) [] E P (IntKind.i64.wrap ((m:Int)+1))∧po'.length=po.length+tot post∧ag'.length≤ag.length+post.length
 | [],pre,ag,po,acc,n,h,ha,hp,hc=>by
  have hl':s.cells.length=pre.length:=by rw [h,List.append_nil]
  grind [Df,EF,offs,tot]
 |c::post,pre,ag,po,acc,n,h,ha,hp,hc=>by
  have hlt:pre.length<s.cells.length:=by rw [h]; simp
  have hcl:=hs.cl
  rw [tot] at hp
  rw [List.length_cons] at ha
  obtain⟨ag1,po1,e,h1,h2⟩:=kM (st:=⟨ag,po,C,[],E,P⟩) (hs.c c (by rw [h]; simp)) (by grind) (by grind)
  simp only at h1 h2
  obtain⟨ag2,po2,e2,h3,h4⟩:=cF g a1 m s hm hs C hC E P post (pre++[c]) ag1 po1 (acc++[(po.length:Int)]) n (Ba h) (by omega) (by omega) (by rw [List.length_append,List.length_append,hc]; rfl)
  refine⟨ag2,po2,?_,by rw [tot]; omega,by rw [List.length_cons]; omega⟩
  rw [show n+(c::post).length +1=(n+post.length+1)+1 from rfl,Df,hm,AA,decide_eq_true (by omega),if_pos rfl,AA,Ak h,AA,e,AA]
  simp only
  rw [EF (by grind),AA,AT h (by grind),e2,offs,List.append_assoc,List.singleton_append,h2]
def LB:List Shard→Nat
 | [] =>0
 |s::l=>s.cells.length+LB l
theorem cG (g:Grid) (a1:List ShardCell) (hs:∀s ∈ g.shards,s.Small) (hg:g.shards.length≤4194304) (E P:List (List Int)):
  ∀ (post pre:List Shard) (ag:List Agent) (po:List Port) (C:List (List Int)) (n:Nat),g.shards=pre++post→C.length=pre.length→ag.length+LB post<Big→po.length+totS post≤Big→1+(2*post.length+LB post)≤n→
  ∃ag' po',CW n g a1 ag po C [] E P (pre.length:Int)=Cv fuel g a1 ag' po' (C++rows po.length post) [] E P [] 0∧po'.length=po.length+totS post∧ag'.length≤ag.length+LB post
 | [],pre,ag,po,C,n,h,hC,ha,hp,hn=>by
  obtain⟨n,rfl⟩:∃k,n=k+1:=⟨n - 1,by omega⟩
  have hl:g.shards.length=pre.length:=by rw [h,List.append_nil]
  exact⟨ag,po,by rw [CW,decide_eq_false (by omega),if_neg (by simp),rows,List.append_nil],rfl,by omega⟩
 |s::post,pre,ag,po,C,n,h,hC,ha,hp,hn=>by
  have hlt:pre.length<g.shards.length:=by rw [h]; simp
  rw [totS] at hp
  rw [LB] at ha hn
  rw [List.length_cons] at hn
  obtain⟨n,rfl⟩:∃k,n=(k+s.cells.length+1)+1:=⟨n - s.cells.length - 2,by omega⟩
  obtain⟨ag1,po1,e,h1,h2⟩:=cF g a1 pre.length s (Ak h) (hs s (by rw [h]; simp)) C (by grind) E P s.cells [] ag po [] n rfl (by omega) (by omega) rfl
  obtain⟨ag2,po2,e2,h3,h4⟩:=cG g a1 hs hg E P post (pre++[s]) ag1 po1 (C++[[] ++offs po.length s.cells]) n (Ba h) (by rw [List.length_append,List.length_append,hC]; rfl) (by omega) (by omega) (by omega)
  refine⟨ag2,po2,?_,by rw [totS]; omega,by rw [LB]; omega⟩
  have e':=e
  rw [List.length_nil,show ((0:Nat):Int)=0 from rfl] at e'
  rw [CW,decide_eq_true (by omega),if_pos rfl,e',AT h (by grind),e2,rows,List.nil_append,List.append_assoc,List.singleton_append,h1]
theorem eF (g:Grid) (pc:List ShardCell) (hs:∀s ∈ g.shards,s.Small) (hg:g.shards.length≤4194304) (hp:∀c ∈ pc,c.Small) (hpl:pc.length≤4194304) (hn:LB g.shards≤4194304) (ht:totS g.shards≤67108864) (hq:tot pc≤67108864) (hv:totV g.shards≤4194304):
  ∃ag po,He g pc=some (⟨ag,po,rows 1 g.shards,Eh (1+totS g.shards+tot pc) g.shards,List.replicate (1+totS g.shards+tot pc+totV g.shards) [],[]⟩,offs (1+totS g.shards) pc)∧po.length=1+totS g.shards+tot pc:=by
 unfold He
 have h1:rep? 1 (⟨0,0⟩:Port)=some [⟨0,0⟩] :=NO (n:=1) (by grind)
 rw [h1,AA]
 obtain⟨ag1,po1,e1,h2,h3⟩:=cG g pc hs hg [] [] g.shards [] [(⟨1,0,0,[],[⟨0,0⟩]⟩:Agent)] [(⟨0,0⟩:Port)] [] fuel rfl rfl (by grind) (by grind) (by rw [Ax]; omega)
 simp only [List.length_cons,List.length_nil] at h2 h3 e1
 obtain⟨ag2,po2,e2,h4⟩:=cE g pc hp (rows 1 g.shards) [] [] none (fun _=>True) 0 pc [] ag1 po1 [] fuel rfl hpl (by grind) (by grind) rfl (by rw [Ax]; omega)
 have e3:=ZJ g (fun s h=>(hs s h).vl) hg ag2 po2 (rows 1 g.shards) [] [] ([] ++offs po1.length pc) g.shards [] [] po2.length fuel rfl rfl (by grind) (by rw [Ax]; omega)
 refine⟨ag2,po2,?_,by omega⟩
 simp only [List.nil_append,List.length_nil,Nat.zero_add] at e1 e2 e3 h2
 rw [show ((0:Nat):Int)=0 from rfl] at e1 e2 e3
 rw [e1,e2,e3,h4,h2]
def itm (C V:List (List Int)) (a:Address):Option Int:=
 if a.kind=1 then (at? C a.machine).bind fun r=>at? r a.index else (at? V a.machine).bind fun r=>at? r a.index
theorem Qi (st:L27Links) (a:Address):CY st a=itm st.cells st.vars a:=by
 grind [CY,itm]
structure InvL (C V:List (List Int)) (T n:Nat) (st:L27Links) (f:Nat→Nat) (K:Nat):Prop where
 c:st.cells=C
 v:st.vars=V
 t:st.ports.length=T
 e:st.ends.length=n
 r:∀j r,st.ends[j]? =some r→r.length=f j
 k:∀j,f j≤2*K
 p:st.pairs.length=K
def oneV (a j:Nat):Nat:=if j=a then 1 else 0
theorem cH (a j:Nat):oneV a j≤1:=by unfold oneV; split <;> omega
theorem MK {C V:List (List Int)} {T n:Nat} {st:L27Links} {f:Nat→Nat} {K a b:Nat} (h:InvL C V T n st f K) (ha:a<n) (hb:b<n) (hK:K≤1000000):
  ∃st',Cl st (a:Int) (b:Int)=some st'∧InvL C V T n st' (fun j=>f j+(oneV a j+oneV b j)) (K+1):=by
 have hb4:Big=4294967296:=rfl
 obtain⟨ra,hra⟩:∃r,st.ends[a]? =some r:=⟨st.ends[a]'(by rw [h.e]; exact ha),List.getElem?_eq_getElem _⟩
 have hla:=h.r a ra hra
 have hka:=h.k a
 unfold Cl
 rw [EF (by have:=h.p; grind),AA,FM,hra,AA,EF (by grind),AA,AA]
 rw [show A4 st.ends (a:Int) (ra++[(st.pairs.length:Int)])=some (st.ends.set a (ra++[(st.pairs.length:Int)])) from rfl,AA,FM]
 obtain⟨rb,hrb⟩:∃r,(st.ends.set a (ra++[(st.pairs.length:Int)]))[b]? =some r:=⟨_,List.getElem?_eq_getElem (by rw [List.length_set,h.e]; exact hb)⟩
 have mid:∀j r,(st.ends.set a (ra++[(st.pairs.length:Int)]))[j]? =some r→r.length=f j+oneV a j:=by
  intro j r hj
  rw [List.getElem?_set] at hj
  unfold oneV
  by_cases hja:a=j
  ·rw [if_pos hja,if_pos (by rw [h.e]; exact ha)] at hj
   grind
  ·rw [if_neg hja] at hj
   rw [if_neg (Ne.symm hja),h.r j r hj]; rfl
 have hlb:=mid b rb hrb
 have hkb:=h.k b
 have h1:=cH a b
 rw [hrb,AA,EF (by grind),AA,AA]
 rw [show A4 (st.ends.set a (ra++[(st.pairs.length:Int)])) (b:Int) (rb++[(st.pairs.length:Int)])=some ((st.ends.set a (ra++[(st.pairs.length:Int)])).set b (rb++[(st.pairs.length:Int)])) from rfl,AA]
 refine⟨_,rfl,⟨h.c,h.v,h.t,?_,?_,?_,?_⟩⟩
 ·simp only [List.length_set]; exact h.e
 ·grind [oneV]
 ·intro j
  have:=h.k j
  grind [cH]
 ·have:=h.p
  grind
structure Places (g:Grid) (C V:List (List Int)) (n:Nat):Prop where
 gl:g.shards.length≤4194304
 gs:∀s ∈ g.shards,s.Small
 p:∀a,aliveB g a=true→∃p:Nat,itm C V a=some (p:Int)∧p<n
def cA (C V:List (List Int)) (a:Address) (j:Nat):Nat:=if itm C V a=some (j:Int) then 1 else 0
theorem XZ {C V:List (List Int)} {a:Address} {p:Nat} (h:itm C V a=some (p:Int)) (j:Nat):cA C V a j=oneV p j:=by
 grind [cA,oneV]
def Kx (r:Option (Bool × L27Links)):Prop:=∃s,r=some (false,s)
theorem je {g:Grid} {C V:List (List Int)} {T n:Nat} (hP:Places g C V n) {st:L27Links} {f:Nat→Nat} {K:Nat} (h:InvL C V T n st f K) (hK:K≤1000000) (a b:Address):
  if (aliveB g a&&aliveB g b)=true then ∃st',Bk st g a b=some (true,st')∧InvL C V T n st' (fun j=>f j+(cA C V a j+cA C V b j)) (K+1) else Kx (Bk st g a b):=by
 unfold Bk
 rw [Lk g a hP.gl hP.gs,AA,Lk g b hP.gl hP.gs]
 cases ha:aliveB g a with
 |false=>
  rw [if_neg (by simp),Bool.not_false,if_pos rfl,Cf,if_pos rfl]
  exact⟨st,rfl⟩
 | true=>
  rw [Bool.true_and,Bool.not_true,if_neg Bool.false_ne_true,AA]
  cases hb:aliveB g b with
  |false=>
   rw [if_neg (by simp),Bool.not_false,Cf,if_pos rfl]
   exact⟨st,rfl⟩
  |true=>
   rw [if_pos rfl,Bool.not_true,Cf,if_neg (by simp),Qi,Qi,h.c,h.v]
   obtain⟨p,hp,hpn⟩:=hP.p a ha
   obtain⟨q,hq,hqn⟩:=hP.p b hb
   obtain⟨st',e,hi⟩:=MK h hpn hqn hK
   rw [hp,AA,hq,AA,e,AA]
   refine⟨st',rfl,?_⟩
   grind [XZ]
def cAs (C V:List (List Int)):List Address→Nat→Nat
 | [],_=>0
 |a::l,j=>cA C V a j+cAs C V l j
def seg (b r j:Nat):Nat:=if b≤j∧j<b+r then 1 else 0
theorem Qj (b r j:Nat):seg b (r+1) j=oneV b j+seg (b+1) r j:=by unfold seg oneV; split <;> split <;> split <;> omega
theorem Qk (b j:Nat):seg b 0 j=0:=by unfold seg; split <;> omega
theorem Ql (b r q j:Nat):seg b (r+q) j=seg b r j+seg (b+r) q j:=by unfold seg; split <;> split <;> split <;> omega
theorem kN {g:Grid} {C V:List (List Int)} {T n:Nat} (hP:Places g C V n) (c:ShardCell) (hc:c.Small) (base:Nat) (hb:c.aux.length=0∨base+c.aux.length<n) (hn:n≤1000000000):
  ∀ (post pre:List Address) (st:L27Links) (f:Nat→Nat) (K N:Nat),c.aux=pre++post→InvL C V T n st f K→K+post.length≤1000000→post.length<N→
  if post.all (aliveB g)=true then ∃st',Bt N g c (base:Int) st.agents st.ports st.cells st.vars st.ends st.pairs (pre.length:Int)=some (true,st')∧InvL C V T n st' (fun j=>f j+(seg (base+1+pre.length) post.length j+cAs C V post j)) (K+post.length)
  else Kx (Bt N g c (base:Int) st.agents st.ports st.cells st.vars st.ends st.pairs (pre.length:Int))
 | [],pre,st,f,K,N,h,hi,hK,hN=>by
  obtain⟨N,rfl⟩:∃k,N=k+1:=⟨N - 1,by omega⟩
  have hl:c.aux.length=pre.length:=by rw [h,List.append_nil]
  rw [List.all_nil,if_pos rfl,Bt,decide_eq_false (by omega),if_neg (by simp)]
  refine⟨st,rfl,?_⟩
  have:(fun j=>f j+(seg (base+1+pre.length) ([] :List Address).length j+cAs C V [] j))=f:=funext fun j=>by rw [List.length_nil,Qk,cAs]; rfl
  rw [this]; exact hi
 | x::post,pre,st,f,K,N,h,hi,hK,hN=>by
  have hca:=hc.a
  have hlt:pre.length<c.aux.length:=by rw [h]; simp
  rw [List.length_cons] at hK hN
  obtain⟨N,rfl⟩:∃k,N=k+1:=⟨N - 1,by omega⟩
  rw [Bt,decide_eq_true (by omega),if_pos rfl,Ak h,AA,Lk g x hP.gl hP.gs,AA,List.all_cons]
  cases hx:aliveB g x with
  |false=>
   rw [Bool.false_and,if_neg (by simp),Bool.not_false,if_pos rfl]
   exact⟨_,rfl⟩
  | true=>
   rw [Bool.true_and,Bool.not_true,if_neg Bool.false_ne_true,AA,Qi]
   simp only
   rw [hi.c,hi.v]
   obtain⟨p,hp,hpn⟩:=hP.p x hx
   have hw:IntKind.i64.wrap (IntKind.i64.wrap ((base:Int)+(pre.length:Int))+1)=((base+1+pre.length:Nat):Int):=by
    rw [w64 (n:=(base:Int)+(pre.length:Int)) (by omega) (by omega),w64 (by omega) (by omega)]; omega
   obtain⟨st',e,hi'⟩:=MK (st:=⟨st.agents,st.ports,C,V,st.ends,st.pairs⟩) (a:=base+1+pre.length) (b:=p) (f:=f) (K:=K) (T:=T) (n:=n) (C:=C) (V:=V) ⟨rfl,rfl,hi.t,hi.e,hi.r,hi.k,hi.p⟩ (by omega) hpn (by omega)
   rw [hp,AA,hw,e,AA,AT h (by grind)]
   have ih:=kN hP c hc base hb hn post (pre++[x]) st' _ (K+1) N (Ba h) hi' (by omega) (by omega)
   have hf:∀j,f j+(oneV (base+1+pre.length) j+oneV p j)+(seg (base+1+(pre++[x]).length) post.length j+cAs C V post j)=f j+(seg (base+1+pre.length) (x::post).length j+cAs C V (x::post) j):=by
    grind [Qj,cAs,XZ]
   rw [List.length_cons,show K+(post.length+1)=K+1+post.length by omega]
   simp_all
theorem U3 {α β σ:Type} (l:List α) (p:Nat→α→Bool) (w:α→Nat) (Q:List α→σ→Prop) (L:Nat→σ→Int→Option β) (N:Nat) (G Z:Option β→Prop)
  (hL:∀ (pre:List α) (x:α) (post:List α) (m B:Nat) (st:σ),l=pre++x::post→Q pre st→B+w x≤m→
   if p pre.length x=true then ∃m' st',B≤m'∧Q (pre++[x]) st'∧L m st (pre.length:Int)=L m' st' ((List.length (pre++[x]):Nat):Int) else Z (L m st (pre.length:Int)))
  (hE:∀n st,N≤n→Q l st→G (L n st (l.length:Int))):
  ∀ (post pre:List α) (st:σ) (n:Nat),l=pre++post→Q pre st→N+szw w post≤n→if allI p pre.length post=true then G (L n st (pre.length:Int)) else Z (L n st (pre.length:Int))
 | [],pre,st,n,h,hq,hn=>by
  rw [List.append_nil] at h
  grind [allI]
 | x::post,pre,st,n,h,hq,hn=>by
  simp only [szw] at hn
  have hs:=hL pre x post n (N+szw w post) st h hq (by omega)
  rw [allI]
  cases hp:p pre.length x with
  |false=>
   rw [hp,if_neg (by simp)] at hs
   rw [Bool.false_and,if_neg (by simp)]; exact hs
  |true=>
   rw [hp,if_pos rfl] at hs
   obtain⟨m',st',hm,hq',e⟩:=hs
   rw [Bool.true_and,e]
   have ih:=U3 l p w Q L N G Z hL hE post (pre++[x]) st' m' (Ba h) hq' hm
   rw [List.length_append,List.length_singleton] at ih ⊢
   exact ih
theorem GR {α β:Type} (e:Nat→α→List β):∀ (A B:List α) (k:Nat),AM e k (A++B)=AM e k A++AM e (k+A.length) B
 | [],B,k=>by rw [List.nil_append,AM,List.nil_append,List.length_nil,Nat.add_zero]
 |x::A,B,k=>by rw [List.cons_append,AM,AM,GR e A B (k+1),List.length_cons,List.append_assoc,show k+1+A.length=k+(A.length+1) by omega]
theorem Gu {α β:Type} (e:Nat→α→List β) (A:List α) (x:α):AM e 0 (A++[x])=AM e 0 A++e A.length x:=by
 rw [GR,AM,AM,List.append_nil,Nat.zero_add]
theorem Iu {α β:Type} (e:Nat→α→List β) (q:β→Bool):∀ (l:List α) (k:Nat),allI (fun i x=>(e i x).all q) k l=(AM e k l).all q
 | [],k=>rfl
 |x::l,k=>by rw [allI,AM,List.all_append,Iu e q l (k+1)]
def cT (C V:List (List Int)) (t:Thing) (j:Nat):Nat:=if t.own=false then cA C V t.att j else 0
def cN (C V:List (List Int)):List Statement→Nat→Nat
 | [],_=>0
 |s::l,j=>cT C V s.a j+cT C V s.b j+cN C V l j
theorem U4 {C V:List (List Int)} (j:Nat):∀A B:List Statement,cN C V (A++B) j=cN C V A j+cN C V B j
 | [],B=>by rw [List.nil_append,cN]; omega
 |s::A,B=>by rw [List.cons_append,cN,cN,U4 j A B]; omega
theorem gX {C V:List (List Int)} (a:Address) (j:Nat):∀ (l:List Address) (k:Nat),cN C V (AM (G9 a) k l) j=cAs C V l j
 | [],k=>rfl
 |x::l,k=>by
  rw [AM,U4,gX a j l (k+1),cAs]
  simp [G9,cN,cT,nam]
theorem Xa (a:Address):∀ (l:List Address) (k:Nat),(AM (G9 a) k l).length =l.length
 | [],_=>rfl
 |x::l,k=>by rw [AM,List.length_append,Xa a l (k+1),G9,List.length_cons,List.length_cons,List.length_nil]; omega
theorem cI {g:Grid} (a:Address):∀ (l:List Address) (k:Nat),(AM (G9 a) k l).all (stB g)=l.all (aliveB g)
 | [],_=>rfl
 |x::l,k=>by rw [AM,List.all_append,cI a l (k+1),List.all_cons]; simp [G9,stB,thB,nam]
def Inv2 (C V:List (List Int)) (T n:Nat) (st:L27Links) (O:Nat→Nat) (L:List Statement):Prop:=InvL C V T n st (fun j=>O j+cN C V L j) L.length
theorem OB {C V:List (List Int)} {T n:Nat} {st:L27Links} {f O:Nat→Nat} {K:Nat} {L:List Statement} (h:InvL C V T n st f K) (hf:∀j,f j=O j+cN C V L j) (hK:K=L.length):Inv2 C V T n st O L:=by
 unfold Inv2
 rw [show (fun j=>O j+cN C V L j)=f from funext fun j=>(hf j).symm,← hK]; exact h
theorem gY {g:Grid} {C V:List (List Int)} {T n:Nat} (hP:Places g C V n) {st:L27Links} {O:Nat→Nat} {L:List Statement} (h:Inv2 C V T n st O L) (hK:L.length≤1000000) (a b:Address):
  if List.all [(⟨nam a,nam b⟩:Statement)] (stB g)=true then ∃st',Bk st g a b=some (true,st')∧Inv2 C V T n st' O (L++[⟨nam a,nam b⟩]) else Kx (Bk st g a b):=by
 have h0:=je hP h hK a b
 have e:List.all [(⟨nam a,nam b⟩:Statement)] (stB g)=(aliveB g a&&aliveB g b):=by simp [stB,thB,nam]
 rw [e]
 grind [OB,U4,cN,cT,nam]
theorem pz {g:Grid} {C V:List (List Int)} {T n:Nat} (hP:Places g C V n) (c:ShardCell) (hc:c.Small) (base:Nat) (hb:c.aux.length=0∨base+c.aux.length<n) (hn:n≤1000000000) {st:L27Links} {O:Nat→Nat} {L:List Statement} (h:Inv2 C V T n st O L) (A:Address) (hK:(L++AM (G9 A) 0 c.aux).length ≤1000000):
  if (AM (G9 A) 0 c.aux).all (stB g)=true then ∃st',EU st g c (base:Int)=some (true,st')∧Inv2 C V T n st' (fun j=>O j+seg (base+1) c.aux.length j) (L++AM (G9 A) 0 c.aux) else Kx (EU st g c (base:Int)):=by
 rw [cI]
 rw [List.length_append,Xa] at hK
 have ha:=hc.a
 have h0:=kN hP c hc base hb hn c.aux [] st _ L.length fuel rfl h hK (by rw [Ax]; omega)
 grind [EU,OB,U4,gX,Xa]
theorem Xb:∀A B:List ShardCell,tot (A++B)=tot A+tot B
 | [],B=>by rw [List.nil_append,tot]; omega
 |c::A,B=>by rw [List.cons_append,tot,tot,Xb A B]; omega
theorem ZL:∀A B:List Shard,totS (A++B)=totS A+totS B
 | [],B=>by rw [List.nil_append,totS]; omega
 |c::A,B=>by rw [List.cons_append,totS,totS,ZL A B]; omega
theorem Xc:∀ (A:List ShardCell) (c:ShardCell) (B:List ShardCell) (b:Nat),at? (offs b (A++c::B)) (A.length:Int)=some ((b+tot A:Nat):Int)
 | [],c,B,b=>by rw [List.nil_append,offs,FM,tot,Nat.add_zero]; rfl
 |x::A,c,B,b=>by
  have:=Xc A c B (b+szC x)
  rw [FM] at this
  rw [List.cons_append,offs,FM,List.length_cons,List.getElem?_cons_succ,this,tot,Nat.add_assoc]
theorem cJ:∀ (A:List Shard) (s:Shard) (B:List Shard) (b:Nat),at? (rows b (A++s::B)) (A.length:Int)=some (offs (b+totS A) s.cells)
 | [],s,B,b=>by rw [List.nil_append,rows,FM,totS,Nat.add_zero]; rfl
 |x::A,s,B,b=>by
  have:=cJ A s B (b+tot x.cells)
  rw [FM] at this
  rw [List.cons_append,rows,FM,List.length_cons,List.getElem?_cons_succ,this,totS,Nat.add_assoc]
def PO:Nat→List ShardCell→Nat→Nat
 |_,[],_=>0
 |b,c::l,j=>seg (b+1) c.aux.length j+PO (b+szC c) l j
theorem Ws (j:Nat):∀ (A:List ShardCell) (c:ShardCell) (b:Nat),PO b (A++[c]) j=PO b A j+seg (b+tot A+1) c.aux.length j
 | [],c,b=>by grind [PO,tot]
 |x::A,c,b=>by rw [List.cons_append,PO,PO,Ws j A c,tot,← Nat.add_assoc b]; omega
def Rx:Nat→List Shard→Nat→Nat
 |_,[],_=>0
 |b,s::l,j=>PO b s.cells j+Rx (b+tot s.cells) l j
theorem Wt (j:Nat):∀ (A:List Shard) (s:Shard) (b:Nat),Rx b (A++[s]) j=Rx b A j+PO (b+totS A) s.cells j
 | [],s,b=>by grind [Rx,totS]
 |x::A,s,b=>by rw [List.cons_append,Rx,Rx,Wt j A s,totS,← Nat.add_assoc b]; omega
theorem cK {c:ShardCell} (h:ceB c=true) (h0:c.kind=0):c.aux.length=0:=by
 grind [ceB,emptyB]
def eG (C V:List (List Int)) (T n:Nat) (g:Grid) (O:Nat→Nat) (L:List Statement) (B:Nat) (k:Int) (r:Option (Bool × L27Links)):Prop:=
 ∃m' st',B≤m'∧Inv2 C V T n st' O L∧r=DS m' g st'.agents st'.ports st'.cells st'.vars st'.ends st'.pairs k
theorem jf {g:Grid} {C V:List (List Int)} {T n:Nat} (hP:Places g C V n) (m:Nat) (s:Shard) (hm:at? g.shards (m:Int)=some s) (hs:s.Small) (hv:s.vars.all vaB=true) (O:Nat→Nat) (L:List Statement) (hL:(L++AM (FN (m:Int)) 0 s.vars).length ≤1000000) (B:Nat) (st:L27Links) (h:Inv2 C V T n st O L) (N:Nat) (hN:B+1+2*s.vars.length≤N):
  if (AM (FN (m:Int)) 0 s.vars).all (stB g)=true then eG C V T n g O (L++AM (FN (m:Int)) 0 s.vars) B (IntKind.i64.wrap ((m:Int)+1)) (DV N g (m:Int) s st.agents st.ports st.cells st.vars st.ends st.pairs 0) else Kx (DV N g (m:Int) s st.agents st.ports st.cells st.vars st.ends st.pairs 0):=by
 have hvl:=hs.vl
 have h0:=U3 s.vars (fun i x=>(FN (m:Int) i x).all (stB g)) (fun _=>2) (fun pre st=>Inv2 C V T n st O (L++AM (FN (m:Int)) 0 pre)) (fun N st k=>DV N g (m:Int) s st.agents st.ports st.cells st.vars st.ends st.pairs k) (B+1) (eG C V T n g O (L++AM (FN (m:Int)) 0 s.vars) B (IntKind.i64.wrap ((m:Int)+1))) Kx ?_ ?_ s.vars [] st N rfl (by grind [AM]) (by rw [Bc]; omega)
 ·rw [Iu] at h0; exact h0
 ·intro pre x post k B' st' hpx hq hk
  obtain⟨k,rfl⟩:∃j,k=j+2:=⟨k - 2,by omega⟩
  have hlt:pre.length<s.vars.length:=by rw [hpx]; simp
  have hlen:(L++AM (FN (m:Int)) 0 pre).length ≤1000000:=by
   rw [hpx,GR,← List.append_assoc,List.length_append] at hL; omega
  rw [DV,decide_eq_true (by omega),if_pos rfl,Ak hpx,AA,Gu]
  cases hf:x.full with
  |false=>
   have hvs:FN (m:Int) pre.length x=[] :=by unfold FN; rw [hf,if_neg (by simp)]
   rw [hvs,List.all_nil,if_pos rfl,if_neg (by simp),Ew,if_neg (by simp),AT hpx (by grind),List.append_nil]
   grind
  | true=>
   have hvs:FN (m:Int) pre.length x=[⟨nam ⟨m,2,(pre.length:Int)⟩,nam x.held⟩] :=by unfold FN; rw [hf,if_pos rfl]
   have hp:=gY hP hq hlen ⟨m,2,(pre.length:Int)⟩ x.held
   rw [hvs,if_pos rfl,AA]
   cases hb:List.all [(⟨nam ⟨m,2,(pre.length:Int)⟩,nam x.held⟩:Statement)] (stB g) with
   |false=>
    rw [hb,if_neg (by simp)] at hp
    rw [if_neg (by simp)]
    obtain⟨s2,e⟩:=hp
    rw [e,AA,Ew]
    simp only
    rw [Bool.not_false,if_pos rfl]
    exact⟨_,rfl⟩
   |true=>
    rw [hb,if_pos rfl] at hp
    rw [if_pos rfl]
    obtain⟨s2,e,hi⟩:=hp
    rw [e,AA,Ew]
    simp only
    rw [Bool.not_true,if_neg (by simp),AT hpx (by grind),← List.append_assoc]
    grind
 ·intro k st' hk hq
  obtain⟨k,rfl⟩:∃j,k=j+1:=⟨k - 1,by omega⟩
  rw [DV,decide_eq_false (by omega),if_neg (by simp)]
  exact⟨k,st',by omega,hq,rfl⟩
theorem jg {g:Grid} {C V:List (List Int)} {T n:Nat} (hP:Places g C V n) (m:Nat) (s:Shard) (hm:at? g.shards (m:Int)=some s) (hs:s.Small) (hv:s.vars.all vaB=true) (O:Nat→Nat) (L:List Statement) (hL:(L++(AM Ig 0 s.redexes++AM (FN (m:Int)) 0 s.vars)).length ≤1000000) (B:Nat) (st:L27Links) (h:Inv2 C V T n st O L) (N:Nat) (hN:B+2+(s.redexes.length+2*s.vars.length)≤N):
  if (AM Ig 0 s.redexes++AM (FN (m:Int)) 0 s.vars).all (stB g)=true then eG C V T n g O (L++(AM Ig 0 s.redexes++AM (FN (m:Int)) 0 s.vars)) B (IntKind.i64.wrap ((m:Int)+1)) (DU N g (m:Int) s st.agents st.ports st.cells st.vars st.ends st.pairs 0) else Kx (DU N g (m:Int) s st.agents st.ports st.cells st.vars st.ends st.pairs 0):=by
 have hvl:=hs.vl
 have hrl:=hs.rl
 have h0:=U3 s.redexes (fun i x=>(Ig i x).all (stB g)) (fun _=>1) (fun pre st=>Inv2 C V T n st O (L++AM Ig 0 pre)) (fun N st k=>DU N g (m:Int) s st.agents st.ports st.cells st.vars st.ends st.pairs k) (B+2+2*s.vars.length)
  (fun r=>if (AM (FN (m:Int)) 0 s.vars).all (stB g)=true then eG C V T n g O (L++(AM Ig 0 s.redexes++AM (FN (m:Int)) 0 s.vars)) B (IntKind.i64.wrap ((m:Int)+1)) r else Kx r) Kx ?_ ?_ s.redexes [] st N rfl (by grind [AM]) (by rw [Bc]; omega)
 ·rw [Iu,List.length_nil] at h0
  rw [List.all_append]
  grind
 ·intro pre x post k B' st' hpx hq hk
  obtain⟨k,rfl⟩:∃j,k=j+1:=⟨k - 1,by omega⟩
  have hlt:pre.length<s.redexes.length:=by rw [hpx]; simp
  have hlen:(L++AM Ig 0 pre).length ≤1000000:=by
   rw [hpx,GR,List.append_assoc,← List.append_assoc,List.length_append] at hL; omega
  have hp:=gY hP hq hlen x.a x.b
  rw [DU,decide_eq_true (by omega),if_pos rfl,Ak hpx,AA,AA,Gu,Ig]
  cases hb:List.all [(⟨nam x.a,nam x.b⟩:Statement)] (stB g) with
  |false=>
   rw [hb,if_neg Bool.false_ne_true] at hp
   rw [if_neg Bool.false_ne_true]
   obtain⟨s2,e⟩:=hp
   rw [e,AA]
   simp only
   rw [Bool.not_false,if_pos rfl]
   exact⟨_,rfl⟩
  |true=>
   rw [hb,if_pos rfl] at hp
   rw [if_pos rfl]
   obtain⟨s2,e,hi⟩:=hp
   rw [e,AA]
   simp only
   rw [Bool.not_true,if_neg Bool.false_ne_true,AT hpx (by grind),← List.append_assoc]
   grind
 ·intro k st' hk hq
  obtain⟨k,rfl⟩:∃j,k=j+1:=⟨k - 1,by omega⟩
  have:=jf hP m s hm hs hv O (L++AM Ig 0 s.redexes) (by rw [List.append_assoc]; exact hL) B st' hq k (by omega)
  rw [List.append_assoc] at this
  rw [DU,decide_eq_false (by omega),if_neg Bool.false_ne_true]
  omega
structure ShTab (C:List (List Int)) (n:Nat) (m b:Nat) (s:Shard):Prop where
 c:at? C (m:Int)=some (offs b s.cells)
 n:b+tot s.cells≤n
theorem gZ {g:Grid} {C V:List (List Int)} {T n:Nat} (hP:Places g C V n) (hn:n≤1000000000) (m b:Nat) (s:Shard) (hm:at? g.shards (m:Int)=some s) (hs:s.Small) (hv:s.vars.all vaB=true) (hc:s.cells.all ceB=true) (hT:ShTab C n m b s) (O:Nat→Nat) (L:List Statement) (hL:(L++E4 m s).length ≤1000000) (B:Nat) (st:L27Links) (h:Inv2 C V T n st O L) (N:Nat) (hN:B+3+(s.cells.length+(s.redexes.length+2*s.vars.length))≤N):
  if (E4 m s).all (stB g)=true then eG C V T n g (fun j=>O j+PO b s.cells j) (L++E4 m s) B (IntKind.i64.wrap ((m:Int)+1)) (DT N g (m:Int) s st.agents st.ports st.cells st.vars st.ends st.pairs 0) else Kx (DT N g (m:Int) s st.agents st.ports st.cells st.vars st.ends st.pairs 0):=by
 have hcl:=hs.cl
 unfold E4 at hL ⊢
 have h0:=U3 s.cells (fun i x=>(IV (m:Int) i x).all (stB g)) (fun _=>1) (fun pre st=>Inv2 C V T n st (fun j=>O j+PO b pre j) (L++AM (IV (m:Int)) 0 pre)) (fun N st k=>DT N g (m:Int) s st.agents st.ports st.cells st.vars st.ends st.pairs k) (B+3+(s.redexes.length+2*s.vars.length))
  (fun r=>if (AM Ig 0 s.redexes++AM (FN (m:Int)) 0 s.vars).all (stB g)=true then eG C V T n g (fun j=>O j+PO b s.cells j) (L++(AM (IV (m:Int)) 0 s.cells++(AM Ig 0 s.redexes++AM (FN (m:Int)) 0 s.vars))) B (IntKind.i64.wrap ((m:Int)+1)) r else Kx r) Kx ?_ ?_ s.cells [] st N rfl (by simp_all [AM,PO]) (by rw [Bc]; omega)
 ·rw [Iu,List.length_nil] at h0
  rw [List.all_append (xs:=AM (IV (m:Int)) 0 s.cells)]
  grind
 ·intro pre x post k B' st' hpx hq hk
  obtain⟨k,rfl⟩:∃j,k=j+1:=⟨k - 1,by omega⟩
  have hlt:pre.length<s.cells.length:=by rw [hpx]; simp
  have hx:x ∈ s.cells:=by rw [hpx]; simp
  have hlen:(L++AM (IV (m:Int)) 0 pre++AM (G9 ⟨m,1,(pre.length:Int)⟩) 0 x.aux).length ≤1000000:=by
   rw [hpx,GR,AM,Nat.zero_add] at hL
   grind [IV]
  have hn':=hT.n
  have htot:b+tot pre+szC x≤n:=by rw [hpx,Xb,tot] at hn'; omega
  have hb:x.aux.length=0∨b+tot pre+x.aux.length<n:=by
   grind [cK,szC]
  have hp:=pz hP x (hs.c x hx) (b+tot pre) hb hn hq ⟨m,1,(pre.length:Int)⟩ hlen
  rw [DT,decide_eq_true (by omega),if_pos rfl,Ak hpx,AA,hq.c,hT.c,AA,hpx,Xc,AA,show (⟨st'.agents,st'.ports,C,st'.vars,st'.ends,st'.pairs⟩:L27Links)=st' by rw [← hq.c],Gu,IV]
  cases hb:(AM (G9 ⟨m,1,(pre.length:Int)⟩) 0 x.aux).all (stB g) with
  |false=>
   rw [hb,if_neg Bool.false_ne_true] at hp
   rw [if_neg Bool.false_ne_true]
   obtain⟨s2,e⟩:=hp
   rw [e,AA]
   simp only
   rw [Bool.not_false,if_pos rfl]
   exact⟨_,rfl⟩
  |true=>
   rw [hb,if_pos rfl] at hp
   rw [if_pos rfl]
   obtain⟨s2,e,hi⟩:=hp
   rw [e,AA]
   simp only
   rw [Bool.not_true,if_neg Bool.false_ne_true,AT hpx (by grind),← List.append_assoc]
   refine⟨k,s2,by omega,?_,rfl⟩
   grind [Ws]
 ·intro k st' hk hq
  obtain⟨k,rfl⟩:∃j,k=j+1:=⟨k - 1,by omega⟩
  have:=jg hP m s hm hs hv _ (L++AM (IV (m:Int)) 0 s.cells) (by rw [List.append_assoc]; exact hL) B st' hq k (by omega)
  rw [List.append_assoc L] at this
  rw [DT,decide_eq_false (by omega),if_neg Bool.false_ne_true]
  omega
def ZM (s:Shard):Nat:=4+(s.cells.length+(s.redexes.length+2*s.vars.length))
theorem mV {g:Grid} {V:List (List Int)} {T n:Nat} (hP:Places g (rows 1 g.shards) V n) (hn:n≤1000000000) (hG:g.shards.all shB=true) (ht:1+totS g.shards≤n) (hw:szw ZM g.shards≤1000000000) (hL:(It g).length ≤1000000) (st:L27Links) (h:Inv2 (rows 1 g.shards) V T n st (fun _=>0) []):
  if (It g).all (stB g)=true then ∃st',JG g st=some (true,st')∧Inv2 (rows 1 g.shards) V T n st' (fun j=>oneV 0 j+Rx 1 g.shards j) (It g) else Kx (JG g st):=by
 have hgl:=hP.gl
 unfold JG
 unfold It at hL ⊢
 rw [Lk g g.root hP.gl hP.gs,AA,List.all_cons,show stB g (NT g)=aliveB g g.root by rfl]
 cases hr:aliveB g g.root with
 |false=>
  rw [Bool.false_and,if_neg Bool.false_ne_true,Bool.not_false,if_pos rfl]
  exact⟨_,rfl⟩
 | true=>
  obtain⟨p,hp,hpn⟩:=hP.p _ hr
  obtain⟨s1,e1,h1⟩:=MK (a:=0) h (by omega) hpn (by simp)
  rw [show ((0:Nat):Int)=0 from rfl] at e1
  rw [Bool.true_and,Bool.not_true,if_neg Bool.false_ne_true,Qi,h.c,h.v,hp,AA,e1,AA]
  have h2:Inv2 (rows 1 g.shards) V T n s1 (fun j=>oneV 0 j) [NT g] :=OB h1 (fun j=>by simp [cN,cT,NT,nam,XZ hp]) rfl
  have h0:=U3 g.shards (fun i x=>(E4 i x).all (stB g)) ZM (fun pre st=>Inv2 (rows 1 g.shards) V T n st (fun j=>oneV 0 j+Rx 1 pre j) (NT g::AM E4 0 pre)) (fun N st k=>DS N g st.agents st.ports st.cells st.vars st.ends st.pairs k) 1
   (fun r=>∃st',r=some (true,st')∧Inv2 (rows 1 g.shards) V T n st' (fun j=>oneV 0 j+Rx 1 g.shards j) (NT g::AM E4 0 g.shards)) Kx ?_ ?_ g.shards [] s1 fuel rfl (by grind [AM,Rx]) (by rw [Ax]; omega)
  ·rw [Iu,List.length_nil] at h0; exact h0
  ·intro pre x post k B' st' hpx hq hk
   unfold ZM at hk
   obtain⟨k,rfl⟩:∃j,k=j+1:=⟨k - 1,by omega⟩
   have hlt:pre.length<g.shards.length:=by rw [hpx]; simp
   have hx:x ∈ g.shards:=by rw [hpx]; simp
   have hxb:=List.all_eq_true.mp hG x hx
   unfold shB at hxb
   simp only [Bool.and_eq_true] at hxb
   have hlen:(NT g::AM E4 0 pre++E4 pre.length x).length ≤1000000:=by
    rw [hpx,GR,AM,Nat.zero_add] at hL
    grind
   have hT:ShTab (rows 1 g.shards) n pre.length (1+totS pre) x:=⟨by rw [hpx,cJ],by rw [hpx,ZL,totS] at ht; omega⟩
   have:=gZ hP hn pre.length (1+totS pre) x (Ak hpx) (hP.gs x hx) hxb.2.2 hxb.2.1 hT _ _ hlen B' st' hq k (by omega)
   rw [DS,decide_eq_true (by omega),if_pos rfl,Ak hpx,AA]
   cases hb:(E4 pre.length x).all (stB g) with
   |false=>rw [hb,if_neg Bool.false_ne_true] at this; rw [if_neg Bool.false_ne_true]; omega
   | true=>
    rw [hb,if_pos rfl] at this
    rw [if_pos rfl]
    obtain⟨m',s2,hm',hi,e⟩:=this
    refine⟨m',s2,hm',?_,?_⟩
    ·rw [Gu]
     grind [Wt]
    grind [AT]
  ·intro k st' hk hq
   obtain⟨k,rfl⟩:∃j,k=j+1:=⟨k - 1,by omega⟩
   rw [DS,decide_eq_false (by omega),if_neg Bool.false_ne_true]
   grind
def pc1 (_:Nat) (p:Parcel):List ShardCell:=if p.kind=3 then [p.cell] else []
def pcC (_:Nat) (x:List Parcel):List ShardCell:=AM pc1 0 x
def pcA (c:Cluster):List ShardCell:=AM pcC 0 c.channels
theorem jh (b r j:Nat):seg b (r+1) j=oneV b j+seg (b+1) r j:=Qj b r j
def Ll:Nat→List ShardCell→Nat→Nat
 |_,[],_=>0
 |b,c::l,j=>seg b (c.aux.length+1) j+Ll (b+szC c) l j
theorem ZN (j:Nat):∀ (A B:List ShardCell) (b:Nat),Ll b (A++B) j=Ll b A j+Ll (b+tot A) B j
 | [],B,b=>by grind [Ll,tot]
 |x::A,B,b=>by rw [List.cons_append,Ll,Ll,ZN j A B,tot,← Nat.add_assoc b]; omega
def ZO (r:Option (L27Links × Bool)):Prop:=∃s,r=some (s,false)
theorem pa3 {p:Parcel} {to:Int} (h:paB p to=true) (h3:p.kind=3):p.cell.kind≠0:=by
 grind [paB]
structure ParTab (c:Cluster) (C V:List (List Int)) (T n b0:Nat) (lk:L27Links × List Int):Prop where
 pl:Places c.grid C V n
 nn:n≤1000000000
 h:lk.2 =offs b0 (pcA c)
 t:b0+tot (pcA c)≤n
 s:c.Small
 k:(pcA c).length ≤4194304
def kO (C V:List (List Int)) (T n:Nat) (c:Cluster) (lk:L27Links × List Int) (O:Nat→Nat) (L:List Statement) (B:Nat) (h k:Int) (r:Option (L27Links × Bool)):Prop:=
 ∃m' st',B≤m'∧Inv2 C V T n st' O L∧r=BG m' c lk st'.agents st'.ports st'.cells st'.vars st'.ends st'.pairs h k
theorem ji {c:Cluster} {C V:List (List Int)} {T n b0:Nat} {lk:L27Links × List Int} (hT:ParTab c C V T n b0 lk) (i:Nat) (x:List Parcel) (to:Int) (hi:at? c.channels (i:Int)=some x) (hx:x.all (fun p=>paB p to)=true) (hxs:x.length≤4194304∧∀p ∈ x,p.cell.Small) (D E:List ShardCell) (hD:pcA c=D++(pcC i x++E))
  (O:Nat→Nat) (L:List Statement) (hL:(L++GU i x).length ≤1000000) (B:Nat) (st:L27Links) (h:Inv2 C V T n st (fun j=>O j+Ll b0 D j) L) (N:Nat) (hN:B+1+3*x.length≤N):
  if (GU i x).all (stB c.grid)=true then kO C V T n c lk (fun j=>O j+Ll b0 (D++pcC i x) j) (L++GU i x) B (((D++pcC i x).length :Nat):Int) (IntKind.i64.wrap ((i:Int)+1)) (BH N c (i:Int) lk st.agents st.ports st.cells st.vars st.ends st.pairs ((D.length:Nat):Int) 0)
  else ZO (BH N c (i:Int) lk st.agents st.ports st.cells st.vars st.ends st.pairs ((D.length:Nat):Int) 0):=by
 unfold GU at hL ⊢
 have h0:=U3 (σ:=L27Links × Int) x (fun k p=>(GA (i:Int) k p).all (stB c.grid)) (fun _=>3) (fun pre s=>Inv2 C V T n s.1 (fun j=>O j+Ll b0 (D++AM pc1 0 pre) j) (L++AM (GA (i:Int)) 0 pre)∧s.2 =(((D++AM pc1 0 pre).length :Nat):Int))
  (fun N s k=>BH N c (i:Int) lk s.1.agents s.1.ports s.1.cells s.1.vars s.1.ends s.1.pairs s.2 k) (B+1)
  (kO C V T n c lk (fun j=>O j+Ll b0 (D++pcC i x) j) (L++AM (GA (i:Int)) 0 x) B (((D++pcC i x).length :Nat):Int) (IntKind.i64.wrap ((i:Int)+1))) ZO ?_ ?_ x [] (st,((D.length:Nat):Int)) N rfl ⟨by grind [AM],by simp [AM]⟩ (by rw [Bc]; omega)
 ·rw [Iu,List.length_nil] at h0; exact h0
 ·intro pre p post k B' st' hpx hq hk
  obtain⟨st',hh⟩:=st'
  obtain⟨hq,hhe⟩:=hq
  simp only at hq hhe
  obtain⟨k,rfl⟩:∃j,k=j+3:=⟨k - 3,by omega⟩
  have hlt:pre.length<x.length:=by rw [hpx]; simp
  have hx0:=hxs.1
  have hpm:p ∈ x:=by rw [hpx]; simp
  have hpb:=List.all_eq_true.mp hx p hpm
  have hlen:(L++AM (GA (i:Int)) 0 pre++GA (i:Int) pre.length p).length ≤1000000:=by
   rw [hpx,GR,AM,Nat.zero_add] at hL
   grind
  simp only
  rw [BH,hi,AA,decide_eq_true (by omega),if_pos rfl,AA,Ak hpx,AA,Gu,Gu]
  have e12:p.kind=1∨p.kind=2→B5 (k+2) c (i:Int) st'.agents st'.ports st'.cells st'.vars st'.ends st'.pairs hh (pre.length:Int) lk p true=((Bk st' c.grid p.a p.b).bind fun v=>if (!v.1)=true then some (v.2,false) else BH (k+1) c (i:Int) lk v.2.agents v.2.ports v.2.cells v.2.vars v.2.ends v.2.pairs hh (((pre++[p]).length :Nat):Int)):=fun _=>by
   rw [B5,if_pos rfl,AT hpx (by grind)]
  have pairs:p.kind=1∨p.kind=2→if (GA (i:Int) pre.length p).all (stB c.grid)=true then ∃ (m':Nat) (st'':L27Links × Int),B'≤m'∧(Inv2 C V T n st''.1 (fun j=>O j+Ll b0 (D++(AM pc1 0 pre++pc1 pre.length p)) j) (L++(AM (GA (i:Int)) 0 pre++GA (i:Int) pre.length p))∧st''.2 =(((D++(AM pc1 0 pre++pc1 pre.length p)).length :Nat):Int))∧B5 (k+2) c (i:Int) st'.agents st'.ports st'.cells st'.vars st'.ends st'.pairs hh (pre.length:Int) lk p true=BH m' c (i:Int) lk st''.1.agents st''.1.ports st''.1.cells st''.1.vars st''.1.ends st''.1.pairs st''.2 (((pre++[p]).length :Nat):Int)
    else ZO (B5 (k+2) c (i:Int) st'.agents st'.ports st'.cells st'.vars st'.ends st'.pairs hh (pre.length:Int) lk p true):=fun h12=>by
   rw [e12 h12]
   have hps:GA (i:Int) pre.length p=[⟨nam p.a,nam p.b⟩] :=by unfold GA; rw [if_pos h12]
   have hpc:pc1 pre.length p=[] :=by unfold pc1; rw [if_neg (by omega)]
   have hp:=gY hT.pl hq (by rw [List.length_append] at hlen; omega) p.a p.b
   rw [hps,hpc,List.append_nil]
   cases hb:List.all [(⟨nam p.a,nam p.b⟩:Statement)] (stB c.grid) with
   |false=>
    rw [hb,if_neg Bool.false_ne_true] at hp
    rw [if_neg Bool.false_ne_true]
    obtain⟨s2,e⟩:=hp
    rw [e,AA]
    exact⟨s2,rfl⟩
   |true=>
    rw [hb,if_pos rfl] at hp
    rw [if_pos rfl]
    obtain⟨s2,e,hi2⟩:=hp
    rw [e,AA]
    exact⟨k+1,(s2,hh),by omega,⟨by rw [← List.append_assoc]; omega,hhe⟩,rfl⟩
  by_cases k1:p.kind=1
  ·rw [decide_eq_true k1,if_pos rfl]; simp_all
  ·rw [decide_eq_false k1,if_neg Bool.false_ne_true]
   by_cases k2:p.kind=2
   ·rw [decide_eq_true k2]; simp_all
   ·rw [decide_eq_false k2]
    by_cases k3:p.kind=3
    ·have hps:GA (i:Int) pre.length p=AM (G9 ⟨i,3,(pre.length:Int)⟩) 0 p.cell.aux++[⟨⟨⟨i,3,(pre.length:Int)⟩,0,true⟩,nam p.b⟩] :=by unfold GA; rw [if_neg (by omega),if_pos k3]
     have hpc:pc1 pre.length p=[p.cell] :=by unfold pc1; rw [if_pos k3]
     have hcd:pcA c=(D++AM pc1 0 pre)++p.cell::(AM pc1 (pre.length+1) post++E):=by
      rw [hD,pcC,hpx,GR,AM,Nat.zero_add,hpc]; grind
     have hsz:szC p.cell=p.cell.aux.length+1:=by unfold szC; rw [if_neg (pa3 hpb k3)]
     have hbn:b0+tot (D++AM pc1 0 pre)+p.cell.aux.length<n:=by
      have:=hT.t
      rw [hcd,Xb,tot] at this; omega
     have hp:=pz hT.pl p.cell (hxs.2 p hpm) (b0+tot (D++AM pc1 0 pre)) (Or.inr hbn) hT.nn hq ⟨i,3,(pre.length:Int)⟩ (by rw [hps] at hlen; grind)
     have hat:at? lk.2 hh=some ((b0+tot (D++AM pc1 0 pre):Nat):Int):=by rw [hT.h,hhe,hcd,Xc]
     have hhl:(D++AM pc1 0 pre).length <(pcA c).length :=by rw [hcd]; simp
     have hkk:=hT.k
     rw [B5,if_neg Bool.false_ne_true,decide_eq_true k3,if_pos rfl,hat,AA,hps,hpc,List.all_append]
     cases hb:(AM (G9 ⟨i,3,(pre.length:Int)⟩) 0 p.cell.aux).all (stB c.grid) with
     |false=>
      rw [hb,if_neg Bool.false_ne_true] at hp
      rw [Bool.false_and,if_neg Bool.false_ne_true]
      obtain⟨s2,e⟩:=hp
      rw [show (⟨st'.agents,st'.ports,st'.cells,st'.vars,st'.ends,st'.pairs⟩:L27Links)=st' from rfl,e,AA]
      simp only
      rw [Bool.not_false,if_pos rfl,C7,if_pos rfl]
      exact⟨s2,rfl⟩
     | true=>
      rw [hb,if_pos rfl] at hp
      obtain⟨s2,e,hi2⟩:=hp
      rw [Bool.true_and,show List.all [(⟨⟨⟨i,3,(pre.length:Int)⟩,0,true⟩,nam p.b⟩:Statement)] (stB c.grid)=aliveB c.grid p.b by simp [stB,thB,nam]]
      rw [show (⟨st'.agents,st'.ports,st'.cells,st'.vars,st'.ends,st'.pairs⟩:L27Links)=st' from rfl,e,AA]
      simp only
      rw [Bool.not_true,Lk c.grid p.b hT.pl.gl hT.pl.gs,AA]
      cases hbb:aliveB c.grid p.b with
      |false=>
       rw [if_neg Bool.false_ne_true,if_neg Bool.false_ne_true,Bool.not_false,C7,if_pos rfl]
       exact⟨s2,rfl⟩
      | true=>
       obtain⟨q,hqp,hqn⟩:=hT.pl.p _ hbb
       obtain⟨s3,e3,hi3⟩:=MK hi2 (a:=b0+tot (D++AM pc1 0 pre)) (by omega) hqn (by rw [hps] at hlen; grind)
       rw [if_pos rfl,if_neg Bool.false_ne_true,Bool.not_true,C7,if_neg Bool.false_ne_true,hat,AA,Qi,hi2.c,hi2.v,hqp,AA,e3,AA,AT hpx (by grind)]
       refine⟨k,(s3,IntKind.i64.wrap (hh+1)),by omega,⟨OB hi3 (fun j=>?_) ?_,?_⟩,rfl⟩
       ·rw [← List.append_assoc D,ZN j (D++AM pc1 0 pre)]
        grind [Ll,U4,cN,cT,nam,jh,XZ]
       ·grind
       grind [w64]
    ·have hps:GA (i:Int) pre.length p=[] :=by unfold GA; rw [if_neg (by omega),if_neg k3]
     have hpc:pc1 pre.length p=[] :=by unfold pc1; rw [if_neg k3]
     rw [B5,if_neg Bool.false_ne_true,decide_eq_false k3,if_neg Bool.false_ne_true,hps,hpc,List.all_nil,if_pos rfl,AT hpx (by grind),List.append_nil,List.append_nil]
     exact⟨k+1,(st',hh),by omega,⟨hq,hhe⟩,rfl⟩
 ·intro k st' hk hq
  obtain⟨st',hh⟩:=st'
  obtain⟨hq,hhe⟩:=hq
  simp only at hq hhe
  obtain⟨k,rfl⟩:∃j,k=j+1:=⟨k - 1,by omega⟩
  simp only
  rw [BH,hi,AA,decide_eq_false (by omega),if_neg Bool.false_ne_true,hhe]
  exact⟨k,st',by omega,hq,rfl⟩
theorem mW {c:Cluster} {C V:List (List Int)} {T n b0:Nat} {lk:L27Links × List Int} (hT:ParTab c C V T n b0 lk) (k:Nat) (hc:allI (chB k) 0 c.channels=true) (hw:szw (fun x=>2+3*List.length x) c.channels≤1000000000)
  (O:Nat→Nat) (L:List Statement) (hL:(L++KU c).length ≤1000000) (st:L27Links) (h:Inv2 C V T n st O L):
  if (KU c).all (stB c.grid)=true then ∃st',BG fuel c lk st.agents st.ports st.cells st.vars st.ends st.pairs 0 0=some (st',true)∧Inv2 C V T n st' (fun j=>O j+Ll b0 (pcA c) j) (L++KU c)
  else ZO (BG fuel c lk st.agents st.ports st.cells st.vars st.ends st.pairs 0 0):=by
 have hcl:=hT.s.chl
 unfold KU at hL ⊢
 have h0:=U3 (σ:=L27Links × Int) c.channels (fun i x=>(GU i x).all (stB c.grid)) (fun x=>2+3*List.length x) (fun pre s=>Inv2 C V T n s.1 (fun j=>O j+Ll b0 (AM pcC 0 pre) j) (L++AM GU 0 pre)∧s.2 =(((AM pcC 0 pre).length :Nat):Int))
  (fun N s k=>BG N c lk s.1.agents s.1.ports s.1.cells s.1.vars s.1.ends s.1.pairs s.2 k) 1
  (fun r=>∃st',r=some (st',true)∧Inv2 C V T n st' (fun j=>O j+Ll b0 (pcA c) j) (L++AM GU 0 c.channels)) ZO ?_ ?_ c.channels [] (st,0) fuel rfl ⟨by simp_all [AM,Ll],by rfl⟩ (by rw [Ax]; omega)
 ·rw [Iu,List.length_nil] at h0; exact h0
 ·intro pre x post m B' st' hpx hq hk
  obtain⟨st',hh⟩:=st'
  obtain⟨hq,hhe⟩:=hq
  simp only at hq hhe
  obtain⟨m,rfl⟩:∃j,m=j+1:=⟨m - 1,by omega⟩
  have hlt:pre.length<c.channels.length:=by rw [hpx]; simp
  have hxm:x ∈ c.channels:=by rw [hpx]; simp
  have hcx:=Ef.mp hc pre.length x (by rw [hpx]; simp)
  unfold chB at hcx
  simp only [Bool.and_eq_true] at hcx
  have hlen:(L++AM GU 0 pre++GU pre.length x).length ≤1000000:=by
   rw [hpx,GR,AM,Nat.zero_add] at hL
   grind
  have hD:pcA c=AM pcC 0 pre++(pcC pre.length x++AM pcC (pre.length+1) post):=by
   unfold pcA; rw [hpx,GR,AM,Nat.zero_add]
  have:=ji hT pre.length x _ (Ak hpx) hcx.2 (hT.s.ch x hxm) (AM pcC 0 pre) _ hD O (L++AM GU 0 pre) hlen B' st' hq m (by omega)
  simp only
  rw [BG,decide_eq_true (by omega),if_pos rfl,hhe,Gu,Gu]
  cases hb:(GU pre.length x).all (stB c.grid) with
  |false=>rw [hb,if_neg Bool.false_ne_true] at this; rw [if_neg Bool.false_ne_true]; omega
  |true=>
   rw [hb,if_pos rfl] at this
   rw [if_pos rfl]
   obtain⟨m',s2,hm',hi,e⟩:=this
   refine⟨m',(s2,(((AM pcC 0 pre++pcC pre.length x).length :Nat):Int)),hm',⟨by rw [← List.append_assoc L]; exact hi,rfl⟩,?_⟩
   rw [e,AT hpx (by grind)]
 ·intro m st' hk hq
  obtain⟨st',hh⟩:=st'
  obtain⟨hq,hhe⟩:=hq
  obtain⟨m,rfl⟩:∃j,m=j+1:=⟨m - 1,by omega⟩
  simp only
  rw [BG,decide_eq_false (by omega),if_neg Bool.false_ne_true]
  exact⟨st',rfl,hq⟩
theorem mX (c:Cluster) (i:Nat) (x:List Parcel) (hi:at? c.channels (i:Int)=some x) (hx:x.length≤4194304) (Z:Option (L27Links × Bool)) (N:Nat) (acc:List ShardCell) (hB:(acc++pcC i x).length ≤Big) (hZ:∀n,N≤n→B6 n c (acc++pcC i x) (IntKind.i64.wrap ((i:Int)+1))=Z):∀n,N+1+x.length≤n→B7 n c (i:Int) acc 0=Z:=by
 intro n hn
 refine Oo x pc1 (fun _=>1) (fun n acc j=>B7 n c (i:Int) acc j) (acc++pcC i x) Z (N+1) ?_ ?_ hB x [] acc n rfl rfl (by rw [Bc]; omega)
 ·intro pre p post acc k B R h hB hR hm
  obtain⟨k,rfl⟩:∃j,k=j+1:=⟨k - 1,by omega⟩
  have hR':=hR k (by omega)
  have hlt:pre.length<x.length:=by rw [h]; simp
  show B7 (k+1) c (i:Int) acc (pre.length:Int)=R
  rw [B7,hi,AA,decide_eq_true (by omega),if_pos rfl,AA,Ak h,AA,AA,Ak h,AA,AT h (by grind)]
  grind [pc1,EF]
 ·intro n hn
  obtain⟨n,rfl⟩:∃k,n=k+1:=⟨n - 1,by omega⟩
  grind [B7]
theorem p3 (c:Cluster) (hc:c.Small) (Z:Option (L27Links × Bool)) (hB:(pcA c).length ≤Big)
  (hZ:((He c.grid (pcA c)).bind fun v=>(JG c.grid v.1).bind fun u=>if (!u.1)=true then some (u.2,false) else BG fuel c v u.2.agents u.2.ports u.2.cells u.2.vars u.2.ends u.2.pairs 0 0)=Z):Hf c=Z:=by
 have h1:=hc.chl
 unfold Hf
 refine Oo c.channels pcC (fun x=>2+List.length x) (fun n acc i=>B6 n c acc i) (pcA c) Z 1 ?_ ?_ hB c.channels [] [] fuel rfl rfl (by have:=hc.chw; rw [Ax]; omega)
 ·intro pre x post acc k B R h hB hR hm
  obtain⟨k,rfl⟩:∃j,k=j+1:=⟨k - 1,by omega⟩
  have hlt:pre.length<c.channels.length:=by rw [h]; simp
  show B6 (k+1) c acc (pre.length:Int)=R
  rw [B6,decide_eq_true (by omega),if_pos rfl]
  exact mX c pre.length x (Ak h) (hc.ch x (by rw [h]; simp)).1 R B acc (by rw [List.length_append]; exact hB) (fun n hn=>by rw [AT h (by grind)]; grind) k (by omega)
 ·intro n hn
  obtain⟨n,rfl⟩:∃k,n=k+1:=⟨n - 1,by omega⟩
  grind [B6]
end Go.Proofs.YtclmbjbbojdojaaGreat.Ab
