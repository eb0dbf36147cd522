/-
  Clusters: the reference's tables of places. No program is in sight.
-/
import Derived.Test.YtclmbjbbojdojaaGreatPlVe
namespace Go.Proofs.YtclmbjbbojdojaaGreat.Ab
set_option linter.unusedVariables false
set_option maxHeartbeats 1000000
set_option linter.unusedSimpArgs false
open Go.RowKit
def szC (c:ShardCell):Nat:=if c.kind=0 then 0 else c.aux.length+1
def tot:List ShardCell→Nat
 | [] =>0
 |c::l=>szC c+tot l
def offs:Nat→List ShardCell→List Int
 |_,[] =>[]
 |b,c::l=>((b:Nat):Int)::offs (b+szC c) l
def totS:List Shard→Nat
 | [] =>0
 |s::l=>tot s.cells+totS l
def rows:Nat→List Shard→List (List Int)
 |_,[] =>[]
 |b,s::l=>offs b s.cells::rows (b+tot s.cells) l
def rng:Nat→Nat→List Int
 |_,0=>[]
 |b,n+1=>((b:Nat):Int)::rng (b+1) n
def totV:List Shard→Nat
 | [] =>0
 |s::l=>s.vars.length+totV l
def D4:Nat→List Shard→List (List Int)
 |_,[] =>[]
 |b,s::l=>rng b s.vars.length::D4 (b+s.vars.length) l
theorem jB (c:ShardCell):szC c≤c.aux.length+1:=by unfold szC; split <;> omega
theorem Y7 {st:L27Links} {c:ShardCell} (hc:c.Small) (ha:st.agents.length<Big):∀ (r k n:Nat) (po:List Port),k+r=c.aux.length+1→po.length+r≤Big→r+1≤n→
  ∃po',Bq n st c po (k:Int)=some ((st.ports.length:Int),⟨st.agents++[VH c],po',st.cells,st.vars,st.ends,st.pairs⟩)∧po'.length=po.length+r
 |0,k,n+1,po,hk,hp,hn=>by
  refine⟨po,?_,by omega⟩
  rw [Bq,decide_eq_false (by omega),if_neg (by simp),Wv hc,AA,Ew (by grind),AA]
 |r+1,k,n+1,po,hk,hp,hn=>by
  have h1:=hc.a
  rw [Bq,decide_eq_true (by omega),if_pos rfl,Ew (by grind),AA]
  have hw:IntKind.i64.wrap ((k:Int)+1)=((k+1:Nat):Int):=by rw [w64 (by omega) (by omega)]; omega
  rw [hw]
  obtain⟨po',e,hl⟩:=Y7 (st:=st) hc ha r (k+1) n (po++[⟨(st.agents.length:Int),(k:Int)⟩]) (by omega) (by rw [List.length_append]; grind) (by omega)
  grind
theorem gM {st:L27Links} {c:ShardCell} (hc:c.Small) (ha:st.agents.length<Big) (hp:st.ports.length+szC c≤Big):
  ∃ag po,D9 st c=some ((st.ports.length:Int),⟨ag,po,st.cells,st.vars,st.ends,st.pairs⟩)∧ag.length≤st.agents.length+1∧po.length=st.ports.length+szC c:=by
 have h1:=hc.a
 unfold D9
 unfold szC at hp ⊢
 by_cases h:c.kind=0
 ·rw [decide_eq_true h,if_pos rfl,if_pos h]
  grind
 ·rw [decide_eq_false h,if_neg (by simp),if_neg h]
  rw [if_neg h] at hp
  obtain⟨po,e,hl⟩:=Y7 (st:=st) hc ha (c.aux.length+1) 0 fuel st.ports (by omega) hp (by rw [Ar]; omega)
  grind
theorem Y8 (g:Grid) (m:Nat) (s:Shard) (hm:at? g.shards (m:Int)=some s) (ag:List Agent) (po:List Port) (C:List (List Int)) (E P:List (List Int)) (H:List Int) (V:List (List Int)) (hV:V.length<Big) (hs:s.vars.length≤4194304):
  ∀ (r k n b:Nat) (acc:List Int),k+r=s.vars.length→acc.length=k→b+r≤4294967296→C5 (n+r+1) g ag po C E P H V (m:Int) (b:Int) acc (k:Int)=Br n g ag po C E P H (V++[acc++rng b r]) ((b+r:Nat):Int) (IntKind.i64.wrap ((m:Int)+1))
 |0,k,n,b,acc,hk,ha,hb=>by
  rw [C5,hm,AA,decide_eq_false (by omega),if_neg (by simp),Ew (by grind),AA,rng,List.append_nil,Nat.add_zero]
 |r+1,k,n,b,acc,hk,ha,hb=>by
  have hw:IntKind.i64.wrap ((k:Int)+1)=((k+1:Nat):Int):=by rw [w64 (by omega) (by omega)]; omega
  have hw2:IntKind.i64.wrap ((b:Int)+1)=((b+1:Nat):Int):=by rw [w64 (by omega) (by omega)]; omega
  rw [C5,hm,AA,decide_eq_true (by omega),if_pos rfl,Ew (by grind),AA,hw,hw2,show n+(r+1)=n+r+1 from rfl,Y8 g m s hm ag po C E P H V hV hs r (k+1) n (b+1) (acc++[(b:Int)]) (by omega) (by rw [List.length_append,List.length_singleton]; omega) (by omega),rng,List.append_assoc,List.singleton_append,show b+1+r=b+(r+1) by omega]
theorem W3 (g:Grid) (hs:∀s ∈ g.shards,s.vars.length≤4194304) (hg:g.shards.length≤4194304) (ag:List Agent) (po:List Port) (C:List (List Int)) (E P:List (List Int)) (H:List Int):
  ∀ (post pre:List Shard) (V:List (List Int)) (b n:Nat),g.shards=pre++post→V.length=pre.length→b+totV post≤Big→1+(2*post.length+totV post)≤n→
  Br n g ag po C E P H V (b:Int) (pre.length:Int)=some (⟨ag,po,C,V++D4 b post,List.replicate (b+totV post) [],P⟩,H)
 | [],pre,V,b,n,h,hV,hb,hn=>by
  obtain⟨n,rfl⟩:∃k,n=k+1:=⟨n - 1,by omega⟩
  have hl:g.shards.length=pre.length:=by rw [h,List.append_nil]
  rw [totV,Nat.add_zero] at hb
  rw [Br,decide_eq_false (by omega),if_neg (by simp),P5 hb,AA,D4,List.append_nil,totV,Nat.add_zero]
 |s::post,pre,V,b,n,h,hV,hb,hn=>by
  have hlt:pre.length<g.shards.length:=by rw [h]; simp
  have hsv:=hs s (by rw [h]; simp)
  rw [totV] at hb hn
  rw [List.length_cons] at hn
  obtain⟨n,rfl⟩:∃k,n=(k+s.vars.length+1)+1:=⟨n - s.vars.length - 2,by omega⟩
  rw [Br,decide_eq_true (by omega),if_pos rfl]
  have e:=Y8 g pre.length s (A1 h) ag po C E P H V (by grind) hsv s.vars.length 0 n b [] (by omega) rfl (by grind)
  rw [show ((0:Nat):Int)=0 from rfl] at e
  rw [e,AX h (by grind),W3 g hs hg ag po C E P H post (pre++[s]) (V++[[] ++rng b s.vars.length]) (b+s.vars.length) n (DA h) (by rw [List.length_append,List.length_append,List.length_singleton,List.length_singleton,hV]) (by omega) (by omega),D4,totV,List.nil_append,List.append_assoc,List.singleton_append,Nat.add_assoc]
theorem Y9 (g:Grid) (a1:List ShardCell) (hs:∀c ∈ a1,c.Small) (C:List (List Int)) (E P:List (List Int)) (Z:Option (L27Links × List Int)) (Q:List Port→Prop) (T:Nat):
  ∀ (post pre:List ShardCell) (ag:List Agent) (po:List Port) (acc:List Int) (n:Nat),a1=pre++post→a1.length≤4194304→ag.length+post.length<Big→po.length+tot post≤Big→acc.length=pre.length→1+post.length≤n→
  ∃ag' po',CR n g a1 ag po C [] E P acc (pre.length:Int)=Br fuel g ag' po' C E P (acc++offs po.length post) [] (po'.length:Int) 0∧po'.length=po.length+tot post
 | [],pre,ag,po,acc,n,h,hl,ha,hp,hc,hn=>by
  obtain⟨n,rfl⟩:∃k,n=k+1:=⟨n - 1,by omega⟩
  have hl':a1.length=pre.length:=by rw [h,List.append_nil]
  exact⟨ag,po,by rw [CR,decide_eq_false (by omega),if_neg (by simp),offs,List.append_nil],by rw [tot]; rfl⟩
 |c::post,pre,ag,po,acc,n,h,hl,ha,hp,hc,hn=>by
  have hlt:pre.length<a1.length:=by rw [h]; simp
  rw [tot] at hp
  rw [List.length_cons] at hn ha
  obtain⟨n,rfl⟩:∃k,n=k+1:=⟨n - 1,by omega⟩
  obtain⟨ag1,po1,e,h1,h2⟩:=gM (st:=⟨ag,po,C,[],E,P⟩) (hs c (by rw [h]; simp)) (by grind) (by grind)
  simp only at h1 h2
  obtain⟨ag2,po2,e2,h3⟩:=Y9 g a1 hs C E P Z Q T post (pre++[c]) ag1 po1 (acc++[(po.length:Int)]) n (DA h) hl (by omega) (by omega) (by rw [List.length_append,List.length_append,hc]; rfl) (by omega)
  refine⟨ag2,po2,?_,by rw [tot]; omega⟩
  rw [CR,decide_eq_true (by omega),if_pos rfl,A1 h,AA,e,AA]
  simp only
  rw [Ew (by grind),AA,AX h (by grind),e2,offs,List.append_assoc,List.singleton_append,h2]
theorem ZA (g:Grid) (a1:List ShardCell) (m:Nat) (s:Shard) (hm:at? g.shards (m:Int)=some s) (hs:s.Small) (C:List (List Int)) (hC:C.length<Big) (E P:List (List Int)):
  ∀ (post pre:List ShardCell) (ag:List Agent) (po:List Port) (acc:List Int) (n:Nat),s.cells=pre++post→ag.length+post.length<Big→po.length+tot post≤Big→acc.length=pre.length→
  ∃ag' po',C6 (n+post.length+1) g a1 (m:Int) ag po C [] E P acc (pre.length:Int)=CB n g a1 ag' po' (C++[acc++offs po.length post]) [] E P (IntKind.i64.wrap ((m:Int)+1))∧po'.length=po.length+tot post∧ag'.length≤ag.length+post.length
 | [],pre,ag,po,acc,n,h,ha,hp,hc=>by
  have hl':s.cells.length=pre.length:=by rw [h,List.append_nil]
  grind [C6,Ew,offs,tot]
 |c::post,pre,ag,po,acc,n,h,ha,hp,hc=>by
  have hlt:pre.length<s.cells.length:=by rw [h]; simp
  have hcl:=hs.cl
  rw [tot] at hp
  rw [List.length_cons] at ha
  obtain⟨ag1,po1,e,h1,h2⟩:=gM (st:=⟨ag,po,C,[],E,P⟩) (hs.c c (by rw [h]; simp)) (by grind) (by grind)
  simp only at h1 h2
  obtain⟨ag2,po2,e2,h3,h4⟩:=ZA g a1 m s hm hs C hC E P post (pre++[c]) ag1 po1 (acc++[(po.length:Int)]) n (DA h) (by omega) (by omega) (by rw [List.length_append,List.length_append,hc]; rfl)
  refine⟨ag2,po2,?_,by rw [tot]; omega,by rw [List.length_cons]; omega⟩
  rw [show n+(c::post).length +1=(n+post.length+1)+1 from rfl,C6,hm,AA,decide_eq_true (by omega),if_pos rfl,AA,A1 h,AA,e,AA]
  simp only
  rw [Ew (by grind),AA,AX h (by grind),e2,offs,List.append_assoc,List.singleton_append,h2]
def J4:List Shard→Nat
 | [] =>0
 |s::l=>s.cells.length+J4 l
theorem ZB (g:Grid) (a1:List ShardCell) (hs:∀s ∈ g.shards,s.Small) (hg:g.shards.length≤4194304) (E P:List (List Int)):
  ∀ (post pre:List Shard) (ag:List Agent) (po:List Port) (C:List (List Int)) (n:Nat),g.shards=pre++post→C.length=pre.length→ag.length+J4 post<Big→po.length+totS post≤Big→1+(2*post.length+J4 post)≤n→
  ∃ag' po',CB n g a1 ag po C [] E P (pre.length:Int)=CR fuel g a1 ag' po' (C++rows po.length post) [] E P [] 0∧po'.length=po.length+totS post∧ag'.length≤ag.length+J4 post
 | [],pre,ag,po,C,n,h,hC,ha,hp,hn=>by
  obtain⟨n,rfl⟩:∃k,n=k+1:=⟨n - 1,by omega⟩
  have hl:g.shards.length=pre.length:=by rw [h,List.append_nil]
  exact⟨ag,po,by rw [CB,decide_eq_false (by omega),if_neg (by simp),rows,List.append_nil],rfl,by omega⟩
 |s::post,pre,ag,po,C,n,h,hC,ha,hp,hn=>by
  have hlt:pre.length<g.shards.length:=by rw [h]; simp
  rw [totS] at hp
  rw [J4] at ha hn
  rw [List.length_cons] at hn
  obtain⟨n,rfl⟩:∃k,n=(k+s.cells.length+1)+1:=⟨n - s.cells.length - 2,by omega⟩
  obtain⟨ag1,po1,e,h1,h2⟩:=ZA g a1 pre.length s (A1 h) (hs s (by rw [h]; simp)) C (by grind) E P s.cells [] ag po [] n rfl (by omega) (by omega) rfl
  obtain⟨ag2,po2,e2,h3,h4⟩:=ZB g a1 hs hg E P post (pre++[s]) ag1 po1 (C++[[] ++offs po.length s.cells]) n (DA h) (by rw [List.length_append,List.length_append,hC]; rfl) (by omega) (by omega) (by omega)
  refine⟨ag2,po2,?_,by rw [totS]; omega,by rw [J4]; omega⟩
  have e':=e
  rw [List.length_nil,show ((0:Nat):Int)=0 from rfl] at e'
  rw [CB,decide_eq_true (by omega),if_pos rfl,e',AX h (by grind),e2,rows,List.nil_append,List.append_assoc,List.singleton_append,h1]
theorem aa (g:Grid) (pc:List ShardCell) (hs:∀s ∈ g.shards,s.Small) (hg:g.shards.length≤4194304) (hp:∀c ∈ pc,c.Small) (hpl:pc.length≤4194304) (hn:J4 g.shards≤4194304) (ht:totS g.shards≤67108864) (hq:tot pc≤67108864) (hv:totV g.shards≤4194304):
  ∃ag po,Ga g pc=some (⟨ag,po,rows 1 g.shards,D4 (1+totS g.shards+tot pc) g.shards,List.replicate (1+totS g.shards+tot pc+totV g.shards) [],[]⟩,offs (1+totS g.shards) pc)∧po.length=1+totS g.shards+tot pc:=by
 unfold Ga
 have h1:rep? 1 (⟨0,0⟩:Port)=some [⟨0,0⟩] :=P5 (n:=1) (by grind)
 rw [h1,AA]
 obtain⟨ag1,po1,e1,h2,h3⟩:=ZB g pc hs hg [] [] g.shards [] [(⟨1,0,0,[],[⟨0,0⟩]⟩:Agent)] [(⟨0,0⟩:Port)] [] fuel rfl rfl (by grind) (by grind) (by rw [Ar]; omega)
 simp only [List.length_cons,List.length_nil] at h2 h3 e1
 obtain⟨ag2,po2,e2,h4⟩:=Y9 g pc hp (rows 1 g.shards) [] [] none (fun _=>True) 0 pc [] ag1 po1 [] fuel rfl hpl (by grind) (by grind) rfl (by rw [Ar]; omega)
 have e3:=W3 g (fun s h=>(hs s h).vl) hg ag2 po2 (rows 1 g.shards) [] [] ([] ++offs po1.length pc) g.shards [] [] po2.length fuel rfl rfl (by grind) (by rw [Ar]; omega)
 refine⟨ag2,po2,?_,by omega⟩
 simp only [List.nil_append,List.length_nil,Nat.zero_add] at e1 e2 e3 h2
 rw [show ((0:Nat):Int)=0 from rfl] at e1 e2 e3
 rw [e1,e2,e3,h4,h2]
def itm (C V:List (List Int)) (a:Address):Option Int:=
 if a.kind=1 then (at? C a.machine).bind fun r=>at? r a.index else (at? V a.machine).bind fun r=>at? r a.index
theorem O2 (st:L27Links) (a:Address):CD st a=itm st.cells st.vars a:=by
 grind [CD,itm]
structure InvL (C V:List (List Int)) (T n:Nat) (st:L27Links) (f:Nat→Nat) (K:Nat):Prop where
 c:st.cells=C
 v:st.vars=V
 t:st.ports.length=T
 e:st.ends.length=n
 r:∀j r,st.ends[j]? =some r→r.length=f j
 k:∀j,f j≤2*K
 p:st.pairs.length=K
def oneV (a j:Nat):Nat:=if j=a then 1 else 0
theorem ZC (a j:Nat):oneV a j≤1:=by unfold oneV; split <;> omega
theorem Kw {C V:List (List Int)} {T n:Nat} {st:L27Links} {f:Nat→Nat} {K a b:Nat} (h:InvL C V T n st f K) (ha:a<n) (hb:b<n) (hK:K≤1000000):
  ∃st',CK st (a:Int) (b:Int)=some st'∧InvL C V T n st' (fun j=>f j+(oneV a j+oneV b j)) (K+1):=by
 have hb4:Big=4294967296:=rfl
 obtain⟨ra,hra⟩:∃r,st.ends[a]? =some r:=⟨st.ends[a]'(by rw [h.e]; exact ha),List.getElem?_eq_getElem _⟩
 have hla:=h.r a ra hra
 have hka:=h.k a
 unfold CK
 rw [Ew (by have:=h.p; grind),AA,B3,hra,AA,Ew (by grind),AA,AA]
 rw [show Hc st.ends (a:Int) (ra++[(st.pairs.length:Int)])=some (st.ends.set a (ra++[(st.pairs.length:Int)])) from rfl,AA,B3]
 obtain⟨rb,hrb⟩:∃r,(st.ends.set a (ra++[(st.pairs.length:Int)]))[b]? =some r:=⟨_,List.getElem?_eq_getElem (by rw [List.length_set,h.e]; exact hb)⟩
 have mid:∀j r,(st.ends.set a (ra++[(st.pairs.length:Int)]))[j]? =some r→r.length=f j+oneV a j:=by
  intro j r hj
  rw [List.getElem?_set] at hj
  unfold oneV
  by_cases hja:a=j
  ·rw [if_pos hja,if_pos (by rw [h.e]; exact ha)] at hj
   grind
  ·rw [if_neg hja] at hj
   rw [if_neg (Ne.symm hja),h.r j r hj]; rfl
 have hlb:=mid b rb hrb
 have hkb:=h.k b
 have h1:=ZC a b
 rw [hrb,AA,Ew (by grind),AA,AA]
 rw [show Hc (st.ends.set a (ra++[(st.pairs.length:Int)])) (b:Int) (rb++[(st.pairs.length:Int)])=some ((st.ends.set a (ra++[(st.pairs.length:Int)])).set b (rb++[(st.pairs.length:Int)])) from rfl,AA]
 refine⟨_,rfl,⟨h.c,h.v,h.t,?_,?_,?_,?_⟩⟩
 ·simp only [List.length_set]; exact h.e
 ·grind [oneV]
 ·intro j
  have:=h.k j
  grind [ZC]
 ·have:=h.p
  grind
structure Places (g:Grid) (C V:List (List Int)) (n:Nat):Prop where
 gl:g.shards.length≤4194304
 gs:∀s ∈ g.shards,s.Small
 p:∀a,aliveB g a=true→∃p:Nat,itm C V a=some (p:Int)∧p<n
def cA (C V:List (List Int)) (a:Address) (j:Nat):Nat:=if itm C V a=some (j:Int) then 1 else 0
theorem VJ {C V:List (List Int)} {a:Address} {p:Nat} (h:itm C V a=some (p:Int)) (j:Nat):cA C V a j=oneV p j:=by
 grind [cA,oneV]
def Jw (r:Option (Bool × L27Links)):Prop:=∃s,r=some (false,s)
theorem fW {g:Grid} {C V:List (List Int)} {T n:Nat} (hP:Places g C V n) {st:L27Links} {f:Nat→Nat} {K:Nat} (h:InvL C V T n st f K) (hK:K≤1000000) (a b:Address):
  if (aliveB g a&&aliveB g b)=true then ∃st',Bb st g a b=some (true,st')∧InvL C V T n st' (fun j=>f j+(cA C V a j+cA C V b j)) (K+1) else Jw (Bb st g a b):=by
 unfold Bb
 rw [KS g a hP.gl hP.gs,AA,KS g b hP.gl hP.gs]
 cases ha:aliveB g a with
 |false=>
  rw [if_neg (by simp),Bool.not_false,if_pos rfl,CH,if_pos rfl]
  exact⟨st,rfl⟩
 | true=>
  rw [Bool.true_and,Bool.not_true,if_neg Bool.false_ne_true,AA]
  cases hb:aliveB g b with
  |false=>
   rw [if_neg (by simp),Bool.not_false,CH,if_pos rfl]
   exact⟨st,rfl⟩
  |true=>
   rw [if_pos rfl,Bool.not_true,CH,if_neg (by simp),O2,O2,h.c,h.v]
   obtain⟨p,hp,hpn⟩:=hP.p a ha
   obtain⟨q,hq,hqn⟩:=hP.p b hb
   obtain⟨st',e,hi⟩:=Kw h hpn hqn hK
   rw [hp,AA,hq,AA,e,AA]
   refine⟨st',rfl,?_⟩
   grind [VJ]
def cAs (C V:List (List Int)):List Address→Nat→Nat
 | [],_=>0
 |a::l,j=>cA C V a j+cAs C V l j
def seg (b r j:Nat):Nat:=if b≤j∧j<b+r then 1 else 0
theorem O3 (b r j:Nat):seg b (r+1) j=oneV b j+seg (b+1) r j:=by unfold seg oneV; split <;> split <;> split <;> omega
theorem O4 (b j:Nat):seg b 0 j=0:=by unfold seg; split <;> omega
theorem O5 (b r q j:Nat):seg b (r+q) j=seg b r j+seg (b+r) q j:=by unfold seg; split <;> split <;> split <;> omega
theorem gN {g:Grid} {C V:List (List Int)} {T n:Nat} (hP:Places g C V n) (c:ShardCell) (hc:c.Small) (base:Nat) (hb:c.aux.length=0∨base+c.aux.length<n) (hn:n≤1000000000):
  ∀ (post pre:List Address) (st:L27Links) (f:Nat→Nat) (K N:Nat),c.aux=pre++post→InvL C V T n st f K→K+post.length≤1000000→post.length<N→
  if post.all (aliveB g)=true then ∃st',Bk N g c (base:Int) st.agents st.ports st.cells st.vars st.ends st.pairs (pre.length:Int)=some (true,st')∧InvL C V T n st' (fun j=>f j+(seg (base+1+pre.length) post.length j+cAs C V post j)) (K+post.length)
  else Jw (Bk N g c (base:Int) st.agents st.ports st.cells st.vars st.ends st.pairs (pre.length:Int))
 | [],pre,st,f,K,N,h,hi,hK,hN=>by
  obtain⟨N,rfl⟩:∃k,N=k+1:=⟨N - 1,by omega⟩
  have hl:c.aux.length=pre.length:=by rw [h,List.append_nil]
  rw [List.all_nil,if_pos rfl,Bk,decide_eq_false (by omega),if_neg (by simp)]
  refine⟨st,rfl,?_⟩
  have:(fun j=>f j+(seg (base+1+pre.length) ([] :List Address).length j+cAs C V [] j))=f:=funext fun j=>by rw [List.length_nil,O4,cAs]; rfl
  rw [this]; exact hi
 | x::post,pre,st,f,K,N,h,hi,hK,hN=>by
  have hca:=hc.a
  have hlt:pre.length<c.aux.length:=by rw [h]; simp
  rw [List.length_cons] at hK hN
  obtain⟨N,rfl⟩:∃k,N=k+1:=⟨N - 1,by omega⟩
  rw [Bk,decide_eq_true (by omega),if_pos rfl,A1 h,AA,KS g x hP.gl hP.gs,AA,List.all_cons]
  cases hx:aliveB g x with
  |false=>
   rw [Bool.false_and,if_neg (by simp),Bool.not_false,if_pos rfl]
   exact⟨_,rfl⟩
  | true=>
   rw [Bool.true_and,Bool.not_true,if_neg Bool.false_ne_true,AA,O2]
   simp only
   rw [hi.c,hi.v]
   obtain⟨p,hp,hpn⟩:=hP.p x hx
   have hw:IntKind.i64.wrap (IntKind.i64.wrap ((base:Int)+(pre.length:Int))+1)=((base+1+pre.length:Nat):Int):=by
    rw [w64 (n:=(base:Int)+(pre.length:Int)) (by omega) (by omega),w64 (by omega) (by omega)]; omega
   obtain⟨st',e,hi'⟩:=Kw (st:=⟨st.agents,st.ports,C,V,st.ends,st.pairs⟩) (a:=base+1+pre.length) (b:=p) (f:=f) (K:=K) (T:=T) (n:=n) (C:=C) (V:=V) ⟨rfl,rfl,hi.t,hi.e,hi.r,hi.k,hi.p⟩ (by omega) hpn (by omega)
   rw [hp,AA,hw,e,AA,AX h (by grind)]
   have ih:=gN hP c hc base hb hn post (pre++[x]) st' _ (K+1) N (DA h) hi' (by omega) (by omega)
   have hf:∀j,f j+(oneV (base+1+pre.length) j+oneV p j)+(seg (base+1+(pre++[x]).length) post.length j+cAs C V post j)=f j+(seg (base+1+pre.length) (x::post).length j+cAs C V (x::post) j):=by
    grind [O3,cAs,VJ]
   rw [List.length_cons,show K+(post.length+1)=K+1+post.length by omega]
   simp_all
theorem Sq {α β σ:Type} (l:List α) (p:Nat→α→Bool) (w:α→Nat) (Q:List α→σ→Prop) (L:Nat→σ→Int→Option β) (N:Nat) (G Z:Option β→Prop)
  (hL:∀ (pre:List α) (x:α) (post:List α) (m B:Nat) (st:σ),l=pre++x::post→Q pre st→B+w x≤m→
   if p pre.length x=true then ∃m' st',B≤m'∧Q (pre++[x]) st'∧L m st (pre.length:Int)=L m' st' ((List.length (pre++[x]):Nat):Int) else Z (L m st (pre.length:Int)))
  (hE:∀n st,N≤n→Q l st→G (L n st (l.length:Int))):
  ∀ (post pre:List α) (st:σ) (n:Nat),l=pre++post→Q pre st→N+szw w post≤n→if allI p pre.length post=true then G (L n st (pre.length:Int)) else Z (L n st (pre.length:Int))
 | [],pre,st,n,h,hq,hn=>by
  rw [List.append_nil] at h
  grind [allI]
 | x::post,pre,st,n,h,hq,hn=>by
  simp only [szw] at hn
  have hs:=hL pre x post n (N+szw w post) st h hq (by omega)
  rw [allI]
  cases hp:p pre.length x with
  |false=>
   rw [hp,if_neg (by simp)] at hs
   rw [Bool.false_and,if_neg (by simp)]; exact hs
  |true=>
   rw [hp,if_pos rfl] at hs
   obtain⟨m',st',hm,hq',e⟩:=hs
   rw [Bool.true_and,e]
   have ih:=Sq l p w Q L N G Z hL hE post (pre++[x]) st' m' (DA h) hq' hm
   rw [List.length_append,List.length_singleton] at ih ⊢
   exact ih
theorem FZ {α β:Type} (e:Nat→α→List β):∀ (A B:List α) (k:Nat),AO e k (A++B)=AO e k A++AO e (k+A.length) B
 | [],B,k=>by rw [List.nil_append,AO,List.nil_append,List.length_nil,Nat.add_zero]
 |x::A,B,k=>by rw [List.cons_append,AO,AO,FZ e A B (k+1),List.length_cons,List.append_assoc,show k+1+A.length=k+(A.length+1) by omega]
theorem Fy {α β:Type} (e:Nat→α→List β) (A:List α) (x:α):AO e 0 (A++[x])=AO e 0 A++e A.length x:=by
 rw [FZ,AO,AO,List.append_nil,Nat.zero_add]
theorem Hx {α β:Type} (e:Nat→α→List β) (q:β→Bool):∀ (l:List α) (k:Nat),allI (fun i x=>(e i x).all q) k l=(AO e k l).all q
 | [],k=>rfl
 |x::l,k=>by rw [allI,AO,List.all_append,Hx e q l (k+1)]
def cT (C V:List (List Int)) (t:Thing) (j:Nat):Nat:=if t.own=false then cA C V t.att j else 0
def cN (C V:List (List Int)):List Statement→Nat→Nat
 | [],_=>0
 |s::l,j=>cT C V s.a j+cT C V s.b j+cN C V l j
theorem Sr {C V:List (List Int)} (j:Nat):∀A B:List Statement,cN C V (A++B) j=cN C V A j+cN C V B j
 | [],B=>by rw [List.nil_append,cN]; omega
 |s::A,B=>by rw [List.cons_append,cN,cN,Sr j A B]; omega
theorem dD {C V:List (List Int)} (a:Address) (j:Nat):∀ (l:List Address) (k:Nat),cN C V (AO (GL a) k l) j=cAs C V l j
 | [],k=>rfl
 |x::l,k=>by
  rw [AO,Sr,dD a j l (k+1),cAs]
  simp [GL,cN,cT,nam]
theorem VK (a:Address):∀ (l:List Address) (k:Nat),(AO (GL a) k l).length =l.length
 | [],_=>rfl
 |x::l,k=>by rw [AO,List.length_append,VK a l (k+1),GL,List.length_cons,List.length_cons,List.length_nil]; omega
theorem ZD {g:Grid} (a:Address):∀ (l:List Address) (k:Nat),(AO (GL a) k l).all (stB g)=l.all (aliveB g)
 | [],_=>rfl
 |x::l,k=>by rw [AO,List.all_append,ZD a l (k+1),List.all_cons]; simp [GL,stB,thB,nam]
def Inv2 (C V:List (List Int)) (T n:Nat) (st:L27Links) (O:Nat→Nat) (L:List Statement):Prop:=InvL C V T n st (fun j=>O j+cN C V L j) L.length
theorem Me {C V:List (List Int)} {T n:Nat} {st:L27Links} {f O:Nat→Nat} {K:Nat} {L:List Statement} (h:InvL C V T n st f K) (hf:∀j,f j=O j+cN C V L j) (hK:K=L.length):Inv2 C V T n st O L:=by
 unfold Inv2
 rw [show (fun j=>O j+cN C V L j)=f from funext fun j=>(hf j).symm,← hK]; exact h
theorem dE {g:Grid} {C V:List (List Int)} {T n:Nat} (hP:Places g C V n) {st:L27Links} {O:Nat→Nat} {L:List Statement} (h:Inv2 C V T n st O L) (hK:L.length≤1000000) (a b:Address):
  if List.all [(⟨nam a,nam b⟩:Statement)] (stB g)=true then ∃st',Bb st g a b=some (true,st')∧Inv2 C V T n st' O (L++[⟨nam a,nam b⟩]) else Jw (Bb st g a b):=by
 have h0:=fW hP h hK a b
 have e:List.all [(⟨nam a,nam b⟩:Statement)] (stB g)=(aliveB g a&&aliveB g b):=by simp [stB,thB,nam]
 rw [e]
 grind [Me,Sr,cN,cT,nam]
theorem mR {g:Grid} {C V:List (List Int)} {T n:Nat} (hP:Places g C V n) (c:ShardCell) (hc:c.Small) (base:Nat) (hb:c.aux.length=0∨base+c.aux.length<n) (hn:n≤1000000000) {st:L27Links} {O:Nat→Nat} {L:List Statement} (h:Inv2 C V T n st O L) (A:Address) (hK:(L++AO (GL A) 0 c.aux).length ≤1000000):
  if (AO (GL A) 0 c.aux).all (stB g)=true then ∃st',Dp st g c (base:Int)=some (true,st')∧Inv2 C V T n st' (fun j=>O j+seg (base+1) c.aux.length j) (L++AO (GL A) 0 c.aux) else Jw (Dp st g c (base:Int)):=by
 rw [ZD]
 rw [List.length_append,VK] at hK
 have ha:=hc.a
 have h0:=gN hP c hc base hb hn c.aux [] st _ L.length fuel rfl h hK (by rw [Ar]; omega)
 grind [Dp,Me,Sr,dD,VK]
theorem VL:∀A B:List ShardCell,tot (A++B)=tot A+tot B
 | [],B=>by rw [List.nil_append,tot]; omega
 |c::A,B=>by rw [List.cons_append,tot,tot,VL A B]; omega
theorem W5:∀A B:List Shard,totS (A++B)=totS A+totS B
 | [],B=>by rw [List.nil_append,totS]; omega
 |c::A,B=>by rw [List.cons_append,totS,totS,W5 A B]; omega
theorem VM:∀ (A:List ShardCell) (c:ShardCell) (B:List ShardCell) (b:Nat),at? (offs b (A++c::B)) (A.length:Int)=some ((b+tot A:Nat):Int)
 | [],c,B,b=>by rw [List.nil_append,offs,B3,tot,Nat.add_zero]; rfl
 |x::A,c,B,b=>by
  have:=VM A c B (b+szC x)
  rw [B3] at this
  rw [List.cons_append,offs,B3,List.length_cons,List.getElem?_cons_succ,this,tot,Nat.add_assoc]
theorem ZE:∀ (A:List Shard) (s:Shard) (B:List Shard) (b:Nat),at? (rows b (A++s::B)) (A.length:Int)=some (offs (b+totS A) s.cells)
 | [],s,B,b=>by rw [List.nil_append,rows,B3,totS,Nat.add_zero]; rfl
 |x::A,s,B,b=>by
  have:=ZE A s B (b+tot x.cells)
  rw [B3] at this
  rw [List.cons_append,rows,B3,List.length_cons,List.getElem?_cons_succ,this,totS,Nat.add_assoc]
def Nm:Nat→List ShardCell→Nat→Nat
 |_,[],_=>0
 |b,c::l,j=>seg (b+1) c.aux.length j+Nm (b+szC c) l j
theorem Ud (j:Nat):∀ (A:List ShardCell) (c:ShardCell) (b:Nat),Nm b (A++[c]) j=Nm b A j+seg (b+tot A+1) c.aux.length j
 | [],c,b=>by grind [Nm,tot]
 |x::A,c,b=>by rw [List.cons_append,Nm,Nm,Ud j A c,tot,← Nat.add_assoc b]; omega
def QB:Nat→List Shard→Nat→Nat
 |_,[],_=>0
 |b,s::l,j=>Nm b s.cells j+QB (b+tot s.cells) l j
theorem Ue (j:Nat):∀ (A:List Shard) (s:Shard) (b:Nat),QB b (A++[s]) j=QB b A j+Nm (b+totS A) s.cells j
 | [],s,b=>by grind [QB,totS]
 |x::A,s,b=>by rw [List.cons_append,QB,QB,Ue j A s,totS,← Nat.add_assoc b]; omega
theorem ZF {c:ShardCell} (h:ceB c=true) (h0:c.kind=0):c.aux.length=0:=by
 grind [ceB,emptyB]
def ae (C V:List (List Int)) (T n:Nat) (g:Grid) (O:Nat→Nat) (L:List Statement) (B:Nat) (k:Int) (r:Option (Bool × L27Links)):Prop:=
 ∃m' st',B≤m'∧Inv2 C V T n st' O L∧r=Cu m' g st'.agents st'.ports st'.cells st'.vars st'.ends st'.pairs k
theorem fX {g:Grid} {C V:List (List Int)} {T n:Nat} (hP:Places g C V n) (m:Nat) (s:Shard) (hm:at? g.shards (m:Int)=some s) (hs:s.Small) (hv:s.vars.all vaB=true) (O:Nat→Nat) (L:List Statement) (hL:(L++AO (Ed (m:Int)) 0 s.vars).length ≤1000000) (B:Nat) (st:L27Links) (h:Inv2 C V T n st O L) (N:Nat) (hN:B+1+2*s.vars.length≤N):
  if (AO (Ed (m:Int)) 0 s.vars).all (stB g)=true then ae C V T n g O (L++AO (Ed (m:Int)) 0 s.vars) B (IntKind.i64.wrap ((m:Int)+1)) (Cy N g (m:Int) s st.agents st.ports st.cells st.vars st.ends st.pairs 0) else Jw (Cy N g (m:Int) s st.agents st.ports st.cells st.vars st.ends st.pairs 0):=by
 have hvl:=hs.vl
 have h0:=Sq s.vars (fun i x=>(Ed (m:Int) i x).all (stB g)) (fun _=>2) (fun pre st=>Inv2 C V T n st O (L++AO (Ed (m:Int)) 0 pre)) (fun N st k=>Cy N g (m:Int) s st.agents st.ports st.cells st.vars st.ends st.pairs k) (B+1) (ae C V T n g O (L++AO (Ed (m:Int)) 0 s.vars) B (IntKind.i64.wrap ((m:Int)+1))) Jw ?_ ?_ s.vars [] st N rfl (by grind [AO]) (by rw [A8]; omega)
 ·rw [Hx] at h0; exact h0
 ·intro pre x post k B' st' hpx hq hk
  obtain⟨k,rfl⟩:∃j,k=j+2:=⟨k - 2,by omega⟩
  have hlt:pre.length<s.vars.length:=by rw [hpx]; simp
  have hlen:(L++AO (Ed (m:Int)) 0 pre).length ≤1000000:=by
   rw [hpx,FZ,← List.append_assoc,List.length_append] at hL; omega
  rw [Cy,decide_eq_true (by omega),if_pos rfl,A1 hpx,AA,Fy]
  cases hf:x.full with
  |false=>
   have hvs:Ed (m:Int) pre.length x=[] :=by unfold Ed; rw [hf,if_neg (by simp)]
   rw [hvs,List.all_nil,if_pos rfl,if_neg (by simp),EG,if_neg (by simp),AX hpx (by grind),List.append_nil]
   grind
  | true=>
   have hvs:Ed (m:Int) pre.length x=[⟨nam ⟨m,2,(pre.length:Int)⟩,nam x.held⟩] :=by unfold Ed; rw [hf,if_pos rfl]
   have hp:=dE hP hq hlen ⟨m,2,(pre.length:Int)⟩ x.held
   rw [hvs,if_pos rfl,AA]
   cases hb:List.all [(⟨nam ⟨m,2,(pre.length:Int)⟩,nam x.held⟩:Statement)] (stB g) with
   |false=>
    rw [hb,if_neg (by simp)] at hp
    rw [if_neg (by simp)]
    obtain⟨s2,e⟩:=hp
    rw [e,AA,EG]
    simp only
    rw [Bool.not_false,if_pos rfl]
    exact⟨_,rfl⟩
   |true=>
    rw [hb,if_pos rfl] at hp
    rw [if_pos rfl]
    obtain⟨s2,e,hi⟩:=hp
    rw [e,AA,EG]
    simp only
    rw [Bool.not_true,if_neg (by simp),AX hpx (by grind),← List.append_assoc]
    grind
 ·intro k st' hk hq
  obtain⟨k,rfl⟩:∃j,k=j+1:=⟨k - 1,by omega⟩
  rw [Cy,decide_eq_false (by omega),if_neg (by simp)]
  exact⟨k,st',by omega,hq,rfl⟩
theorem fY {g:Grid} {C V:List (List Int)} {T n:Nat} (hP:Places g C V n) (m:Nat) (s:Shard) (hm:at? g.shards (m:Int)=some s) (hs:s.Small) (hv:s.vars.all vaB=true) (O:Nat→Nat) (L:List Statement) (hL:(L++(AO Hd 0 s.redexes++AO (Ed (m:Int)) 0 s.vars)).length ≤1000000) (B:Nat) (st:L27Links) (h:Inv2 C V T n st O L) (N:Nat) (hN:B+2+(s.redexes.length+2*s.vars.length)≤N):
  if (AO Hd 0 s.redexes++AO (Ed (m:Int)) 0 s.vars).all (stB g)=true then ae C V T n g O (L++(AO Hd 0 s.redexes++AO (Ed (m:Int)) 0 s.vars)) B (IntKind.i64.wrap ((m:Int)+1)) (Cw N g (m:Int) s st.agents st.ports st.cells st.vars st.ends st.pairs 0) else Jw (Cw N g (m:Int) s st.agents st.ports st.cells st.vars st.ends st.pairs 0):=by
 have hvl:=hs.vl
 have hrl:=hs.rl
 have h0:=Sq s.redexes (fun i x=>(Hd i x).all (stB g)) (fun _=>1) (fun pre st=>Inv2 C V T n st O (L++AO Hd 0 pre)) (fun N st k=>Cw N g (m:Int) s st.agents st.ports st.cells st.vars st.ends st.pairs k) (B+2+2*s.vars.length)
  (fun r=>if (AO (Ed (m:Int)) 0 s.vars).all (stB g)=true then ae C V T n g O (L++(AO Hd 0 s.redexes++AO (Ed (m:Int)) 0 s.vars)) B (IntKind.i64.wrap ((m:Int)+1)) r else Jw r) Jw ?_ ?_ s.redexes [] st N rfl (by grind [AO]) (by rw [A8]; omega)
 ·rw [Hx,List.length_nil] at h0
  rw [List.all_append]
  grind
 ·intro pre x post k B' st' hpx hq hk
  obtain⟨k,rfl⟩:∃j,k=j+1:=⟨k - 1,by omega⟩
  have hlt:pre.length<s.redexes.length:=by rw [hpx]; simp
  have hlen:(L++AO Hd 0 pre).length ≤1000000:=by
   rw [hpx,FZ,List.append_assoc,← List.append_assoc,List.length_append] at hL; omega
  have hp:=dE hP hq hlen x.a x.b
  rw [Cw,decide_eq_true (by omega),if_pos rfl,A1 hpx,AA,AA,Fy,Hd]
  cases hb:List.all [(⟨nam x.a,nam x.b⟩:Statement)] (stB g) with
  |false=>
   rw [hb,if_neg Bool.false_ne_true] at hp
   rw [if_neg Bool.false_ne_true]
   obtain⟨s2,e⟩:=hp
   rw [e,AA]
   simp only
   rw [Bool.not_false,if_pos rfl]
   exact⟨_,rfl⟩
  |true=>
   rw [hb,if_pos rfl] at hp
   rw [if_pos rfl]
   obtain⟨s2,e,hi⟩:=hp
   rw [e,AA]
   simp only
   rw [Bool.not_true,if_neg Bool.false_ne_true,AX hpx (by grind),← List.append_assoc]
   grind
 ·intro k st' hk hq
  obtain⟨k,rfl⟩:∃j,k=j+1:=⟨k - 1,by omega⟩
  have:=fX hP m s hm hs hv O (L++AO Hd 0 s.redexes) (by rw [List.append_assoc]; exact hL) B st' hq k (by omega)
  rw [List.append_assoc] at this
  rw [Cw,decide_eq_false (by omega),if_neg Bool.false_ne_true]
  omega
structure ShTab (C:List (List Int)) (n:Nat) (m b:Nat) (s:Shard):Prop where
 c:at? C (m:Int)=some (offs b s.cells)
 n:b+tot s.cells≤n
theorem dF {g:Grid} {C V:List (List Int)} {T n:Nat} (hP:Places g C V n) (hn:n≤1000000000) (m b:Nat) (s:Shard) (hm:at? g.shards (m:Int)=some s) (hs:s.Small) (hv:s.vars.all vaB=true) (hc:s.cells.all ceB=true) (hT:ShTab C n m b s) (O:Nat→Nat) (L:List Statement) (hL:(L++EM m s).length ≤1000000) (B:Nat) (st:L27Links) (h:Inv2 C V T n st O L) (N:Nat) (hN:B+3+(s.cells.length+(s.redexes.length+2*s.vars.length))≤N):
  if (EM m s).all (stB g)=true then ae C V T n g (fun j=>O j+Nm b s.cells j) (L++EM m s) B (IntKind.i64.wrap ((m:Int)+1)) (Cv N g (m:Int) s st.agents st.ports st.cells st.vars st.ends st.pairs 0) else Jw (Cv N g (m:Int) s st.agents st.ports st.cells st.vars st.ends st.pairs 0):=by
 have hcl:=hs.cl
 unfold EM at hL ⊢
 have h0:=Sq s.cells (fun i x=>(HQ (m:Int) i x).all (stB g)) (fun _=>1) (fun pre st=>Inv2 C V T n st (fun j=>O j+Nm b pre j) (L++AO (HQ (m:Int)) 0 pre)) (fun N st k=>Cv N g (m:Int) s st.agents st.ports st.cells st.vars st.ends st.pairs k) (B+3+(s.redexes.length+2*s.vars.length))
  (fun r=>if (AO Hd 0 s.redexes++AO (Ed (m:Int)) 0 s.vars).all (stB g)=true then ae C V T n g (fun j=>O j+Nm b s.cells j) (L++(AO (HQ (m:Int)) 0 s.cells++(AO Hd 0 s.redexes++AO (Ed (m:Int)) 0 s.vars))) B (IntKind.i64.wrap ((m:Int)+1)) r else Jw r) Jw ?_ ?_ s.cells [] st N rfl (by simp_all [AO,Nm]) (by rw [A8]; omega)
 ·rw [Hx,List.length_nil] at h0
  rw [List.all_append (xs:=AO (HQ (m:Int)) 0 s.cells)]
  grind
 ·intro pre x post k B' st' hpx hq hk
  obtain⟨k,rfl⟩:∃j,k=j+1:=⟨k - 1,by omega⟩
  have hlt:pre.length<s.cells.length:=by rw [hpx]; simp
  have hx:x ∈ s.cells:=by rw [hpx]; simp
  have hlen:(L++AO (HQ (m:Int)) 0 pre++AO (GL ⟨m,1,(pre.length:Int)⟩) 0 x.aux).length ≤1000000:=by
   rw [hpx,FZ,AO,Nat.zero_add] at hL
   grind [HQ]
  have hn':=hT.n
  have htot:b+tot pre+szC x≤n:=by rw [hpx,VL,tot] at hn'; omega
  have hb:x.aux.length=0∨b+tot pre+x.aux.length<n:=by
   grind [ZF,szC]
  have hp:=mR hP x (hs.c x hx) (b+tot pre) hb hn hq ⟨m,1,(pre.length:Int)⟩ hlen
  rw [Cv,decide_eq_true (by omega),if_pos rfl,A1 hpx,AA,hq.c,hT.c,AA,hpx,VM,AA,show (⟨st'.agents,st'.ports,C,st'.vars,st'.ends,st'.pairs⟩:L27Links)=st' by rw [← hq.c],Fy,HQ]
  cases hb:(AO (GL ⟨m,1,(pre.length:Int)⟩) 0 x.aux).all (stB g) with
  |false=>
   rw [hb,if_neg Bool.false_ne_true] at hp
   rw [if_neg Bool.false_ne_true]
   obtain⟨s2,e⟩:=hp
   rw [e,AA]
   simp only
   rw [Bool.not_false,if_pos rfl]
   exact⟨_,rfl⟩
  |true=>
   rw [hb,if_pos rfl] at hp
   rw [if_pos rfl]
   obtain⟨s2,e,hi⟩:=hp
   rw [e,AA]
   simp only
   rw [Bool.not_true,if_neg Bool.false_ne_true,AX hpx (by grind),← List.append_assoc]
   refine⟨k,s2,by omega,?_,rfl⟩
   grind [Ud]
 ·intro k st' hk hq
  obtain⟨k,rfl⟩:∃j,k=j+1:=⟨k - 1,by omega⟩
  have:=fY hP m s hm hs hv _ (L++AO (HQ (m:Int)) 0 s.cells) (by rw [List.append_assoc]; exact hL) B st' hq k (by omega)
  rw [List.append_assoc L] at this
  rw [Cv,decide_eq_false (by omega),if_neg Bool.false_ne_true]
  omega
def W6 (s:Shard):Nat:=4+(s.cells.length+(s.redexes.length+2*s.vars.length))
theorem jC {g:Grid} {V:List (List Int)} {T n:Nat} (hP:Places g (rows 1 g.shards) V n) (hn:n≤1000000000) (hG:g.shards.all shB=true) (ht:1+totS g.shards≤n) (hw:szw W6 g.shards≤1000000000) (hL:(Hw g).length ≤1000000) (st:L27Links) (h:Inv2 (rows 1 g.shards) V T n st (fun _=>0) []):
  if (Hw g).all (stB g)=true then ∃st',H9 g st=some (true,st')∧Inv2 (rows 1 g.shards) V T n st' (fun j=>oneV 0 j+QB 1 g.shards j) (Hw g) else Jw (H9 g st):=by
 have hgl:=hP.gl
 unfold H9
 unfold Hw at hL ⊢
 rw [KS g g.root hP.gl hP.gs,AA,List.all_cons,show stB g (Lz g)=aliveB g g.root by rfl]
 cases hr:aliveB g g.root with
 |false=>
  rw [Bool.false_and,if_neg Bool.false_ne_true,Bool.not_false,if_pos rfl]
  exact⟨_,rfl⟩
 | true=>
  obtain⟨p,hp,hpn⟩:=hP.p _ hr
  obtain⟨s1,e1,h1⟩:=Kw (a:=0) h (by omega) hpn (by simp)
  rw [show ((0:Nat):Int)=0 from rfl] at e1
  rw [Bool.true_and,Bool.not_true,if_neg Bool.false_ne_true,O2,h.c,h.v,hp,AA,e1,AA]
  have h2:Inv2 (rows 1 g.shards) V T n s1 (fun j=>oneV 0 j) [Lz g] :=Me h1 (fun j=>by simp [cN,cT,Lz,nam,VJ hp]) rfl
  have h0:=Sq g.shards (fun i x=>(EM i x).all (stB g)) W6 (fun pre st=>Inv2 (rows 1 g.shards) V T n st (fun j=>oneV 0 j+QB 1 pre j) (Lz g::AO EM 0 pre)) (fun N st k=>Cu N g st.agents st.ports st.cells st.vars st.ends st.pairs k) 1
   (fun r=>∃st',r=some (true,st')∧Inv2 (rows 1 g.shards) V T n st' (fun j=>oneV 0 j+QB 1 g.shards j) (Lz g::AO EM 0 g.shards)) Jw ?_ ?_ g.shards [] s1 fuel rfl (by grind [AO,QB]) (by rw [Ar]; omega)
  ·rw [Hx,List.length_nil] at h0; exact h0
  ·intro pre x post k B' st' hpx hq hk
   unfold W6 at hk
   obtain⟨k,rfl⟩:∃j,k=j+1:=⟨k - 1,by omega⟩
   have hlt:pre.length<g.shards.length:=by rw [hpx]; simp
   have hx:x ∈ g.shards:=by rw [hpx]; simp
   have hxb:=List.all_eq_true.mp hG x hx
   unfold shB at hxb
   simp only [Bool.and_eq_true] at hxb
   have hlen:(Lz g::AO EM 0 pre++EM pre.length x).length ≤1000000:=by
    rw [hpx,FZ,AO,Nat.zero_add] at hL
    grind
   have hT:ShTab (rows 1 g.shards) n pre.length (1+totS pre) x:=⟨by rw [hpx,ZE],by rw [hpx,W5,totS] at ht; omega⟩
   have:=dF hP hn pre.length (1+totS pre) x (A1 hpx) (hP.gs x hx) hxb.2.2 hxb.2.1 hT _ _ hlen B' st' hq k (by omega)
   rw [Cu,decide_eq_true (by omega),if_pos rfl,A1 hpx,AA]
   cases hb:(EM pre.length x).all (stB g) with
   |false=>rw [hb,if_neg Bool.false_ne_true] at this; rw [if_neg Bool.false_ne_true]; omega
   | true=>
    rw [hb,if_pos rfl] at this
    rw [if_pos rfl]
    obtain⟨m',s2,hm',hi,e⟩:=this
    refine⟨m',s2,hm',?_,?_⟩
    ·rw [Fy]
     grind [Ue]
    grind [AX]
  ·intro k st' hk hq
   obtain⟨k,rfl⟩:∃j,k=j+1:=⟨k - 1,by omega⟩
   rw [Cu,decide_eq_false (by omega),if_neg Bool.false_ne_true]
   grind
def pc1 (_:Nat) (p:Parcel):List ShardCell:=if p.kind=3 then [p.cell] else []
def pcC (_:Nat) (x:List Parcel):List ShardCell:=AO pc1 0 x
def pcA (c:Cluster):List ShardCell:=AO pcC 0 c.channels
theorem fZ (b r j:Nat):seg b (r+1) j=oneV b j+seg (b+1) r j:=O3 b r j
def KU:Nat→List ShardCell→Nat→Nat
 |_,[],_=>0
 |b,c::l,j=>seg b (c.aux.length+1) j+KU (b+szC c) l j
theorem W7 (j:Nat):∀ (A B:List ShardCell) (b:Nat),KU b (A++B) j=KU b A j+KU (b+tot A) B j
 | [],B,b=>by grind [KU,tot]
 |x::A,B,b=>by rw [List.cons_append,KU,KU,W7 j A B,tot,← Nat.add_assoc b]; omega
def W8 (r:Option (L27Links × Bool)):Prop:=∃s,r=some (s,false)
theorem pa3 {p:Parcel} {to:Int} (h:paB p to=true) (h3:p.kind=3):p.cell.kind≠0:=by
 grind [paB]
structure ParTab (c:Cluster) (C V:List (List Int)) (T n b0:Nat) (lk:L27Links × List Int):Prop where
 pl:Places c.grid C V n
 nn:n≤1000000000
 h:lk.2 =offs b0 (pcA c)
 t:b0+tot (pcA c)≤n
 s:c.Small
 k:(pcA c).length ≤4194304
def gO (C V:List (List Int)) (T n:Nat) (c:Cluster) (lk:L27Links × List Int) (O:Nat→Nat) (L:List Statement) (B:Nat) (h k:Int) (r:Option (L27Links × Bool)):Prop:=
 ∃m' st',B≤m'∧Inv2 C V T n st' O L∧r=BA m' c lk st'.agents st'.ports st'.cells st'.vars st'.ends st'.pairs h k
theorem fc {c:Cluster} {C V:List (List Int)} {T n b0:Nat} {lk:L27Links × List Int} (hT:ParTab c C V T n b0 lk) (i:Nat) (x:List Parcel) (to:Int) (hi:at? c.channels (i:Int)=some x) (hx:x.all (fun p=>paB p to)=true) (hxs:x.length≤4194304∧∀p ∈ x,p.cell.Small) (D E:List ShardCell) (hD:pcA c=D++(pcC i x++E))
  (O:Nat→Nat) (L:List Statement) (hL:(L++Fb i x).length ≤1000000) (B:Nat) (st:L27Links) (h:Inv2 C V T n st (fun j=>O j+KU b0 D j) L) (N:Nat) (hN:B+1+3*x.length≤N):
  if (Fb i x).all (stB c.grid)=true then gO C V T n c lk (fun j=>O j+KU b0 (D++pcC i x) j) (L++Fb i x) B (((D++pcC i x).length :Nat):Int) (IntKind.i64.wrap ((i:Int)+1)) (BB N c (i:Int) lk st.agents st.ports st.cells st.vars st.ends st.pairs ((D.length:Nat):Int) 0)
  else W8 (BB N c (i:Int) lk st.agents st.ports st.cells st.vars st.ends st.pairs ((D.length:Nat):Int) 0):=by
 unfold Fb at hL ⊢
 have h0:=Sq (σ:=L27Links × Int) x (fun k p=>(FJ (i:Int) k p).all (stB c.grid)) (fun _=>3) (fun pre s=>Inv2 C V T n s.1 (fun j=>O j+KU b0 (D++AO pc1 0 pre) j) (L++AO (FJ (i:Int)) 0 pre)∧s.2 =(((D++AO pc1 0 pre).length :Nat):Int))
  (fun N s k=>BB N c (i:Int) lk s.1.agents s.1.ports s.1.cells s.1.vars s.1.ends s.1.pairs s.2 k) (B+1)
  (gO C V T n c lk (fun j=>O j+KU b0 (D++pcC i x) j) (L++AO (FJ (i:Int)) 0 x) B (((D++pcC i x).length :Nat):Int) (IntKind.i64.wrap ((i:Int)+1))) W8 ?_ ?_ x [] (st,((D.length:Nat):Int)) N rfl ⟨by grind [AO],by simp [AO]⟩ (by rw [A8]; omega)
 ·rw [Hx,List.length_nil] at h0; exact h0
 ·intro pre p post k B' st' hpx hq hk
  obtain⟨st',hh⟩:=st'
  obtain⟨hq,hhe⟩:=hq
  simp only at hq hhe
  obtain⟨k,rfl⟩:∃j,k=j+3:=⟨k - 3,by omega⟩
  have hlt:pre.length<x.length:=by rw [hpx]; simp
  have hx0:=hxs.1
  have hpm:p ∈ x:=by rw [hpx]; simp
  have hpb:=List.all_eq_true.mp hx p hpm
  have hlen:(L++AO (FJ (i:Int)) 0 pre++FJ (i:Int) pre.length p).length ≤1000000:=by
   rw [hpx,FZ,AO,Nat.zero_add] at hL
   grind
  simp only
  rw [BB,hi,AA,decide_eq_true (by omega),if_pos rfl,AA,A1 hpx,AA,Fy,Fy]
  have e12:p.kind=1∨p.kind=2→Bs (k+2) c (i:Int) st'.agents st'.ports st'.cells st'.vars st'.ends st'.pairs hh (pre.length:Int) lk p true=((Bb st' c.grid p.a p.b).bind fun v=>if (!v.1)=true then some (v.2,false) else BB (k+1) c (i:Int) lk v.2.agents v.2.ports v.2.cells v.2.vars v.2.ends v.2.pairs hh (((pre++[p]).length :Nat):Int)):=fun _=>by
   rw [Bs,if_pos rfl,AX hpx (by grind)]
  have pairs:p.kind=1∨p.kind=2→if (FJ (i:Int) pre.length p).all (stB c.grid)=true then ∃ (m':Nat) (st'':L27Links × Int),B'≤m'∧(Inv2 C V T n st''.1 (fun j=>O j+KU b0 (D++(AO pc1 0 pre++pc1 pre.length p)) j) (L++(AO (FJ (i:Int)) 0 pre++FJ (i:Int) pre.length p))∧st''.2 =(((D++(AO pc1 0 pre++pc1 pre.length p)).length :Nat):Int))∧Bs (k+2) c (i:Int) st'.agents st'.ports st'.cells st'.vars st'.ends st'.pairs hh (pre.length:Int) lk p true=BB m' c (i:Int) lk st''.1.agents st''.1.ports st''.1.cells st''.1.vars st''.1.ends st''.1.pairs st''.2 (((pre++[p]).length :Nat):Int)
    else W8 (Bs (k+2) c (i:Int) st'.agents st'.ports st'.cells st'.vars st'.ends st'.pairs hh (pre.length:Int) lk p true):=fun h12=>by
   rw [e12 h12]
   have hps:FJ (i:Int) pre.length p=[⟨nam p.a,nam p.b⟩] :=by unfold FJ; rw [if_pos h12]
   have hpc:pc1 pre.length p=[] :=by unfold pc1; rw [if_neg (by omega)]
   have hp:=dE hT.pl hq (by rw [List.length_append] at hlen; omega) p.a p.b
   rw [hps,hpc,List.append_nil]
   cases hb:List.all [(⟨nam p.a,nam p.b⟩:Statement)] (stB c.grid) with
   |false=>
    rw [hb,if_neg Bool.false_ne_true] at hp
    rw [if_neg Bool.false_ne_true]
    obtain⟨s2,e⟩:=hp
    rw [e,AA]
    exact⟨s2,rfl⟩
   |true=>
    rw [hb,if_pos rfl] at hp
    rw [if_pos rfl]
    obtain⟨s2,e,hi2⟩:=hp
    rw [e,AA]
    exact⟨k+1,(s2,hh),by omega,⟨by rw [← List.append_assoc]; omega,hhe⟩,rfl⟩
  by_cases k1:p.kind=1
  ·rw [decide_eq_true k1,if_pos rfl]; simp_all
  ·rw [decide_eq_false k1,if_neg Bool.false_ne_true]
   by_cases k2:p.kind=2
   ·rw [decide_eq_true k2]; simp_all
   ·rw [decide_eq_false k2]
    by_cases k3:p.kind=3
    ·have hps:FJ (i:Int) pre.length p=AO (GL ⟨i,3,(pre.length:Int)⟩) 0 p.cell.aux++[⟨⟨⟨i,3,(pre.length:Int)⟩,0,true⟩,nam p.b⟩] :=by unfold FJ; rw [if_neg (by omega),if_pos k3]
     have hpc:pc1 pre.length p=[p.cell] :=by unfold pc1; rw [if_pos k3]
     have hcd:pcA c=(D++AO pc1 0 pre)++p.cell::(AO pc1 (pre.length+1) post++E):=by
      rw [hD,pcC,hpx,FZ,AO,Nat.zero_add,hpc]; grind
     have hsz:szC p.cell=p.cell.aux.length+1:=by unfold szC; rw [if_neg (pa3 hpb k3)]
     have hbn:b0+tot (D++AO pc1 0 pre)+p.cell.aux.length<n:=by
      have:=hT.t
      rw [hcd,VL,tot] at this; omega
     have hp:=mR hT.pl p.cell (hxs.2 p hpm) (b0+tot (D++AO pc1 0 pre)) (Or.inr hbn) hT.nn hq ⟨i,3,(pre.length:Int)⟩ (by rw [hps] at hlen; grind)
     have hat:at? lk.2 hh=some ((b0+tot (D++AO pc1 0 pre):Nat):Int):=by rw [hT.h,hhe,hcd,VM]
     have hhl:(D++AO pc1 0 pre).length <(pcA c).length :=by rw [hcd]; simp
     have hkk:=hT.k
     rw [Bs,if_neg Bool.false_ne_true,decide_eq_true k3,if_pos rfl,hat,AA,hps,hpc,List.all_append]
     cases hb:(AO (GL ⟨i,3,(pre.length:Int)⟩) 0 p.cell.aux).all (stB c.grid) with
     |false=>
      rw [hb,if_neg Bool.false_ne_true] at hp
      rw [Bool.false_and,if_neg Bool.false_ne_true]
      obtain⟨s2,e⟩:=hp
      rw [show (⟨st'.agents,st'.ports,st'.cells,st'.vars,st'.ends,st'.pairs⟩:L27Links)=st' from rfl,e,AA]
      simp only
      rw [Bool.not_false,if_pos rfl,Cd,if_pos rfl]
      exact⟨s2,rfl⟩
     | true=>
      rw [hb,if_pos rfl] at hp
      obtain⟨s2,e,hi2⟩:=hp
      rw [Bool.true_and,show List.all [(⟨⟨⟨i,3,(pre.length:Int)⟩,0,true⟩,nam p.b⟩:Statement)] (stB c.grid)=aliveB c.grid p.b by simp [stB,thB,nam]]
      rw [show (⟨st'.agents,st'.ports,st'.cells,st'.vars,st'.ends,st'.pairs⟩:L27Links)=st' from rfl,e,AA]
      simp only
      rw [Bool.not_true,KS c.grid p.b hT.pl.gl hT.pl.gs,AA]
      cases hbb:aliveB c.grid p.b with
      |false=>
       rw [if_neg Bool.false_ne_true,if_neg Bool.false_ne_true,Bool.not_false,Cd,if_pos rfl]
       exact⟨s2,rfl⟩
      | true=>
       obtain⟨q,hqp,hqn⟩:=hT.pl.p _ hbb
       obtain⟨s3,e3,hi3⟩:=Kw hi2 (a:=b0+tot (D++AO pc1 0 pre)) (by omega) hqn (by rw [hps] at hlen; grind)
       rw [if_pos rfl,if_neg Bool.false_ne_true,Bool.not_true,Cd,if_neg Bool.false_ne_true,hat,AA,O2,hi2.c,hi2.v,hqp,AA,e3,AA,AX hpx (by grind)]
       refine⟨k,(s3,IntKind.i64.wrap (hh+1)),by omega,⟨Me hi3 (fun j=>?_) ?_,?_⟩,rfl⟩
       ·rw [← List.append_assoc D,W7 j (D++AO pc1 0 pre)]
        grind [KU,Sr,cN,cT,nam,fZ,VJ]
       ·grind
       grind [w64]
    ·have hps:FJ (i:Int) pre.length p=[] :=by unfold FJ; rw [if_neg (by omega),if_neg k3]
     have hpc:pc1 pre.length p=[] :=by unfold pc1; rw [if_neg k3]
     rw [Bs,if_neg Bool.false_ne_true,decide_eq_false k3,if_neg Bool.false_ne_true,hps,hpc,List.all_nil,if_pos rfl,AX hpx (by grind),List.append_nil,List.append_nil]
     exact⟨k+1,(st',hh),by omega,⟨hq,hhe⟩,rfl⟩
 ·intro k st' hk hq
  obtain⟨st',hh⟩:=st'
  obtain⟨hq,hhe⟩:=hq
  simp only at hq hhe
  obtain⟨k,rfl⟩:∃j,k=j+1:=⟨k - 1,by omega⟩
  simp only
  rw [BB,hi,AA,decide_eq_false (by omega),if_neg Bool.false_ne_true,hhe]
  exact⟨k,st',by omega,hq,rfl⟩
theorem jD {c:Cluster} {C V:List (List Int)} {T n b0:Nat} {lk:L27Links × List Int} (hT:ParTab c C V T n b0 lk) (k:Nat) (hc:allI (chB k) 0 c.channels=true) (hw:szw (fun x=>2+3*List.length x) c.channels≤1000000000)
  (O:Nat→Nat) (L:List Statement) (hL:(L++JS c).length ≤1000000) (st:L27Links) (h:Inv2 C V T n st O L):
  if (JS c).all (stB c.grid)=true then ∃st',BA fuel c lk st.agents st.ports st.cells st.vars st.ends st.pairs 0 0=some (st',true)∧Inv2 C V T n st' (fun j=>O j+KU b0 (pcA c) j) (L++JS c)
  else W8 (BA fuel c lk st.agents st.ports st.cells st.vars st.ends st.pairs 0 0):=by
 have hcl:=hT.s.chl
 unfold JS at hL ⊢
 have h0:=Sq (σ:=L27Links × Int) c.channels (fun i x=>(Fb i x).all (stB c.grid)) (fun x=>2+3*List.length x) (fun pre s=>Inv2 C V T n s.1 (fun j=>O j+KU b0 (AO pcC 0 pre) j) (L++AO Fb 0 pre)∧s.2 =(((AO pcC 0 pre).length :Nat):Int))
  (fun N s k=>BA N c lk s.1.agents s.1.ports s.1.cells s.1.vars s.1.ends s.1.pairs s.2 k) 1
  (fun r=>∃st',r=some (st',true)∧Inv2 C V T n st' (fun j=>O j+KU b0 (pcA c) j) (L++AO Fb 0 c.channels)) W8 ?_ ?_ c.channels [] (st,0) fuel rfl ⟨by simp_all [AO,KU],by rfl⟩ (by rw [Ar]; omega)
 ·rw [Hx,List.length_nil] at h0; exact h0
 ·intro pre x post m B' st' hpx hq hk
  obtain⟨st',hh⟩:=st'
  obtain⟨hq,hhe⟩:=hq
  simp only at hq hhe
  obtain⟨m,rfl⟩:∃j,m=j+1:=⟨m - 1,by omega⟩
  have hlt:pre.length<c.channels.length:=by rw [hpx]; simp
  have hxm:x ∈ c.channels:=by rw [hpx]; simp
  have hcx:=DB.mp hc pre.length x (by rw [hpx]; simp)
  unfold chB at hcx
  simp only [Bool.and_eq_true] at hcx
  have hlen:(L++AO Fb 0 pre++Fb pre.length x).length ≤1000000:=by
   rw [hpx,FZ,AO,Nat.zero_add] at hL
   grind
  have hD:pcA c=AO pcC 0 pre++(pcC pre.length x++AO pcC (pre.length+1) post):=by
   unfold pcA; rw [hpx,FZ,AO,Nat.zero_add]
  have:=fc hT pre.length x _ (A1 hpx) hcx.2 (hT.s.ch x hxm) (AO pcC 0 pre) _ hD O (L++AO Fb 0 pre) hlen B' st' hq m (by omega)
  simp only
  rw [BA,decide_eq_true (by omega),if_pos rfl,hhe,Fy,Fy]
  cases hb:(Fb pre.length x).all (stB c.grid) with
  |false=>rw [hb,if_neg Bool.false_ne_true] at this; rw [if_neg Bool.false_ne_true]; omega
  |true=>
   rw [hb,if_pos rfl] at this
   rw [if_pos rfl]
   obtain⟨m',s2,hm',hi,e⟩:=this
   refine⟨m',(s2,(((AO pcC 0 pre++pcC pre.length x).length :Nat):Int)),hm',⟨by rw [← List.append_assoc L]; exact hi,rfl⟩,?_⟩
   rw [e,AX hpx (by grind)]
 ·intro m st' hk hq
  obtain⟨st',hh⟩:=st'
  obtain⟨hq,hhe⟩:=hq
  obtain⟨m,rfl⟩:∃j,m=j+1:=⟨m - 1,by omega⟩
  simp only
  rw [BA,decide_eq_false (by omega),if_neg Bool.false_ne_true]
  exact⟨st',rfl,hq⟩
theorem jE (c:Cluster) (i:Nat) (x:List Parcel) (hi:at? c.channels (i:Int)=some x) (hx:x.length≤4194304) (Z:Option (L27Links × Bool)) (N:Nat) (acc:List ShardCell) (hB:(acc++pcC i x).length ≤Big) (hZ:∀n,N≤n→Bt n c (acc++pcC i x) (IntKind.i64.wrap ((i:Int)+1))=Z):∀n,N+1+x.length≤n→Bu n c (i:Int) acc 0=Z:=by
 intro n hn
 refine M8 x pc1 (fun _=>1) (fun n acc j=>Bu n c (i:Int) acc j) (acc++pcC i x) Z (N+1) ?_ ?_ hB x [] acc n rfl rfl (by rw [A8]; omega)
 ·intro pre p post acc k B R h hB hR hm
  obtain⟨k,rfl⟩:∃j,k=j+1:=⟨k - 1,by omega⟩
  have hR':=hR k (by omega)
  have hlt:pre.length<x.length:=by rw [h]; simp
  show Bu (k+1) c (i:Int) acc (pre.length:Int)=R
  rw [Bu,hi,AA,decide_eq_true (by omega),if_pos rfl,AA,A1 h,AA,AA,A1 h,AA,AX h (by grind)]
  grind [pc1,Ew]
 ·intro n hn
  obtain⟨n,rfl⟩:∃k,n=k+1:=⟨n - 1,by omega⟩
  grind [Bu]
theorem mS (c:Cluster) (hc:c.Small) (Z:Option (L27Links × Bool)) (hB:(pcA c).length ≤Big)
  (hZ:((Ga c.grid (pcA c)).bind fun v=>(H9 c.grid v.1).bind fun u=>if (!u.1)=true then some (u.2,false) else BA fuel c v u.2.agents u.2.ports u.2.cells u.2.vars u.2.ends u.2.pairs 0 0)=Z):Gb c=Z:=by
 have h1:=hc.chl
 unfold Gb
 refine M8 c.channels pcC (fun x=>2+List.length x) (fun n acc i=>Bt n c acc i) (pcA c) Z 1 ?_ ?_ hB c.channels [] [] fuel rfl rfl (by have:=hc.chw; rw [Ar]; omega)
 ·intro pre x post acc k B R h hB hR hm
  obtain⟨k,rfl⟩:∃j,k=j+1:=⟨k - 1,by omega⟩
  have hlt:pre.length<c.channels.length:=by rw [h]; simp
  show Bt (k+1) c acc (pre.length:Int)=R
  rw [Bt,decide_eq_true (by omega),if_pos rfl]
  exact jE c pre.length x (A1 h) (hc.ch x (by rw [h]; simp)).1 R B acc (by rw [List.length_append]; exact hB) (fun n hn=>by rw [AX h (by grind)]; grind) k (by omega)
 ·intro n hn
  obtain⟨n,rfl⟩:∃k,n=k+1:=⟨n - 1,by omega⟩
  grind [Bt]
end Go.Proofs.YtclmbjbbojdojaaGreat.Ab
