/- Nets that are rewritten. -/
import Derived.Test.YthenkmapmnkelaaGreatDoorPlRp
import Derived.Test.YthenkmapmnkelaaGreatDoorModF
import Derived.Test.YthenkmapmnkelaaGreatDoorPlTU
namespace Go.Proofs.YthenkmapmnkelaaGreatDoor.Ab
set_option linter.unusedVariables false
set_option maxHeartbeats 1000000
set_option linter.unusedSimpArgs false
open Go.RowKit
def pr1 (i:Nat) (a:Agent):List Pair:=match at? a.ports 0 with
 |some v=>if v.slot=0∧(i:Int)<v.agent then [⟨(i:Int),v.agent⟩] else []
 |none=>[]
def prs:Nat→List Agent→List Pair
 |_,[] =>[]
 |i,a::l=>pr1 i a++prs (i+1) l
theorem ec {N} (n:Net) (h:VnN N n.agents) (hN:N≤5000000):II n=some (prs 1 (n.agents.drop 1)):=by
 have hl:n.agents.length≤Big:=by have:=h.len; grind
 have loop:∀ (post pre:List Agent) (acc:List Pair) (k:Nat),n.agents=pre++post→1≤pre.length→acc.length≤pre.length→2*post.length<k→Bt k n acc (pre.length:Int)=some (acc++prs pre.length post):=by
  intro post
  induction post with
  |nil=>
   intro pre acc k C h1 ha hk
   obtain⟨k,rfl⟩:∃q,k=q+1:=⟨k - 1,by omega⟩
   rw [Bt,C0 C,if_neg (by simp),prs,List.append_nil]
  |cons x post ih=>
   intro pre acc k C h1 ha hk
   rw [List.length_cons] at hk
   obtain⟨k,rfl⟩:∃q,k=q+1+1:=⟨k - 2,by omega⟩
   obtain⟨U,Y⟩:=h.ag _ x (BZ C)
   have hp:=Ca U
   have J:x.kind≠1:=fun e=>by omega
   obtain⟨v,hv,-⟩:=EZ (l:=x.ports) (i:=0) (by omega)
   have hnl:pre.length<n.agents.length:=by rw [C]; simp
   have e1:pr1 pre.length x=if v.slot=0∧(pre.length:Int)<v.agent then [⟨(pre.length:Int),v.agent⟩] else [] :=by unfold pr1; rw [hv]
   have O:=fun G W=>ih (pre++[x]) G k (As C) (by simp) W (by omega)
   rw [List.length_append,List.length_singleton] at O
   have hw:=BP C hl
   rw [List.length_append,List.length_singleton] at hw
   rw [Bt,if_pos (Cb C),BZ C,AA,hv,AA,prs,e1]
   grind [DA,A8]
 have u:=h.len
 obtain⟨p,F,j⟩:∃p F,n.agents=p::F:=by
  cases hh:n.agents with
  |nil=>rw [hh] at u; grind
  |cons p F=>grind
 have I:n.agents=[] ++p::F:=by rw [j]; rfl
 obtain⟨U,Y⟩:=h.ag 0 p (BZ I)
 have hp:=Ca U
 have J:p.kind=1:=Y.2 rfl
 obtain⟨v,hv,-⟩:=EZ (l:=p.ports) (i:=0) (by omega)
 have hd:n.agents.drop 1=F:=by rw [j]; rfl
 unfold II
 obtain⟨k,hk⟩:∃q,fuel=q+1+1:=⟨fuel - 2,by rw [AY]⟩
 have l1:=loop F [p] [] k j (by simp) (by simp) (by rw [AY] at hk; rw [j] at u; grind)
 rw [List.length_singleton,List.nil_append,Int.natCast_one] at l1
 have h0:at? n.agents 0=some p:=by grind [BZ]
 rw [hk,Bt,if_pos (by rw [j]; simp),h0,AA,hv,AA,hd]
 grind [DA,w64]
theorem eb {N} (n:Net) (h:VnN N n.agents) (hN:N≤5000000):JQ n=some (prs 1 (n.agents.drop 1)):=by
 have hl:n.agents.length≤Big:=by have:=h.len; grind
 have loop:∀ (post pre:List Agent) (acc:List Pair) (k:Nat),n.agents=pre++post→acc.length≤pre.length→2*post.length<k→CD k n acc (pre.length:Int)=some (acc++prs pre.length post):=by
  intro post
  induction post with
  |nil=>
   intro pre acc k p ha hk
   obtain⟨k,rfl⟩:∃q,k=q+1:=⟨k - 1,by omega⟩
   rw [CD,C0 p,if_neg (by simp),prs,List.append_nil]
  |cons x post ih=>
   intro pre acc k p ha hk
   rw [List.length_cons] at hk
   obtain⟨k,rfl⟩:∃q,k=q+1+1:=⟨k - 2,by omega⟩
   obtain⟨O,gk⟩:=h.ag _ x (BZ p)
   have hp:=Ca O
   have Y:x.kind≠0:=by have:=Mx O; omega
   obtain⟨v,hv,-⟩:=EZ (l:=x.ports) (i:=0) (by omega)
   have U:pre.length<n.agents.length:=by rw [p]; simp
   have W:pr1 pre.length x=if v.slot=0∧(pre.length:Int)<v.agent then [⟨(pre.length:Int),v.agent⟩] else [] :=by unfold pr1; rw [hv]
   have I:=fun C J=>ih (pre++[x]) C k (As p) J (by omega)
   rw [List.length_append,List.length_singleton] at I
   have hw:=BP p hl
   rw [List.length_append,List.length_singleton] at hw
   rw [CD,if_pos (Cb p),BZ p,AA,if_neg (by grind),AA,hv,AA,prs,W]
   grind [Fl,A8]
 have j:=h.len
 obtain⟨G,F,u⟩:∃G F,n.agents=G::F:=by
  cases hh:n.agents with
  |nil=>rw [hh] at j; grind
  |cons G F=>grind
 have hd:n.agents.drop 1=F:=by rw [u]; rfl
 unfold JQ
 have l1:=loop F [G] [] fuel u (by simp) (by rw [AY]; rw [u] at j; grind)
 rw [List.length_singleton,List.nil_append,Int.natCast_one] at l1
 rw [l1,hd]
theorem cf:∀ (l:List Agent) (i:Nat) (p:Pair),p ∈ prs i l→∃ (j:Nat) (a:Agent) (v:Port),l[j]? =some a∧at? a.ports 0=some v∧v.slot=0∧p=⟨((i+j:Nat):Int),v.agent⟩∧p.a<v.agent
 | [],_,p,h=>by simp [prs] at h
 | a ::l,i,p,h=>by
  rw [prs] at h
  rcases List.mem_append.1 h with h|h
  ·unfold pr1 at h
   split at h
   ·rename_i v hv
    split at h
    ·rename_i q
     rw [List.mem_singleton] at h
     subst h
     exact⟨0,a,v,rfl,hv,q.1,rfl,q.2⟩
    grind
   grind
  ·obtain⟨j,b,v,h1,h2,h3,u,C⟩:=cf l (i+1) p h
   exact⟨j+1,b,v,h1,h2,h3,by rw [u]; grind,C⟩
theorem iN {N} {l} (h:VnN N l) {p} (hp:p ∈ prs 1 (l.drop 1)):∃a b,Pr (fun k=>k ∈ ([] :List Int)) l p.a p.b a b∧agB a=true∧agB b=true∧a.kind≠1∧b.kind≠1:=by
 obtain⟨j,a,v,h1,h2,h3,q,J⟩:=cf _ _ _ hp
 rw [List.getElem?_drop] at h1
 have u:at? l p.a=some a:=by rw [q]; exact My h1
 have hg:Ab.get l ⟨p.a,0⟩=some ⟨p.b,0⟩:=Aj.2 ⟨a,u,by rw [h2,q]; exact congrArg some (Co rfl h3)⟩
 obtain⟨-,-,F⟩:=h.m _ _ hg not_false
 obtain⟨b,C,-⟩:=Aj.1 F
 have G:p.a=((1+j:Nat):Int):=by rw [q]
 have I:p.b=v.agent:=by rw [q]
 refine⟨a,b,⟨u,C,hg,by simp,by simp⟩,(h.ag _ _ u).1,(h.ag _ _ C).1,fun e=>?_,fun e=>?_⟩
 ·have:=(h.ag _ _ u).2.1 e; omega
 ·have:=(h.ag _ _ C).2.1 e; grind
theorem lK {α:Type} {l:List α} {p:α→Bool}:l.any (fun x=> !p x)= !l.all p:=by
 grind
def Mo (l:List Net):Bool:=decide (l.length≤24)&&l.all Net.valid
theorem Yy (l:List Net) (f:Net→Option Bool) (p:Net→Bool) (hl:l.length≤Big) (hf:∀x ∈ l,f x=some (p x)):CG l f=some (l.any p):=by
 obtain⟨i,h1,h2,-⟩:=Lg BG (fun n l i f=>by rw [BG]) l f p hl hf
 grind [CG,EG]
theorem eZ (l:List Net) (hl:l.length≤Big) (hs:∀n ∈ l,n.Small):Ey l=some (Mo l):=by
 unfold Ey Mo
 rw [Yy l _ (fun n=> !n.valid) hl (fun n j=>by unfold FP; rw [W2 n (hs n j),AA]),lK,AA,Bool.not_not]
 have e:decide ((l.length:Int)≤24)=decide (l.length≤24):=by grind
 rw [e]
 cases decide (l.length≤24) <;> simp
theorem eY (l:List Net) (hl:l.length≤Big) (hs:∀n ∈ l,n.Small):Kq l=some (Mo l):=by
 unfold Kq Mo
 rw [n7 (fun n i=>FQ n l i) Lf Net.valid l (fun n i=>by rw [FQ]) hl fun n j=>cZ n (hs n j)]
 grind
theorem ed {l} (h:Mo l=true):∀T ∈ l,Vn T.agents:=fun T j=>by
 grind [Mo,Net.valid_vn]
def kp:Nat→List Agent→List Int
 |_,[] =>[]
 |i,a::l=>if a.kind=0 then kp (i+1) l else (i:Int)::kp (i+1) l
def mpz:Nat→List Int→List (Int × Int)
 |_,[] =>[]
 |j,k::l=>(k,(j:Int))::mpz (j+1) l
def ixL:Nat→List Agent→List Int
 |_,[] =>[]
 |c,a::l=>(c:Int)::ixL (if a.kind=0 then c else c+1) l
theorem aa:∀ (l:List Agent) (i:Nat),(kp i l).length ≤l.length
 | [],_=>by simp [kp]
 |a::l,i=>by
  have:=aa l (i+1)
  rw [kp,List.length_cons]
  grind
theorem cg:∀ (l:List Agent) (c t:Nat),t<l.length→(ixL c l)[t]? =some ((c+AU (l.take t):Nat):Int)
 | [],_,t,h=>by grind
 |a::l,c,0,h=>by rfl
 |a::l,c,t+1,h=>by
  rw [List.length_cons] at h
  rw [ixL,List.getElem?_cons_succ,cg l _ t (by omega),List.take_succ_cons,AU]
  grind
theorem iQ:∀ (l:List Agent) (i:Nat) (k:Int),k ∈ kp i l→(i:Int)≤k
 | [],_,k,h=>by simp [kp] at h
 | a::l,i,k,h=>by
  rw [kp] at h
  split at h
  ·have:=iQ l (i+1) k h; omega
  ·rcases List.mem_cons.1 h with e|e
   ·omega
   ·have:=iQ l (i+1) k e; omega
theorem W7:∀ (l:List Agent) (i j t:Nat) (a:Agent),l[t]? =some a→a.kind≠0→J0 (mpz j (kp i l)) ((i+t:Nat):Int)=some ((j+AU (l.take t):Nat):Int)
 | [],_,_,t,a,h,_=>by grind
 |b::l,i,j,0,a,h,hk=>by
  grind [kp,mpz,J0,AU]
 | b::l,i,j,t+1,a,h,hk=>by
  rw [List.getElem?_cons_succ] at h
  rw [kp,List.take_succ_cons,AU]
  by_cases e:b.kind=0
  ·rw [if_pos e,if_pos e,show i+(t+1)=(i+1)+t from by omega,W7 l (i+1) j t a h hk,Nat.zero_add]
  ·rw [if_neg e,if_neg e,mpz,J0,if_neg (by omega),show i+(t+1)=(i+1)+t from by omega,W7 l (i+1) (j+1) t a h hk]
   grind
def rnP (f:Int→Int) (q:Port):Port:=⟨f q.agent,q.slot⟩
def rnA (f:Int→Int) (a:Agent):Agent:=⟨a.kind,a.level,a.value,a.data,a.ports.map (rnP f)⟩
def DV (f:Int→Int):List Agent→List Agent
 | [] =>[]
 |a::l=>if a.kind=0 then DV f l else rnA f a::DV f l
theorem WI (f:Int→Int):∀l:List Agent,(DV f l).length ≤l.length
 | [] =>by simp [DV]
 |a::l=>by
  have:=WI f l
  rw [DV,List.length_cons]
  grind
theorem eh (n:Net) (ix:List Int) (f:Int→Int) (i:Int) (x:Agent) (acc:List Agent):∀ (post pre:List Port) (k:Nat),(∀q ∈ post,at? ix q.agent=some (f q.agent))→pre.length+post.length≤Big→
  Dn (post.length+1+k) n ix acc i x (pre.map (rnP f)++post) (pre.length:Int)=(app? acc [⟨x.kind,x.level,x.value,x.data,(pre++post).map (rnP f)⟩]).bind fun v=>Bc k n ix v (IntKind.i64.wrap (i+1)):=by
 intro post
 induction post with
 |nil=>
  intro pre k j p
  rw [show ([] :List Port).length +1+k=k+1 from by grind,Dn,if_neg (by simp),List.append_nil,List.append_nil]
 |cons q post ih=>
  intro pre k j p
  rw [List.length_cons] at p
  have u:(pre.length:Int)=((List.length (pre.map (rnP f)):Nat):Int):=by rw [List.length_map]
  rw [show (q::post).length +1+k=(post.length+1+k)+1 from by grind,Dn,if_pos (by grind),u,Hb,AA,j q List.mem_cons_self,AA,AA,Mz,AA,← u,w64 (by omega) (by grind)]
  have:=ih (pre++[q]) k (fun r C=>j r (List.mem_cons_of_mem _ C)) (by grind)
  rw [List.map_append,List.map_singleton,List.append_assoc,List.singleton_append,List.append_assoc,List.singleton_append,List.length_append,List.length_singleton] at this
  rw [show (pre.length:Int)+1=((List.length pre+1:Nat):Int) from by omega]
  exact this
theorem ei (n:Net) (keep:List Int) (mp:List (Int × Int)) (f:Int→Int) (i:Int) (x:Agent) (acc:List Agent):∀ (post pre:List Port) (k:Nat),x.ports=pre++post→(∀q ∈ post,(J0 mp q.agent).getD 0=f q.agent)→pre.length+post.length≤Big→
  Bs (post.length+1+k) n keep mp acc i x (pre.map (rnP f)++post) (pre.length:Int)=(app? acc [⟨x.kind,x.level,x.value,x.data,(pre++post).map (rnP f)⟩]).bind fun v=>An k n keep mp v (IntKind.i64.wrap (i+1)):=by
 intro post
 induction post with
 |nil=>
  intro pre k hx j p
  rw [show ([] :List Port).length +1+k=k+1 from by grind,Bs,if_neg (by rw [hx]; simp),List.append_nil,List.append_nil]
 |cons q post ih=>
  intro pre k hx j p
  rw [List.length_cons] at p
  have u:(pre.length:Int)=((List.length (pre.map (rnP f)):Nat):Int):=by rw [List.length_map]
  rw [show (q::post).length +1+k=(post.length+1+k)+1 from by grind,Bs,if_pos (by rw [hx]; grind),u,Hb,AA,AA,j q List.mem_cons_self,Mz,AA,← u,w64 (by omega) (by grind)]
  have:=ih (pre++[q]) k (by rw [hx]; simp) (fun r C=>j r (List.mem_cons_of_mem _ C)) (by grind)
  rw [List.map_append,List.map_singleton,List.append_assoc,List.singleton_append,List.append_assoc,List.singleton_append,List.length_append,List.length_singleton] at this
  rw [show (pre.length:Int)+1=((List.length pre+1:Nat):Int) from by omega]
  exact this
def posN (B:List Agent) (k:Int):Int:=((AU (B.take k.toNat):Nat):Int)
def S2 (B:List Agent):Prop:=∀ (a:Agent),a ∈ B→a.kind≠0→(a.ports.length≤4∧a.data.length≤4)∧∀q ∈ a.ports,∃b,at? B q.agent=some b∧b.kind≠0
theorem lL (B:List Agent) (hB:B.length≤16000000) (hc:S2 B):Iw ⟨B⟩=some ⟨DV (posN B) B⟩:=by
 have F:B.length≤Big:=by grind
 have p:∀q:Port,(∃b,at? B q.agent=some b)→at? (ixL 0 B) q.agent=some (posN B q.agent):=fun q ⟨b,hb⟩=>by
  have:=DN hb
  unfold at?
  rw [if_pos this.1,cg B 0 q.agent.toNat (by omega),Nat.zero_add]; rfl
 have C:∀ (post pre acc:List Agent) (k:Nat),B=pre++post→acc.length≤pre.length→10*post.length<k→Bc k ⟨B⟩ (ixL 0 B) acc (pre.length:Int)=some ⟨acc++DV (posN B) post⟩:=by
  intro post
  induction post with
  |nil=>
   intro pre acc k h G hk
   obtain⟨k,rfl⟩:∃q,k=q+1:=⟨k - 1,by omega⟩
   have j:(⟨B⟩:Net).agents =pre++[] :=h
   rw [Bc,C0 j,if_neg (by simp),DV,List.append_nil]
  | cons x post ih=>
   intro pre acc k h G hk
   rw [List.length_cons] at hk
   have j:(⟨B⟩:Net).agents =pre++x::post:=h
   have u:pre.length<B.length:=by rw [h]; simp
   by_cases h0:x.kind=0
   ·obtain⟨k,rfl⟩:∃q,k=q+1:=⟨k - 1,by omega⟩
    rw [Bc,if_pos (Cb j),BZ j,AA,if_neg (by grind),BP j F,ih (pre++[x]) acc k (As h) (by grind) (by omega),DV,if_pos h0]
   ·obtain⟨⟨hp,hd⟩,U⟩:=hc x (by rw [h]; simp) h0
    obtain⟨k,rfl⟩:∃q,k=(x.ports.length+1+q)+1:=⟨k - x.ports.length - 2,by omega⟩
    rw [Bc,if_pos (Cb j),BZ j,AA,if_pos (by grind),AA,J4 x (by grind) (by grind),AA]
    have:=eh ⟨B⟩ (ixL 0 B) (posN B) (pre.length:Int) x acc x.ports [] k (fun q J=>p q (by grind)) (by grind)
    simp only [List.map_nil,List.nil_append,List.length_nil,Int.natCast_zero] at this
    rw [this,A8 (by grind),AA,BP j F,DV,if_neg h0]
    have e:(⟨x.kind,x.level,x.value,x.data,x.ports.map (rnP (posN B))⟩:Agent)=rnA (posN B) x:=rfl
    rw [e,ih (pre++[x]) (acc++[rnA (posN B) x]) k (As h) (by grind) (by omega),List.append_assoc,List.singleton_append]
 have l2:∀ (post pre:List Agent) (acc:List Int) (k:Nat),B=pre++post→acc.length=pre.length→acc++ixL (AU pre) post=ixL 0 B→post.length<k→Dd k ⟨B⟩ acc ((AU pre:Nat):Int) (pre.length:Int)=Bc fuel ⟨B⟩ (ixL 0 B) [] 0:=by
  intro post
  induction post with
  |nil=>
   intro pre acc k h G hx hk
   obtain⟨k,rfl⟩:∃q,k=q+1:=⟨k - 1,by omega⟩
   have j:(⟨B⟩:Net).agents =pre++[] :=h
   rw [ixL,List.append_nil] at hx
   rw [Dd,C0 j,if_neg (by simp),hx]
  |cons x post ih=>
   intro pre acc k h G hx hk
   rw [List.length_cons] at hk
   obtain⟨k,rfl⟩:∃q,k=q+1:=⟨k - 1,by omega⟩
   have j:(⟨B⟩:Net).agents =pre++x::post:=h
   have u:pre.length<B.length:=by rw [h]; simp
   have O:=Ps pre
   have v:=ih (pre++[x]) (acc++[((AU pre:Nat):Int)]) k (As h) (by grind)
   rw [ixL] at hx
   rw [I4] at v
   rw [Dd,if_pos (Cb j),A8 (by grind),AA,BZ j,AA,BP j F]
   grind [AU,w64]
 unfold Iw
 have e:=l2 B [] [] fuel rfl rfl (by rfl) (by rw [AY]; omega)
 simp only [AU,List.length_nil,Int.natCast_zero] at e
 have I:=C B [] [] fuel rfl (by simp) (by rw [AY]; omega)
 simp only [List.length_nil,Int.natCast_zero,List.nil_append] at I
 rw [e,I]
theorem ae:∀ (l m:List Agent) (i:Nat),kp i (l++m)=kp i l++kp (i+l.length) m
 | [],m,i=>by rfl
 |a::l,m,i=>by
  rw [List.cons_append,kp,kp,ae l m (i+1),List.length_cons,show i+1+l.length=i+(l.length+1) from by omega]
  grind
theorem Pt:∀ (l:List Agent) (i:Nat),(kp i l).length =AU l
 | [],_=>rfl
 |a::l,i=>by
  rw [kp,AU]
  split
  ·rw [Pt l]; omega
  ·rw [List.length_cons,Pt l]; omega
theorem UF:∀ (l:List Agent) (i:Nat),(kp i l).Nodup
 | [],_=>by simp [kp]
 | a::l,i=>by
  rw [kp]
  split
  ·exact UF l (i+1)
  ·refine List.nodup_cons.2 ⟨fun h=>?_,UF l (i+1)⟩
   have:=iQ l (i+1) _ h; omega
theorem lM (l:List Int) (k:Int):∀j,mpz j (l++[k])=mpz j l++[(k,((j+l.length:Nat):Int))] :=by
 induction l with
 |nil=>grind [mpz]
 |cons a l ih=>grind [mpz]
theorem Yz:∀ (l:List Int) (j:Nat) (k v:Int),k ∉ l→Mi (mpz j l) k v=mpz j l++[(k,v)]
 | [],_,_,_,_=>rfl
 |a::l,j,k,v,h=>by
  rw [mpz,Mi,if_neg (fun e=>h (by grind)),Yz l (j+1) k v (fun e=>h (List.mem_cons_of_mem _ e))]; rfl
theorem ci:∀ (l:List Int) (j:Nat),(mpz j l).length =l.length
 | [],_=>rfl
 |a::l,j=>by rw [mpz,List.length_cons,ci l,List.length_cons]
section
variable {R:List Int} {X:Port→Prop} {A B:List Agent}
theorem iR (n:Net) (K:List Int) (hn:K.Nodup) (hl:K.length≤16000000):Ew n K=An fuel n K (mpz 0 K) [] 0:=by
 have j:K.length≤Big:=by grind
 have l2:∀ (post pre:List Int) (k:Nat),K=pre++post→post.length<k→B6 k n K (mpz 0 pre) (pre.length:Int)=An fuel n K (mpz 0 K) [] 0:=by
  intro post
  induction post with
  |nil=>
   intro pre k h hk
   obtain⟨k,rfl⟩:∃q,k=q+1:=⟨k - 1,by omega⟩
   have e:pre=K:=by rw [h,List.append_nil]
   rw [B6,C0 h,if_neg (by simp),e]
  | cons x post ih=>
   intro pre k h hk
   rw [List.length_cons] at hk
   obtain⟨k,rfl⟩:∃q,k=q+1:=⟨k - 1,by omega⟩
   have hx:x ∉ pre:=fun e=>by
    rw [h,List.nodup_append] at hn
    grind
   have p:pre.length<K.length:=by rw [h]; simp
   have u:Rx (mpz 0 pre) x (pre.length:Int)=some (mpz 0 (pre++[x])):=by
    unfold Rx
    rw [if_pos (by rw [ci]; omega),Yz _ _ _ _ hx,lM,Nat.zero_add]
   rw [B6,if_pos (Cb h),BZ h,AA,u,AA,BP h j]
   grind
 unfold Ew
 exact l2 K [] fuel rfl (by rw [AY]; omega)
theorem rn (hok:Ok (fun k=>k ∈ R) X A B) (hkn:∀ (k:Int) a,at? B k=some a→(a.kind=0↔k ∈ R)) (hB:B.length≤16000000) (hc:S2 B):Ew ⟨A⟩ (kp 0 B)=some ⟨DV (posN B) B⟩:=by
 have J:(kp 0 B).length ≤16000000:=by grind [aa]
 rw [iR ⟨A⟩ (kp 0 B) (UF B 0) J]
 have v:∀q:Port,(∃b,at? B q.agent=some b∧b.kind≠0)→(J0 (mpz 0 (kp 0 B)) q.agent).getD 0=posN B q.agent:=fun q ⟨b,p,hk⟩=>by
  obtain⟨h1,h2⟩:=Au p
  have:=W7 B 0 0 q.agent.toNat b h2 hk
  rw [Nat.zero_add,Nat.zero_add,Int.toNat_of_nonneg h1] at this
  rw [this]; rfl
 have I:∀ (post pre:List Agent) (acc:List Agent) (k:Nat),B=pre++post→acc.length≤pre.length→10*post.length<k→An k ⟨A⟩ (kp 0 B) (mpz 0 (kp 0 B)) acc ((AU pre:Nat):Int)=some ⟨acc++DV (posN B) post⟩:=by
  intro post
  induction post with
  |nil=>
   intro pre acc k h ha hk
   obtain⟨k,rfl⟩:∃q,k=q+1:=⟨k - 1,by omega⟩
   have e:pre=B:=by rw [h,List.append_nil]
   rw [An,if_neg (by rw [Pt,e]; simp),DV,List.append_nil]
  | cons x post ih=>
   intro pre acc k h ha hk
   rw [List.length_cons] at hk
   have W:pre.length<B.length:=by rw [h]; simp
   have hlv:=Ps pre
   by_cases h0:x.kind=0
   ·have:=ih (pre++[x]) acc k (As h) (by grind) (by omega)
    rw [I4,show AU [x] =0 from by simp [AU,h0],Nat.add_zero] at this
    rw [this,DV,if_pos h0]
   ·obtain⟨⟨hp,hd⟩,Y⟩:=hc x (by rw [h]; simp) h0
    obtain⟨k,rfl⟩:∃q,k=(x.ports.length+1+q)+1:=⟨k - x.ports.length - 2,by omega⟩
    have p:at? B (pre.length:Int)=some x:=BZ h
    have u:(pre.length:Int) ∉ R:=fun e=>h0 ((hkn _ _ p).2 e)
    have C:at? A (pre.length:Int)=some x:=(hok.ag _ u).trans p
    have U:kp 0 B=kp 0 pre++(pre.length:Int)::kp (pre.length+1) post:=by
     rw [h,ae,Nat.zero_add,kp,if_neg h0]
    have G:at? (kp 0 B) ((AU pre:Nat):Int)=some (pre.length:Int):=by
     rw [U,← Pt pre 0]; exact Hb
    have O:decide (((AU pre:Nat):Int)<(((kp 0 B).length :Nat):Int))=true:=by
     rw [U,← Pt pre 0]; grind
    rw [An,if_pos O,G,AA,C,AA,Pu x ⟨by grind,by grind⟩,AA]
    have:=ei ⟨A⟩ (kp 0 B) (mpz 0 (kp 0 B)) (posN B) ((AU pre:Nat):Int) x acc x.ports [] k rfl (fun q F=>v q (Y q F)) (by grind)
    simp only [List.map_nil,List.nil_append,List.length_nil,Int.natCast_zero] at this
    rw [this,A8 (by grind),AA,w64 (by omega) (by omega),DV,if_neg h0]
    have e:(⟨x.kind,x.level,x.value,x.data,x.ports.map (rnP (posN B))⟩:Agent)=rnA (posN B) x:=rfl
    have j:=ih (pre++[x]) (acc++[rnA (posN B) x]) k (As h) (by grind) (by omega)
    rw [I4,show AU [x] =1 from by simp [AU,h0]] at j
    rw [e,show ((AU pre:Nat):Int)+1=((AU pre+1:Nat):Int) from by omega,j,List.append_assoc,List.singleton_append]
 have:=I B [] [] fuel rfl (by simp) (by rw [AY]; omega)
 grind [AU]
theorem ej (hok:Ok (fun k=>k ∈ R) X A B) (hkn:∀ (k:Int) a,at? B k=some a→(a.kind=0↔k ∈ R)) (hB:B.length≤16000000) (hc:S2 B) (bk:List Net):DM ⟨⟨A⟩,bk,remM R⟩=some ⟨DV (posN B) B⟩:=by
 have u:=hok.len
 have l2:∀ (post pre:List Agent) (acc:List Int) (k:Nat),B=pre++post→acc=kp 0 pre→post.length<k→A9 k ⟨⟨A⟩,bk,remM R⟩ acc (pre.length:Int)=some ⟨DV (posN B) B⟩:=by
  intro post
  induction post with
  |nil=>
   intro pre acc k h p hk
   obtain⟨k,rfl⟩:∃q,k=q+1:=⟨k - 1,by omega⟩
   have e:pre=B:=by rw [h,List.append_nil]
   rw [A9,if_neg (by rw [e]; grind),p,e,rn hok hkn hB hc,AA]
  | cons x post ih=>
   intro pre acc k h p hk
   rw [List.length_cons] at hk
   obtain⟨k,rfl⟩:∃q,k=q+1:=⟨k - 1,by omega⟩
   have F:pre.length<B.length:=by rw [h]; simp
   have G:at? B (pre.length:Int)=some x:=BZ h
   have C:=aa pre 0
   have v:=hkn _ _ G
   have j:kp 0 (pre++[x])=if x.kind=0 then kp 0 pre else kp 0 pre++[(pre.length:Int)] :=by
    rw [ae,Nat.zero_add,kp,kp]; split <;> simp
   rw [A9,if_pos (by grind),Y0]
   by_cases h0:x.kind=0
   ·rw [if_neg (by grind),w64 (by omega) (by omega)]
    have:=ih (pre++[x]) acc k (As h) (by rw [j,if_pos h0,p]) (by omega)
    rw [List.length_append,List.length_singleton] at this
    rw [show (pre.length:Int)+1=((List.length pre+1:Nat):Int) from by omega]
    omega
   ·rw [if_pos (by grind),A8 (by rw [p]; grind),AA,w64 (by omega) (by omega)]
    have:=ih (pre++[x]) (acc++[(pre.length:Int)]) k (As h) (by rw [j,if_neg h0,p]) (by omega)
    rw [List.length_append,List.length_singleton] at this
    rw [show (pre.length:Int)+1=((List.length pre+1:Nat):Int) from by omega]
    omega
 unfold DM
 exact l2 B [] [] fuel rfl rfl (by rw [AY]; omega)
theorem Stt.kinds (h:Stt R A B):∀ (k:Int) a,at? B k=some a→(a.kind=0↔k ∈ R):=fun k a p=>by
 constructor
 ·intro q
  by_cases j:k ∈ R
  ·exact j
  ·exfalso
   have e:=(h.ok.ag k j).trans p
   exact(h.nb a (List.mem_of_getElem? (Au e).2)).2.2 q
 ·intro j
  have:=h.ok.hl k j
  rw [p] at this
  cases this
  rfl
theorem Stt.closed (h:Stt R A B):S2 B:=fun a J I=>by
 obtain⟨i,G,rfl⟩:=List.getElem_of_mem J
 have C:at? B (i:Int)=some B[i] :=My (by rw [List.getElem?_eq_getElem G])
 have u:((i:Nat):Int) ∉ R:=fun e=>I ((h.kinds _ _ C).2 e)
 have p:=(h.ok.ag _ u).trans C
 have v:=h.nb _ (List.mem_of_getElem? (Au p).2)
 refine⟨⟨v.2.1,v.1⟩,fun q F=>?_⟩
 obtain⟨s,hs,e⟩:=List.getElem_of_mem F
 have hg:Ab.get A ⟨(i:Int),(s:Int)⟩=some q:=Aj.2 ⟨_,p,My (by rw [List.getElem?_eq_getElem hs,e])⟩
 obtain⟨h1,-,h3⟩:=h.ok.m _ _ hg u
 obtain⟨b,j,-⟩:=Aj.1 h3
 exact⟨b,(h.ok.ag _ h1).symm.trans j,(h.nb b (List.mem_of_getElem? (Au j).2)).2.2⟩
theorem Stt.result (h:Stt R A B) (hB:A.length≤16000000) (bk:List Net):DM ⟨⟨A⟩,bk,remM R⟩=some ⟨DV (posN B) B⟩∧Iw ⟨B⟩=some ⟨DV (posN B) B⟩:=by
 have j:=h.ok.len
 exact⟨ej h.ok h.kinds (by omega) h.closed bk,lL B (by omega) h.closed⟩
end
theorem VnN.stt {N} {l} (h:VnN N l):Stt [] l l:=by
 have hk:∀a ∈ l,a.kind≠0:=fun a j=>by have:=Mx (h.mem j); omega
 refine⟨⟨rfl,fun _ _=>rfl,fun k hk=>by grind,h.m.mono fun p=>by simp,fun p hp=>hp⟩,by rw [Nj hk]; rfl,fun a j=>?_⟩
 have g:=h.mem j
 exact⟨M0 g,(Ca g).2,hk a j⟩
def PrW (R:List Int) (A:List Agent) (p:Pair):Prop:=∃a b,Pr (fun k=>k ∈ R) A p.a p.b a b∧agB a=true∧agB b=true∧a.kind≠1∧b.kind≠1
theorem PrW.keep {R} {A B} (hst:Stt R A B) {x y} {R'} {A' B'} {new} (ho:Outc R A x y R' A' B' new) {p} (h:PrW R A p) (n1:p.a≠x) (n2:p.a≠y) (n3:p.b≠x) (n4:p.b≠y):PrW R' A' p:=by
 obtain⟨a,b,hp,J,O,ka,kb⟩:=h
 have u:=Cc (m:=new) (Em hp.hx)
 have C:=Cc (m:=new) (Em hp.hy)
 rw [← ho.shp] at u C
 obtain⟨a',q,sa⟩:=Pv u
 obtain⟨U,j,I⟩:=Pv C
 obtain⟨G,W⟩:=UG sa
 obtain⟨q3,Y⟩:=UG I
 have F:p.a ∉ R':=fun e=>by
  rcases (ho.mem _).1 e with e|e|e
  ·exact hp.sx e
  ·omega
  omega
 have v:p.b ∉ R':=fun e=>by
  rcases (ho.mem _).1 e with e|e|e
  ·exact hp.sy e
  ·omega
  omega
 exact⟨a',U,⟨q,j,ho.fr _ _ hp.w (hst.ok.m _ _ hp.w hp.sx).2.2 F v,F,v⟩,by rw [G]; exact J,by rw [q3]; exact O,by rw [W]; exact ka,by rw [Y]; exact kb⟩
theorem UH (f:Int→Int):∀ (l:List Agent) (t:Nat) (a:Agent),l[t]? =some a→a.kind≠0→(DV f l)[AU (l.take t)]? =some (rnA f a)
 | [],t,a,h,_=>by grind
 |b::l,0,a,h,hk=>by
  simp only [List.getElem?_cons_zero,Option.some.injEq] at h
  subst h
  rw [DV,if_neg hk]; rfl
 |b::l,t+1,a,h,hk=>by
  rw [List.getElem?_cons_succ] at h
  have j:=UH f l t a h hk
  rw [List.take_succ_cons,AU,DV]
  grind
theorem Nk (f:Int→Int):∀ (l:List Agent) (j:Nat) (v:Agent),(DV f l)[j]? =some v→∃t a,l[t]? =some a∧a.kind≠0∧v=rnA f a∧j=AU (l.take t)
 | [],j,v,h=>by grind [DV]
 | b::l,j,v,h=>by
  rw [DV] at h
  by_cases e:b.kind=0
  ·rw [if_pos e] at h
   obtain⟨t,a,h1,h2,h3,p⟩:=Nk f l j v h
   exact⟨t+1,a,by grind,h2,h3,by rw [List.take_succ_cons,AU,if_pos e]; omega⟩
  ·rw [if_neg e] at h
   cases j with
   |zero=>
    simp only [List.getElem?_cons_zero,Option.some.injEq] at h
    exact⟨0,b,rfl,e,h.symm,rfl⟩
   |succ j=>
    rw [List.getElem?_cons_succ] at h
    obtain⟨t,a,h1,h2,h3,p⟩:=Nk f l j v h
    exact⟨t+1,a,by grind,h2,h3,by rw [List.take_succ_cons,AU,if_neg e]; omega⟩
theorem W8:∀ (l:List Agent) (t u:Nat) (a:Agent),l[t]? =some a→a.kind≠0→t<u→AU (l.take t)<AU (l.take u)
 | [],t,u,a,h,_,_=>by grind
 |b::l,0,u+1,a,h,hk,_=>by
  grind [AU]
 |b::l,t+1,u+1,a,h,hk,hlt=>by
  rw [List.getElem?_cons_succ] at h
  have:=W8 l t u a h hk (by omega)
  rw [List.take_succ_cons,List.take_succ_cons,AU,AU]; omega
theorem Y1 {l:List Agent} {t u:Nat} {a b:Agent} (ha:l[t]? =some a) (hb:l[u]? =some b) (ka:a.kind≠0) (kb:b.kind≠0) (h:AU (l.take t)=AU (l.take u)):t=u:=by
 rcases Nat.lt_trichotomy t u with e|e|e
 ·have:=W8 l t u a ha ka e; omega
 ·exact e
 ·have:=W8 l u t b hb kb e; omega
theorem n8 (f:Int→Int) (a:Agent):sh (rnA f a)=sh a:=by simp [sh,rnA]
structure Vst (R:List Int) (A B:List Agent):Prop where
 st:Stt R A B
 sv:∀k a,at? A k=some a→agB a=true∧(a.kind=1↔k=0)
 r0:(0:Int) ∉ R
 a0:1≤A.length
theorem VnN.vst {N} {l} (h:VnN N l):Vst [] l l:=⟨h.stt,h.ag,by simp,h.len.1⟩
theorem Vst.next {R R'} {A A' B B'} (h:Vst R A B) {x y} {new} {a b} (ha:at? A x=some a) (hb:at? A y=some b) (ka:a.kind≠1) (kb:b.kind≠1) (o:Outc R A x y R' A' B' new):Vst R' A' B':=by
 have p:=Lc o.shp
 rw [List.length_append,List.length_map] at p
 have G:=h.a0
 refine⟨o.st,fun k c u=>?_,fun e=>?_,by omega⟩
 ·have U:=DN u
  by_cases hk:k<(A.length:Int)
  ·obtain⟨d,hd,-⟩:=EZ (l:=A) (i:=k) (by omega)
   have j:=Cc (m:=new) (Em hd)
   rw [← o.shp,Em u] at j
   obtain⟨I,O⟩:=UG (Option.some.inj j)
   obtain⟨J,W⟩:=h.sv k d hd
   grind
  ·obtain⟨i,F⟩:∃i:Nat,k=((A.length+i:Nat):Int):=⟨(k - A.length).toNat,by omega⟩
   have q:i<new.length:=by omega
   have j:=Gd (l:=A.map sh) (m:=new) (k:=i) (List.getElem?_eq_getElem q)
   rw [← o.shp,List.length_map,← F,Em u] at j
   obtain⟨C,v⟩:=o.sv _ (List.getElem_mem q)
   rw [← Option.some.inj j] at C v
   rw [ah] at v
   refine⟨v,fun e=>absurd e C,fun e=>by omega⟩
 ·rcases (o.mem 0).1 e with e|e|e
  ·exact h.r0 e
  ·exact ka ((h.sv x a ha).2.2 e.symm)
  ·exact kb ((h.sv y b hb).2.2 e.1.symm)
theorem Vst.pack {R:List Int} {A B:List Agent} (h:Vst R A B) {N:Nat} (hN:B.length≤N):VnN N (DV (posN B) B):=by
 have hlen:=h.st.ok.len
 have F:∀ (t:Nat) (a:Agent),B[t]? =some a→a.kind≠0→(t:Int) ∉ R∧at? A (t:Int)=some a:=fun t a ht hk=>by
  have j:=My ht
  have u:(t:Int) ∉ R:=fun e=>hk ((h.st.kinds _ _ j).2 e)
  exact⟨u,(h.st.ok.ag _ u).trans j⟩
 have pos:∀t:Nat,posN B (t:Int)=((AU (B.take t):Nat):Int):=fun t=>by unfold posN; rw [Int.toNat_natCast]
 obtain⟨a0,h0,k0⟩:∃a0,B[0]? =some a0∧a0.kind=1:=by
  obtain⟨d,hd,-⟩:=EZ (l:=A) (i:=0) (by have:=h.a0; omega)
  have j:=(h.st.ok.ag 0 h.r0).symm.trans hd
  exact⟨d,by have:=(Au j).2; grind,(h.sv 0 d hd).2.2 rfl⟩
 have O:=UH (posN B) B 0 a0 h0 (by omega)
 rw [List.take_zero,AU] at O
 refine⟨⟨?_,?_⟩,fun k v hk=>?_,fun p q hp _=>?_⟩
 ·grind
 ·grind [WI]
 ·obtain⟨k1,k2⟩:=Au hk
  obtain⟨t,a,h1,h2,rfl,h4⟩:=Nk _ _ _ _ k2
  obtain⟨u,U⟩:=F t a h1 h2
  obtain⟨g1,g2⟩:=h.sv _ _ U
  grind [UG,n8,AU,Y1]
 ·obtain⟨v,hv,Y⟩:=Aj.1 hp
  obtain⟨k1,k2⟩:=Au hv
  obtain⟨t,a,h1,h2,rfl,h4⟩:=Nk _ _ _ _ k2
  obtain⟨u,U⟩:=F t a h1 h2
  simp only [rnA] at Y
  rw [ai] at Y
  obtain⟨I,G,rfl⟩:=Option.map_eq_some_iff.1 Y
  have hg:Ab.get A ⟨(t:Int),p.slot⟩=some I:=Aj.2 ⟨a,U,G⟩
  obtain⟨m1,m2,m3⟩:=h.st.ok.m _ _ hg u
  obtain⟨b,j,J⟩:=Aj.1 m3
  have C:=(h.st.ok.ag _ m1).symm.trans j
  obtain⟨b1,b2⟩:=Au C
  have kb:b.kind≠0:=fun e=>m1 ((h.st.kinds _ _ C).1 e)
  have W:=UH (posN B) B _ b b2 kb
  have e1:posN B I.agent=((AU (B.take I.agent.toNat):Nat):Int):=rfl
  have ep:p=⟨((AU (B.take t):Nat):Int),p.slot⟩:=Co (by simp only; omega) rfl
  refine⟨not_false,fun e=>?_,?_⟩
  ·rw [ep] at e
   have ea:=congrArg Port.agent e
   have es:=congrArg Port.slot e
   simp only [rnP] at ea es
   rw [e1] at ea
   have:=Y1 b2 h1 kb h2 (by omega)
   exact m2 (Co (by simp only; omega) es)
  ·refine Aj.2 ⟨rnA (posN B) b,?_,?_⟩
   ·simp only [rnP,e1]
    exact My W
   ·simp only [rnA,rnP]
    rw [ai,J]
    simp only [Option.map_some,rnP,pos]
    exact congrArg some ep.symm
theorem Pw:∀l:List Agent,szl (fun a=>a.ports.length) l≤szl Agent.sz l
 | [] =>by simp [szl]
 |a::l=>by
  have:=Pw l
  grind [szl,Agent.sz]
theorem Net.small_of (n:Net) (h:n.sz≤Big):n.Small:=by
 unfold Net.sz at h
 refine⟨by grind [Pw],fun a j=>?_⟩
 grind [H3,Agent.sz]
theorem Oe (f:Int→Int):∀l:List Agent,(DV f l).length =AU l
 | [] =>rfl
 |a::l=>by
  rw [DV,AU]
  split
  ·rw [Oe f l]; omega
  ·rw [List.length_cons,Oe f l]; omega
theorem WJ (f:Int→Int):∀l:List Agent,(∀a ∈ l,a.kind≠0)→(∀a ∈ l,rnA f a=a)→DV f l=l
 | [],_,_=>rfl
 |a::l,h,h2=>by
  rw [DV,if_neg (h a List.mem_cons_self),h2 a List.mem_cons_self,WJ f l (fun b j=>h b (List.mem_cons_of_mem _ j)) fun b j=>h2 b (List.mem_cons_of_mem _ j)]
theorem VnN.packed {N} {l} (h:VnN N l):DV (posN l) l=l:=by
 have hk:∀a ∈ l,a.kind≠0:=fun a j=>by have:=Mx (h.mem j); omega
 refine WJ _ l hk fun a j=>?_
 have u:=(h.stt.closed a j (hk a j)).2
 have:a.ports.map (rnP (posN l))=a.ports:=by
  refine(List.map_congr_left fun q p=>?_).trans (List.map_id _)
  obtain⟨b,v,-⟩:=u q p
  have C:=DN v
  refine Co ?_ rfl
  grind [rnP,posN,Nj]
 unfold rnA
 rw [this]
theorem Px (n:Int):Hx n=some (Kp n):=by
 rfl
def digs:Nat→Nat→List Int
 |0,_=>[]
 |k+1,u=>if u=0 then [] else (48+((u % 10:Nat):Int))::digs k (u / 10)
theorem R3:∀k u,(digs k u).length ≤k
 |0,_=>by simp [digs]
 | k+1,u=>by
  unfold digs
  split
  ·simp
  ·have:=R3 k (u / 10)
   grind
theorem M1:∀k u,0<u→u<10 ^ k→Lib.decDigits u=(digs k u).reverse.map fun z=>UInt8.ofNat z.toNat
 |0,u,h0,h1=>by omega
 | k+1,u,h0,h1=>by
  rw [Nat.pow_succ] at h1
  rw [Lib.decDigits,digs,if_neg (by omega),List.reverse_cons,List.map_append]
  by_cases h:u<10
  ·rw [dif_pos h]
   have e:u / 10=0:=by omega
   have j:digs k 0=[] :=by cases k with|zero=>rfl|succ k=>rfl
   have p:u % 10=u:=by omega
   rw [e,j,p]
   rfl
  ·rw [dif_neg h,M1 k (u / 10) (by omega) (by omega)]
   rfl
theorem iS (p:List Int) (hp:p.length≤Big):∀ (n k:Nat) (acc:List Int),k≤p.length→k<n→acc.length+k≤Big→Eg n p acc ((k:Int) - 1)=WF (acc++(p.take k).reverse):=by
 intro n
 induction n with
 |zero=>omega
 | succ n ih=>
  intro k acc h1 h2 h3
  rw [Eg]
  cases k with
  |zero=>
   rw [if_neg (by simp)]
   cases h:WF (acc++(List.take 0 p).reverse) <;> simp at h <;> simp [h]
  | succ k=>
   have e:(((k+1:Nat):Int) - 1)=(k:Int):=by omega
   unfold Big at hp h3
   rw [e,if_pos (by simp)]
   unfold at?
   rw [if_pos (by omega),Int.toNat_natCast,List.getElem?_eq_getElem (by omega),AA,A8 (by grind),AA,w64 (by omega) (by omega),ih k _ (by omega) (by omega) (by grind)]
   have j:acc++[p[k]] ++(p.take k).reverse =acc++(p.take (k+1)).reverse :=by
    rw [List.take_succ_eq_append_getElem (by omega),List.reverse_append]
    simp
   rw [j]
theorem lN (a:Int):∀ (k n:Nat) (acc:List Int) (m:Int),m.natAbs<10 ^ k→k≤25→2*k+3≤n→acc.length+k≤1000→(-9223372036854775808≤m∧m≤9223372036854775807)→
  De n a acc m=if a=0 then C3 a (acc++digs k m.natAbs++[48]) else C3 a (acc++digs k m.natAbs):=by
 intro k
 induction k with
 |zero=>
  intro n acc m h1 hk p j hm
  obtain⟨n,rfl⟩:∃q,n=q+1:=⟨n - 1,by omega⟩
  have:m=0:=by omega
  grind [De,digs,A8]
 | succ k ih=>
  intro n acc m h1 hk p j hm
  obtain⟨n,rfl⟩:∃q,n=q+2:=⟨n - 2,by omega⟩
  rw [De]
  by_cases h0:m=0
  ·grind [digs,A8]
  ·rw [if_pos (by grind)]
   have hd:(Int.tdiv m 10).natAbs =m.natAbs / 10:=by rw [Int.natAbs_tdiv]; rfl
   have u:(Int.tmod m 10).natAbs =m.natAbs % 10:=by rw [Int.natAbs_tmod]; rfl
   have v:IntKind.i64.wrap (Int.tdiv m 10)=Int.tdiv m 10:=w64 (by omega) (by omega)
   have step:∀z:Int,z=((m.natAbs % 10:Nat):Int)→FG (n+1) a acc m z=if a=0 then C3 a (acc++digs (k+1) m.natAbs++[48]) else C3 a (acc++digs (k+1) m.natAbs):=fun z hz=>by
    grind [w64,IntKind.wrap,IntKind.signed,IntKind.bits,FG,A8,digs]
   grind [w64]
theorem mK (a:Int) (l:List Int) (hl:l.length≤1000):C3 a l=some (strOfNums (if a<0 then 45::l.reverse else l.reverse)):=by
 grind [Gb,w64,iS,cj,WF,C3,A8]
theorem Py (n:Int) (h:(Lit.int IntKind.i64 n).wf =true):Hz n=some (Kp n):=by
 have p: -9223372036854775808≤n∧n≤9223372036854775807:=by grind [Lit.wf,IntKind.min,IntKind.max,IntKind.signed,IntKind.bits]
 unfold Hz
 rw [lN n 20 fuel [] n (by omega) (by omega) (cj (by omega)) (by simp) p,List.nil_append]
 have j:=R3 20 n.natAbs
 unfold Kp Lib.itoa
 by_cases h0:n=0
 ·subst h0
  rw [if_pos rfl,mK _ _ (by grind),if_neg (by omega),if_neg (by omega),show Int.toNat 0=0 from rfl,Lib.decDigits,dif_pos (by omega)]
  rfl
 ·rw [if_neg h0,mK _ _ (by omega)]
  have hd:=M1 20 n.natAbs (by omega) (by omega)
  grind [strOfNums]
theorem Lh (n:Int) (h:(Lit.int IntKind.i64 n).wf =true):(Kp n).size ≤21:=by
 have j: -9223372036854775808≤n∧n≤9223372036854775807:=by grind [Lit.wf,IntKind.min,IntKind.max,IntKind.signed,IntKind.bits]
 have:=Lib.itoa_length_le n j.1 j.2
 show (Lib.itoa n).toArray.size ≤21
 rw [List.size_toArray]
 omega
theorem Pz {a b:ByteArray} (h:a.size+b.size≤9223372036854775807):Hi a b=some (a++b):=by unfold Hi; rw [if_pos h]
theorem WK:∀ (l:List Agent) (i:Nat),agsB i l=true→∀ (k:Nat) (a:Agent),l[k]? =some a→agB a=true
 | [],_,_,k,a,h=>by grind
 |x::l,i,hb,0,a,h=>by grind [agsB]
 |x::l,i,hb,k+1,a,h=>by
  rw [agsB] at hb
  simp only [Bool.and_eq_true] at hb
  rw [List.getElem?_cons_succ] at h
  exact WK l (i+1) hb.2 k a h
theorem R4 {l:List Agent} {i:Nat}:∀ (ps:List Port) (k:Nat),Et l i k ps=true→∀ (j:Nat) (p:Port),ps[j]? =some p→Mn l i (k+j) p=true
 | [],_,_,j,p,h=>by grind
 |x::ps,k,hb,0,p,h=>by
  rw [Et] at hb
  grind
 |x::ps,k,hb,j+1,p,h=>by
  rw [Et] at hb
  simp only [Bool.and_eq_true] at hb
  rw [List.getElem?_cons_succ] at h
  have:=R4 ps (k+1) hb.2 j p h
  rwa [show k+1+j=k+(j+1) from by omega] at this
theorem M2 {l:List Agent}:∀ (m:List Agent) (i:Nat),Cr l i m=true→∀ (k:Nat) (a:Agent),m[k]? =some a→Et l (i+k) 0 a.ports=true
 | [],_,_,k,a,h=>by grind
 |x::m,i,hb,0,a,h=>by
  rw [Cr] at hb
  grind
 |x::m,i,hb,k+1,a,h=>by
  rw [Cr] at hb
  simp only [Bool.and_eq_true] at hb
  rw [List.getElem?_cons_succ] at h
  have:=M2 m (i+1) hb.2 k a h
  rwa [show i+1+k=i+(k+1) from by omega] at this
def aj (l:List Agent) (p:Port):Prop:=∃a q,at? l p.agent=some a∧at? a.ports p.slot=some q
structure Vg (l:List Agent):Prop where
 len:1≤l.length∧l.length≤600
 ag:∀i a,at? l i=some a→agB a=true
 pr:∀i a k p,at? l i=some a→at? a.ports k=some p→aj l p
theorem Net.valid_vg {n:Net} (h:n.valid=true):Vg n.agents:=by
 unfold Net.valid agentsB at h
 simp only [Bool.and_eq_true,decide_eq_true_eq] at h
 obtain⟨⟨h1,h2⟩,h3⟩:=h
 refine⟨h1,fun i a j=>?_,fun i a k p j hk=>?_⟩
 ·exact WK _ 0 h2 _ _ (Au j).2
 ·have:=R4 _ 0 (M2 _ 0 h3 _ _ (Au j).2) _ _ (Au hk).2
  unfold Mn at this
  simp only [Bool.and_eq_true] at this
  cases hq:Fu n.agents p with
  |none=>rw [hq] at this; grind
  |some q=>
   obtain⟨b,v,u⟩:=Option.bind_eq_some_iff.1 hq
   exact⟨b,q,v,u⟩
theorem agP {a:Agent} (h:agB a=true):(1≤a.kind∧a.kind≤12)∧(0≤a.level∧a.level≤8)∧a.ports.length≤4∧a.data.length≤4∧1≤a.ports.length∧
  ((a.kind=2∨a.kind=3∨a.kind=4∨a.kind=7)→a.ports.length=3)∧((a.kind=8∨a.kind=10∨a.kind=11)→a.ports.length=2)∧(a.kind=8→a.data.length=1):=by
 unfold agB levB Gy at h
 simp only [Bool.and_eq_true,decide_eq_true_eq] at h
 obtain⟨⟨⟨h1,h2⟩,h3,j⟩,p⟩:=h
 refine⟨h3,by grind,?_,by grind,by omega,?_,?_,by grind⟩
 all_goals unfold ports at h2; grind
theorem Ja {α:Type} {l:List α} {i:Int} (h0:0≤i) (h:i<(l.length:Int)):∃x,at? l i=some x:=by
 obtain⟨x,hx,-⟩:=EZ ⟨h0,h⟩
 grind
theorem P0 {l:List Agent} {a:Agent} {i k:Int} {q:Port} (h:at? l i=some a) (hk:at? a.ports k=some q):Bf ⟨l⟩ ⟨i,k⟩=some q:=by
 unfold Bf
 rw [h,AA,hk,AA]
theorem wfI {n:Int} (h: -9223372036854775808≤n∧n≤9223372036854775807):(Lit.int IntKind.i64 n).wf =true:=by
 grind [Lit.wf,IntKind.min,IntKind.max,IntKind.signed,IntKind.bits]
def entB (p:Port):ByteArray:=Kp p.agent++ByteArray.mk #[46] ++Kp p.slot++ByteArray.mk #[59]
theorem P1:(ByteArray.mk #[46]).size =1:=rfl
theorem WL:(ByteArray.mk #[59]).size =1:=rfl
theorem ek (p:Port) (h:(Lit.int IntKind.i64 p.agent).wf =true) (h2:(Lit.int IntKind.i64 p.slot).wf =true):(entB p).size ≤50:=by
 grind [Lh,entB,P1,WL]
theorem iT (p:Port) (h:(Lit.int IntKind.i64 p.agent).wf =true) (h2:(Lit.int IntKind.i64 p.slot).wf =true):IJ p=some (entB p)∧JS p=some (entB p):=by
 have h3:=Lh _ h
 have j:=Lh _ h2
 have q:Hi (Kp p.agent) (ByteArray.mk #[46])=some (Kp p.agent++ByteArray.mk #[46]):=Pz (by rw [P1]; omega)
 have u:Hi (Kp p.agent++ByteArray.mk #[46]) (Kp p.slot)=some (Kp p.agent++ByteArray.mk #[46] ++Kp p.slot):=Pz (by grind [P1])
 grind [entB,Pz,ByteArray.size_append,P1,WL,IJ,Px,JS,Py]
theorem wfP {l:List Agent} (hv:Vg l) {p:Port} (h:aj l p):(Lit.int IntKind.i64 p.agent).wf =true∧(Lit.int IntKind.i64 p.slot).wf =true∧0≤p.agent∧p.agent<600∧0≤p.slot∧p.slot<4:=by
 obtain⟨a,q,j,u⟩:=h
 have h1:=J1 j
 have h2:=J1 u
 have h3:=agP (hv.ag _ _ j)
 have:=hv.len
 grind [wfI]
def Stacks.lst (s:Stacks):List (List Int):=s.l.map fun o=>(stl o).reverse
theorem Stacks.l_len (s:Stacks):s.l.length=9:=rfl
theorem Stacks.lst_len (s:Stacks):s.lst.length=9:=rfl
def Stacks.Fit (s:Stacks) (e:Nat):Prop:=∀x ∈ s.l,(stl x).length ≤e∧∀k ∈ stl x,1≤k∧k≤2
theorem Stacks.Fit.mono {s:Stacks} {e f:Nat} (h:s.Fit e) (he:e≤f):s.Fit f:=fun x hx=>⟨Nat.le_trans (h x hx).1 he,(h x hx).2⟩
theorem Stacks.of_l:∀ (l:List (Option Stack)),l.length=9→∃t,Stacks.of? l=some t∧t.l=l
 | [a,b,c,d,e,f,g,h,i],_=>⟨_,rfl,rfl⟩
theorem W9 {α β:Type} {l:List α} {f:α→β} {i:Int} {x:α} (h:at? l i=some x):at? (l.map f) i=some (f x):=by
 grind [at?]
theorem XA {α:Type} {l:List α} {i:Int} {x:α} (h:at? l i=some x):x ∈ l:=List.mem_of_getElem? (Au h).2
theorem Stacks.set_ok (s:Stacks) (lv:Int) (x:Option Stack):∃t,Option.bind (Br s.l lv x) Stacks.of?=some t∧t.lst=s.lst.set lv.toNat (stl x).reverse ∧(∀e,s.Fit e→(stl x).length ≤e→(∀k ∈ stl x,1≤k∧k≤2)→t.Fit e):=by
 obtain⟨t,h1,h2⟩:=Stacks.of_l (s.l.set lv.toNat x) (by rw [List.length_set]; rfl)
 refine⟨t,h1,?_,fun e hs hx hk y hy=>?_⟩
 ·unfold Stacks.lst
  rw [h2,List.map_set]
 ·rw [h2] at hy
  rcases List.mem_or_eq_of_mem_set hy with hy|rfl
  ·exact hs y hy
  grind
theorem WM (s:List (List Int)) (lv:Int) (x:List Int) (h0:0≤lv) (h1:lv<(s.length:Int)) (hl:s.length≤9):Kr s lv x=some (s.set lv.toNat x):=by
 unfold Kr
 obtain⟨y,hy⟩:=Ja h0 h1
 rw [A8 (by grind),AA,List.nil_append,hy,AA]
 rfl
theorem XB (l:List Int) (h:l.length≤Big):FZ l=some l:=by
 unfold FZ
 rw [A8 (by grind),AA,List.nil_append]
theorem K1 (s:Stack):stl (some s)=s.port::stl s.rest:=Stack.li_eq s
theorem n9 {A:List Agent} {a:Agent} {q:Port} {s:Stacks} {st:Option Stack} (r:Reading) (hr:r.net=⟨A⟩) (p:Port) (ha:at? A p.agent=some a) (hq:at? a.ports 0=some q) (hs:at? s.l a.level=some st) (h:0<p.slot) (hp:p.slot≤2) (e:Nat) (hf:s.Fit e):
  ∃t,C2 r p s=some (q,true,t)∧t.lst=s.lst.set a.level.toNat ((stl st).reverse ++[p.slot])∧t.Fit (e+1):=by
 obtain⟨t,h1,h2,h3⟩:=s.set_ok a.level (some ⟨p.slot,st⟩)
 refine⟨t,?_,?_,h3 _ (hf.mono (by omega)) ?_ ?_⟩
 ·unfold C2
  rw [hr,show (Net.mk A).agents =A from rfl,ha,AA,if_pos (by grind)]
  change Option.bind (at? s.l a.level) _=_
  rw [hs,AA]
  change Option.bind (at? s.l a.level) _=_
  rw [hs,AA]
  change Option.bind (Br s.l a.level (some ⟨p.slot,st⟩)) _=_
  grind [Br,P0]
 ·rw [h2,K1,List.reverse_cons]
 ·rw [K1,List.length_cons]
  have:=(hf st (XA hs)).1
  grind
 ·intro k hk
  rw [K1,List.mem_cons] at hk
  rcases hk with rfl|hk
  ·grind
  ·exact(hf st (XA hs)).2 k hk
theorem iU {A:List Agent} {a:Agent} {s:Stacks} (r:Reading) (hr:r.net=⟨A⟩) (p:Port) (ha:at? A p.agent=some a) (hs:at? s.l a.level=some none) (h:¬ 0<p.slot):C2 r p s=some (⟨0,0⟩,false,s):=by
 unfold C2
 rw [hr,show (Net.mk A).agents =A from rfl,ha,AA,if_neg (by grind)]
 change Option.bind (at? s.l a.level) _=_
 rw [hs,AA]
 rfl
theorem iV {A:List Agent} {a:Agent} {q:Port} {s:Stacks} {st:Stack} (r:Reading) (hr:r.net=⟨A⟩) (p:Port) (ha:at? A p.agent=some a) (hs:at? s.l a.level=some (some st)) (hq:at? a.ports st.port=some q) (h:¬ 0<p.slot) (e:Nat) (hf:s.Fit e):
  ∃t,C2 r p s=some (q,true,t)∧t.lst=s.lst.set a.level.toNat (stl st.rest).reverse ∧t.Fit e:=by
 obtain⟨t,h1,h2,h3⟩:=s.set_ok a.level st.rest
 have j:=hf _ (XA hs)
 rw [K1] at j
 refine⟨t,?_,h2,h3 _ hf (by grind) fun k hk=>j.2 k (List.mem_cons_of_mem _ hk)⟩
 unfold C2
 rw [hr,show (Net.mk A).agents =A from rfl,ha,AA,if_neg (by grind)]
 change Option.bind (at? s.l a.level) _=_
 rw [hs,AA]
 change Option.bind (at? s.l a.level) _=_
 rw [hs,AA]
 change Option.bind (Br s.l a.level st.rest) _=_
 grind [Br,P0]
theorem U4 (l m:List Int) (hl:l.length≤Big):C1 (Iy l m) (l=m):=by
 unfold Iy
 exact em (fun n i=>FH n l m i) (fun x y=>some (decide (x=y))) l m (fun n i=>by rw [FH]; rfl) hl fun x _ y _=>.mk J5
theorem Q2 (l m:List (List Int)) (hl:l.length≤Big) (h:∀x ∈ l,x.length≤Big):C1 (Fa l m) (l=m):=by
 unfold Fa
 exact em (fun n i=>CM n l m i) Iy l m (fun n i=>by rw [CM]) hl fun x hx y _=>U4 x y (h x hx)
theorem UI (s t:Stacks) (lv:Int) (h1:lv≤8):∀ (j:Nat) (i:Int) (n:Nat),0≤i→i+j=lv→j<n→C1 (BJ n s t lv i) (∀k:Nat,i≤k→(k:Int)<lv→s.lst[k]? =t.lst[k]?)
 |0,i,n,h0,hj,hn=>by
  obtain⟨n,rfl⟩:∃m,n=m+1:=⟨n - 1,by omega⟩
  rw [BJ,if_neg (by grind)]
  exact .mk ⟨fun _ k h1 h2=>by omega,fun _=>rfl⟩
 |j+1,i,n,h0,hj,hn=>by
  obtain⟨n,rfl⟩:∃m,n=m+1:=⟨n - 1,by omega⟩
  obtain⟨x,hx⟩:=Ja (l:=s.l) h0 (by rw [Stacks.l_len]; omega)
  obtain⟨y,hy⟩:=Ja (l:=t.l) h0 (by rw [Stacks.l_len]; omega)
  have u:=UI s t lv h1 j (i+1) n (by omega) (by omega) (by omega)
  rw [BJ,if_pos (by grind)]
  change C1 ((at? s.l i).bind fun v=>Option.bind (at? t.l i) _) _
  rw [hx,AA,hy,AA,w64 (by omega) (by omega)]
  unfold Mp
  rw [AA]
  have p:=(Au (W9 (f:=fun o=>(stl o).reverse) hx)).2
  have q:=(Au (W9 (f:=fun o=>(stl o).reverse) hy)).2
  change s.lst[i.toNat]? =some _ at p
  change t.lst[i.toNat]? =some _ at q
  refine(Gz J5 fun _=>u).iff ⟨fun ⟨e,hk⟩ k h2 h3=>?_,fun hk=>⟨?_,fun k h2 h3=>hk k (by omega) h3⟩⟩
  ·grind
  grind [List.reverse_inj]
theorem iW (s t:Stacks) (lv:Int) (h0:0≤lv) (h1:lv≤8):C1 (D2 s t lv) (t.lst.take lv.toNat=s.lst.take lv.toNat):=by
 unfold D2
 refine(UI s t lv h1 lv.toNat 0 fuel (by omega) (by omega) (by rw [AY]; omega)).iff ⟨fun h=>?_,fun h k _ hk=>?_⟩
 ·refine List.ext_getElem? fun k=>?_
  rw [List.getElem?_take,List.getElem?_take]
  grind
 ·have:=congrArg (fun l=>l[k]?) h
  grind
def ReadBinder.bl:ReadBinder→List (Int × Stacks)
 |⟨p,s,none⟩=>[(p,s)]
 |⟨p,s,some r⟩=>(p,s)::r.bl
def rbl:Option ReadBinder→List (Int × Stacks)
 |none=>[]
 |some b=>b.bl
theorem P2 (b:ReadBinder):rbl (some b)=(b.lam,b.stacks)::rbl b.rest:=by
 obtain⟨p,s,r⟩:=b
 cases r <;> simp only [rbl,ReadBinder.bl]
def iX (A:List Agent) (i:Int):Nat:=match at? A i with
 |some a=>a.level.toNat
 |none=>0
theorem Y2 {A:List Agent} {i:Int} {a:Agent} (h:at? A i=some a):iX A i=a.level.toNat:=by unfold iX; rw [h]
def sbOf (A:List Agent) (x:Int × Stacks):L16Binder:=⟨x.1,x.2.lst.take (iX A x.1)⟩
def hit (lam:Int) (lv:Nat) (s:Stacks) (x:Int × Stacks):Bool:=decide (x.1 =lam)&&decide (x.2.lst.take lv=s.lst.take lv)
def K2 (lam:Int) (lv:Nat) (s:Stacks):Int→List (Int × Stacks)→Int
 |_,[] => -1
 |k,x::l=>if hit lam lv s x=true then k else K2 lam lv s (k+1) l
theorem WN {A:List Agent} {a:Agent} (hv:Vg A) (r:Reading) (hr:r.net=⟨A⟩) (lam:Int) (ha:at? A lam=some a) (s:Stacks):∀ (l:List (Int × Stacks)) (b:Option ReadBinder) (n:Nat) (k:Int),rbl b=l→2*l.length+1≤n→0≤k→k+l.length≤1000000→
  Az n r lam s b k=some (K2 lam a.level.toNat s k l)
 |l,none,n,k,hb,hn,hk,hl=>by
  obtain⟨n,rfl⟩:∃m,n=m+1:=⟨n - 1,by omega⟩
  cases hb
  rw [Az]
  rfl
 |l,some b,n,k,hb,hn,hk,hl=>by
  rw [P2] at hb
  subst hb
  rw [List.length_cons] at hn hl
  obtain⟨n,rfl⟩:∃m,n=m+2:=⟨n - 2,by omega⟩
  have j:=WN hv r hr lam ha s (rbl b.rest) b.rest n (k+1) rfl (by omega) (by omega) (by omega)
  have hp:=agP (hv.ag _ _ ha)
  obtain⟨v,h1,h2⟩:=iW s b.stacks a.level hp.2.1.1 hp.2.1.2
  rw [Az]
  grind [iJ,CB,K2,w64,hit]
theorem lO {A:List Agent} {a:Agent} (hv:Vg A) (r:Reading) (hr:r.net=⟨A⟩) (lam:Int) (ha:at? A lam=some a) (s:Stacks) (b:Option ReadBinder) (hb:(rbl b).length ≤100000):Cy r lam s b=some (K2 lam a.level.toNat s 0 (rbl b)):=by
 grind [Cy,WN,AY]
theorem Stacks.lst_le {s:Stacks} {e:Nat} (h:s.Fit e):∀x ∈ s.lst,x.length≤e:=by
 intro x hx
 obtain⟨o,ho,rfl⟩:=List.mem_map.1 hx
 rw [List.length_reverse]
 exact(h o ho).1
theorem WO {A:List Agent} {a:Agent} (lam:Int) (ha:at? A lam=some a) (s:Stacks) (all:List (Int × Stacks)) (hall:all.length≤100000) (hfit:∀x ∈ all,x.2.Fit 100000):∀ (l pre:List (Int × Stacks)) (n:Nat),all=pre++l→2*l.length+1≤n→
  A0 n lam (all.map (sbOf A)).reverse (s.lst.take a.level.toNat) ((l.length:Int) - 1)=some (K2 lam a.level.toNat s pre.length l)
 | [],pre,n,h,hn=>by
  obtain⟨n,rfl⟩:∃m,n=m+1:=⟨n - 1,by omega⟩
  rw [A0,if_neg (by simp)]
  rfl
 | x::l,pre,n,h,hn=>by
  rw [List.length_cons] at hn
  obtain⟨n,rfl⟩:∃m,n=m+2:=⟨n - 2,by omega⟩
  have F:=WO lam ha s all hall hfit l (pre++[x]) n (by rw [h]; simp) (by omega)
  have p:at? (all.map (sbOf A)).reverse (((x::l).length :Int) - 1)=some (sbOf A x):=by
   have e:(all.map (sbOf A)).reverse =(l.map (sbOf A)).reverse ++sbOf A x::(pre.map (sbOf A)).reverse :=by rw [h]; simp
   have C:((x::l).length :Int) - 1=(((l.map (sbOf A)).reverse.length :Nat):Int):=by simp
   rw [C]
   exact BZ e
  have q:all.length=pre.length+(l.length+1):=by rw [h]; simp
  have G:((x::l).length :Int)=(l.length:Int)+1:=by simp
  have u:∀v,Bh (n+1) lam (all.map (sbOf A)).reverse (((x::l).length :Int) - 1) (s.lst.take a.level.toNat) v=some (if v=true then (pre.length:Int) else K2 lam a.level.toNat s (pre.length+1) l):=fun v=>by
   rw [Bh]
   grind [w64]
  rw [A0,if_pos (by simp),p,AA,u,K2,hit]
  by_cases e:x.1 =lam
  ·rw [if_pos (decide_eq_true (show (sbOf A x).agent =lam from e)),AA,decide_eq_true e,Bool.true_and]
   have j:(sbOf A x).stacks =x.2.lst.take a.level.toNat:=by
    unfold sbOf; rw [e,Y2 ha]
   obtain⟨v,h1,h2⟩:=Q2 (x.2.lst.take a.level.toNat) (s.lst.take a.level.toNat) (by rw [List.length_take,Stacks.lst_len]; grind) fun y hy=>by
    have:=Stacks.lst_le (hfit x (by rw [h]; simp)) y (List.mem_of_mem_take hy)
    grind
   rw [j,h1,AA,u]
   grind
  ·rw [if_neg (by rw [decide_eq_true_eq]; exact e),decide_eq_false e,Bool.false_and]
theorem Y3 (s:Stacks) (lv:Int) (h0:0≤lv) (h1:lv≤8):H0 s.lst lv=some (s.lst.take lv.toNat):=by
 unfold H0 cutL
 rw [if_pos ⟨by omega,by omega,by rw [Stacks.lst_len]; omega⟩,AA,Int.toNat_zero,List.drop_zero,Int.sub_zero]
theorem lP {A:List Agent} {a:Agent} (hv:Vg A) (w:L16Walk) (hw:w.n=⟨A⟩) (lam:Int) (ha:at? A lam=some a) (s:Stacks) (all:List (Int × Stacks)) (hall:all.length≤100000) (hfit:∀x ∈ all,x.2.Fit 100000):
  EB w lam s.lst (all.map (sbOf A)).reverse =some (K2 lam a.level.toNat s 0 all):=by
 have hp:=agP (hv.ag _ _ ha)
 have:=WO lam ha s all hall hfit all [] fuel rfl (by rw [AY]; omega)
 grind [EB,Y3,w64]
def conS (n:Nat):List Int:=(List.range (n - 1)).map fun t=>(1:Int)+((t:Nat):Int)
theorem iY (n:Nat):(conS n).length =n - 1:=by grind [conS]
theorem iZ {n:Nat} {x:Int} (h:x ∈ conS n):1≤x∧x<n:=by
 grind [conS]
def planB (a:Agent) (slot:Int):Int × List Int:=
 if a.kind=2∧slot=0 then (4,[2]) else if a.kind=2∧slot=1 then (1,[]) else if a.kind=3∧slot=2 then (5,[0,1]) else if a.kind=6 then (2,[])
 else if a.kind=7∧slot=2 then (3,[0,1]) else if a.kind=8∧slot=1 then (3,[0]) else if a.kind=9∧slot=0 then (8,conS a.ports.length)
 else if a.kind=10∧slot=1 then (9,[0]) else if a.kind=11∧slot=1 then (10,[0]) else if a.kind=12 then (11,[]) else (0,[])
theorem M3 (i:Int) (j:Nat):(List.range (j+1)).map (fun t=>i+((t:Nat):Int))=i::(List.range j).map fun t=>i+1+((t:Nat):Int):=by
 rw [List.range_succ_eq_map,List.map_cons,List.map_map]
 congr 1
 ·simp
 grind [List.map_congr_left]
theorem Y4 (a:Agent):∀ (j:Nat) (i:Int) (n:Nat) (acc:List Int),i+j=(a.ports.length:Int)→0≤i→a.ports.length≤100→j<n→acc.length+j≤1000→C4 n a acc i=some (8,acc++(List.range j).map fun t=>i+((t:Nat):Int))
 |0,i,n,acc,h,h0,hl,hn,hacc=>by
  obtain⟨n,rfl⟩:∃m,n=m+1:=⟨n - 1,by omega⟩
  rw [C4,if_neg (by grind)]
  simp
 |j+1,i,n,acc,h,h0,hl,hn,hacc=>by
  obtain⟨n,rfl⟩:∃m,n=m+1:=⟨n - 1,by omega⟩
  rw [C4,if_pos (by grind),A8 (by grind),AA,w64 (by omega) (by omega),Y4 a j (i+1) n (acc++[i]) (by omega) (by omega) hl (by omega) (by grind),M3]
  simp
theorem WP (a:Agent):∀ (j:Nat) (i:Int) (n:Nat) (acc:List Int),i+j=(a.ports.length:Int)→0≤i→a.ports.length≤100→j<n→acc.length+j≤1000→BM n a acc i=some (⟨8,a.value,[],[]⟩,acc++(List.range j).map (fun t=>i+((t:Nat):Int)),true)
 |0,i,n,acc,h,h0,hl,hn,hacc=>by
  obtain⟨n,rfl⟩:∃m,n=m+1:=⟨n - 1,by omega⟩
  rw [BM,if_neg (by grind)]
  simp
 |j+1,i,n,acc,h,h0,hl,hn,hacc=>by
  obtain⟨n,rfl⟩:∃m,n=m+1:=⟨n - 1,by omega⟩
  rw [BM,if_pos (by grind),A8 (by grind),AA,w64 (by omega) (by omega),WP a j (i+1) n (acc++[i]) (by omega) (by omega) hl (by omega) (by grind),M3]
  simp
theorem lQ (a:Agent) (h:agB a=true) (slot:Int):Ks a slot=some (planB a slot):=by
 have hp:=agP h
 have j:C4 fuel a [] 1=some (8,conS a.ports.length):=by
  rw [Y4 a (a.ports.length - 1) 1 fuel [] (by omega) (by omega) (by omega) (by rw [AY]; omega) (by grind)]
  rfl
 unfold planB
 by_cases s0:slot=0 <;> by_cases s1:slot=1 <;> by_cases s2:slot=2
 all_goals try omega
 all_goals
  rcases kind_cases a.kind with h|h|h|h|h|h|h|h|h|h|h|h|h
  all_goals first|(simp [Ks,HX,HV,HU,HT,HR,HQ,HO,Gc,h,s0,s1,s2,j]; done)|omega
def eo (a:Agent) (k:Int):Int:=if k=2∨k=3∨k=8∨k=11 then a.value else 0
def ak (a:Agent) (k:Int):List Int:=if k=9∨k=10 then a.data else []
def Bj (a:Agent) (slot v:Int):Core × List Int × Bool:=
 if (planB a slot).1 =0 then (⟨0,0,[],[]⟩,[],false) else if (planB a slot).1 =1 then (⟨1,v,[],[]⟩,[],decide (0≤v))
 else (⟨(planB a slot).1,eo a (planB a slot).1,ak a (planB a slot).1,[]⟩,(planB a slot).2,true)
theorem ia {A:List Agent} {a:Agent} (hv:Vg A) (r:Reading) (hr:r.net=⟨A⟩) (p:Port) (ha:at? A p.agent=some a) (s:Stacks) (b:Option ReadBinder) (v:Int) (hvar:Cy r p.agent s b=some v):FW r p s b=some (Bj a p.slot v):=by
 have hp:=agP (hv.ag _ _ ha)
 have q:BM fuel a [] 1=some (⟨8,a.value,[],[]⟩,conS a.ports.length,true):=by
  rw [WP a (a.ports.length - 1) 1 fuel [] (by omega) (by omega) (by omega) (by rw [AY]; omega) (by grind)]
  rfl
 have j:CW a.data=some a.data:=by
  unfold CW
  rw [A8 (by grind),AA,List.nil_append]
 unfold FW Bj planB
 obtain⟨u,slot⟩:=p
 simp only at ha hvar ⊢
 rw [hr,show (Net.mk A).agents =A from rfl,ha,AA]
 by_cases s0:slot=0 <;> by_cases s1:slot=1 <;> by_cases s2:slot=2
 all_goals try omega
 all_goals
  rcases kind_cases a.kind with h|h|h|h|h|h|h|h|h|h|h|h|h
  all_goals first|omega|(simp [D9,D8,D7,D6,D5,D4,D3,DY,Nf,Hy,Ng,eo,ak,h,s0,s1,s2,q,j,hvar]; done)
mutual
def Core.sz:Core→Nat
 |⟨_,_,d,ks⟩=>d.length+Core.szs ks
def Core.szs:List Core→Nat
 | [] =>0
 |c::cs=>1+Core.sz c+Core.szs cs
end
theorem Core.sz_eq (c:Core):c.sz=c.data.length+Core.szs c.kids:=by cases c; rw [Core.sz]
theorem Core.szs_append (a b:List Core):Core.szs (a++b)=Core.szs a+Core.szs b:=by
 induction a with
 |nil=>simp [Core.szs]
 |cons c cs ih=>rw [List.cons_append,Core.szs,Core.szs,ih]; omega
theorem P3 (w:L16Walk) (c:Int) (h:w.code=0):Bb w c=some (⟨0,0,[],[]⟩,⟨w.n,w.steps,w.nodes,w.entered,w.origins,w.labels,c⟩):=by
 unfold Bb
 rw [if_pos (by grind)]
theorem Y5 (w:L16Walk) (ag d:Int) (lab:ByteArray) (ho:w.origins.length≤100000) (hl:w.labels.length≤100000) (hk:0≤w.nodes∧w.nodes≤1000):
  Ez w ag d lab=some (decide (w.nodes<400)&&decide (d≤80),⟨w.n,w.steps,w.nodes+1,w.entered,w.origins++[ag],w.labels++[lab],w.code⟩):=by
 grind [Ez,A8,w64]
theorem Y6 (r:Reading) (ag d:Int) (lab:ByteArray) (ho:r.origins.length≤100000) (hl:r.labels.length≤100000) (hk:0≤r.nodes∧r.nodes≤400):
  DC r ag lab d=some (if (decide (r.nodes<400)&&decide (d≤80))=true then (0,⟨r.net,r.entered,r.nodes+1,r.origins++[ag],r.times,r.labels++[lab]⟩) else (4,r)):=by
 grind [DC,ES,A8,w64]
theorem ib {A:List Agent} {a:Agent} (r:Reading) (hr:r.net=⟨A⟩) (p:Port) (ha:at? A p.agent=some a) (ht:r.times.length=A.length) (he:0≤r.entered∧r.entered≤4000):
  (r.entered=4000→∃r',EJ r p=some (4,r'))∧(r.entered<4000→∃T,T.length=A.length∧EJ r p=some (0,⟨⟨A⟩,r.entered+1,r.nodes,r.origins,T,r.labels⟩)):=by
 obtain⟨x,hx⟩:=Ja (l:=r.times) (i:=p.agent) (J1 ha).1 (by rw [ht]; exact(J1 ha).2)
 have j:IntKind.i64.wrap (r.entered+1)=r.entered+1:=w64 (by omega) (by omega)
 have h1:∀b,∃T,T.length=A.length∧CL r p b=some (0,⟨⟨A⟩,r.entered+1,r.nodes,r.origins,T,r.labels⟩):=fun b=>by
  unfold CL
  rw [hx,AA,AA,j,hr]
  cases b with
  |true=>exact⟨r.times.set p.agent.toNat (IntKind.i64.wrap (x+1)),by rw [List.length_set,ht],rfl⟩
  |false=>grind
 unfold EJ
 rw [j]
 refine⟨fun h=>?_,fun h=>?_⟩
 ·rw [if_pos (by grind)]
  grind
 ·rw [if_neg (by grind),hr,show (Net.mk A).agents =A from rfl,ha,AA]
  split
  ·split
   ·exact h1 _
   simp_all
  simp_all
theorem oA (n:Nat) (a0:L16Walk) (a3:List L16Binder) (d e:Int) (s:Stacks) (ag slot:Int) (E:List Int) (lab:ByteArray) (a:Agent) (ha:agB a=true) (hb:a3.length≤100000) (h0:(planB a slot).1 ≠0) (h1:(planB a slot).1 ≠1):
  ∃m,n≤m∧m≤n+2∧(if (decide ((planB a slot).1 =2))=true then (Ad (n+3) a0 a3 d e s.lst ag slot E lab a (planB a slot) (decide ((planB a slot).1 =2))) else (if (decide ((planB a slot).1 =3))=true then (Ad (n+3) a0 a3 d e s.lst ag slot E lab a (planB a slot) (decide ((planB a slot).1 =3))) else (if (decide ((planB a slot).1 =8))=true then (Ad (n+3) a0 a3 d e s.lst ag slot E lab a (planB a slot) (decide ((planB a slot).1 =8))) else (Ad (n+3) a0 a3 d e s.lst ag slot E lab a (planB a slot) (decide ((planB a slot).1 =11))))))=
   Ao m a0 d e s.lst ag slot E lab a (planB a slot) (if (planB a slot).1 =4 then a3++[⟨ag,s.lst.take a.level.toNat⟩] else a3) (eo a (planB a slot).1) (ak a (planB a slot).1):=by
 have hp:=agP ha
 have hk:(planB a slot).1 =0∨(planB a slot).1 =1∨(planB a slot).1 =2∨(planB a slot).1 =3∨(planB a slot).1 =4∨(planB a slot).1 =5∨(planB a slot).1 =8∨(planB a slot).1 =9∨(planB a slot).1 =10∨(planB a slot).1 =11:=by
  unfold planB
  repeat' split
  all_goals simp
 have hd:FZ a.data=some a.data:=XB _ (by grind)
 have q:=Y3 s a.level hp.2.1.1 hp.2.1.2
 have j:app? [] a3=some a3:=by rw [A8 (by grind),List.nil_append]
 have p:app? a3 [(⟨ag,s.lst.take a.level.toNat⟩:L16Binder)] =some (a3++[⟨ag,s.lst.take a.level.toNat⟩]):=A8 (by grind)
 generalize planB a slot=pl at*
 obtain⟨k,sl⟩:=pl
 simp only at h0 h1 hk ⊢
 rcases hk with h|h|rfl|rfl|rfl|rfl|rfl|rfl|rfl|rfl
 ·omega
 ·omega
 ·exact⟨n+2,by omega,by omega,by rfl⟩
 ·exact⟨n+2,by omega,by omega,by rfl⟩
 ·exact⟨n+1,by omega,by omega,by grind [Ad,Bv,eo,ak]⟩
 ·exact⟨n+1,by omega,by omega,by rfl⟩
 ·exact⟨n+2,by omega,by omega,by rfl⟩
 ·exact⟨n+1,by omega,by omega,by grind [Ad,Bv,eo,ak]⟩
 ·exact⟨n+1,by omega,by omega,by grind [Ad,Bv,eo,ak]⟩
 ·exact⟨n+2,by omega,by omega,by rfl⟩
theorem am {a:Agent} (h:agB a=true) (slot:Int):(∀x ∈ (planB a slot).2,∃q,at? a.ports x=some q)∧(planB a slot).2.length ≤4:=by
 have hp:=agP h
 have key:∀x:Int,0≤x→x<(a.ports.length:Int)→∃q,at? a.ports x=some q:=fun x j h1=>Ja j h1
 unfold planB
 repeat' split
 all_goals
  constructor
  ·intro x hx
   first
   |(have:=iZ hx; exact key x (by omega) (by omega))
   |(simp at hx; done)
   |(simp only [List.mem_cons,List.not_mem_nil,or_false] at hx; exact key x (by omega) (by omega))
  ·first
   |(simp; done)
   |(rw [iY]; omega)
theorem an {a:Agent} {slot v:Int} (h:(Bj a slot v).2.2 =true):(planB a slot).1 ≠0∧(Bj a slot v).1.kind =(planB a slot).1 ∧(Bj a slot v).1.kids =[] ∧((planB a slot).1 ≠1→(Bj a slot v).2.1 =(planB a slot).2)∧((planB a slot).1 =1→(Bj a slot v).2.1 =[] ∧(planB a slot).2 =[]):=by
 have h1:(planB a slot).1 =1→(planB a slot).2 =[] :=by
  unfold planB
  repeat' split
  all_goals simp
 unfold Bj at h ⊢
 grind
theorem j19_node {A:List Agent} {a:Agent} (hv:Vg A) (n:Nat) (w:L16Walk) (hwn:w.n=⟨A⟩) (hwc:w.code=0) (all:List (Int × Stacks)) (hall:all.length≤100000) (hfit:∀x ∈ all,x.2.Fit 100000) (d e:Int) (s:Stacks) (pa ps:Int) (lab:ByteArray) (E:List Int) (ha:at? A pa=some a) (hk:a.kind≠4) (he:0≤e∧e≤4000):
  ((Bj a ps (K2 pa a.level.toNat s 0 all)).2.2 =false∧BE (n+5) w (all.map (sbOf A)).reverse d e s.lst pa ps lab a E=some (⟨0,0,[],[]⟩,⟨⟨A⟩,e+1,w.nodes,E,w.origins,w.labels,13⟩))∨
  ((Bj a ps (K2 pa a.level.toNat s 0 all)).2.2 =true∧∃m,n≤m∧BE (n+5) w (all.map (sbOf A)).reverse d e s.lst pa ps lab a E=
   Ao m w d e s.lst pa ps E lab a (planB a ps) (if (planB a ps).1 =4 then (all.map (sbOf A)).reverse ++[⟨pa,s.lst.take a.level.toNat⟩] else (all.map (sbOf A)).reverse) (Bj a ps (K2 pa a.level.toNat s 0 all)).1.value (Bj a ps (K2 pa a.level.toNat s 0 all)).1.data):=by
 have q:IntKind.i64.wrap (e+1)=e+1:=w64 (by omega) (by omega)
 have j:at? w.n.agents pa=some a:=by rw [hwn]; exact ha
 have u:∀st nd en og lb,Bb (⟨⟨A⟩,st,nd,en,og,lb,0⟩:L16Walk) 13=some (⟨0,0,[],[]⟩,⟨⟨A⟩,st,nd,en,og,lb,13⟩):=fun _ _ _ _ _=>P3 _ _ rfl
 rw [show n+5=(n+4)+1 from rfl,BE,if_pos (by grind),j,AA,lQ a (hv.ag _ _ ha),AA,hwn,hwc,q]
 unfold Bj
 by_cases h0:(planB a ps).1 =0
 ·grind
 rw [if_neg h0,if_neg (show ¬decide ((planB a ps).1 =0)=true by grind)]
 by_cases h1:(planB a ps).1 =1
 ·rw [if_pos h1,if_pos (decide_eq_true h1),lP hv _ rfl pa ha s all hall hfit,AA]
  grind
 ·right
  rw [if_neg h1,if_neg (show ¬decide ((planB a ps).1 =1)=true by grind)]
  obtain⟨m,p,-,hm⟩:=oA (n+1) w (all.map (sbOf A)).reverse d e s pa ps E lab a (hv.ag _ _ ha) (by grind) h0 h1
  grind
structure Szs (A:List Agent) (e k:Int) (E O T:List Int) (L:List ByteArray):Prop where
 he:0≤e∧e≤4000
 hk:0≤k∧k≤400
 hE:E.length≤Int.toNat e
 hO:O.length=Int.toNat k
 hL:L.length=Int.toNat k
 hT:T.length=A.length
def Y7 (A:List Agent) (e0 k0:Int) (ri:Core × Int × Reading) (rs:Core × L16Walk):Prop:=
 (ri.2.1 ≠0∧rs.2.code =ri.2.1 ∧rs.2.n =⟨A⟩)∨
 ∃c e k E O T L,ri=(c,0,⟨⟨A⟩,e,k,O,T,L⟩)∧rs=(c,⟨⟨A⟩,e,k,E,O,L,0⟩)∧Szs A e k E O T L∧e0<e∧k0<k∧(c.sz:Int)+1≤5*(k - k0)
def oC (A:List Agent) (m:Nat):Prop:=∀ (r:Reading) (w:L16Walk) (e k d:Int) (E O T:List Int) (L:List ByteArray) (p:Port) (s:Stacks) (b:Option ReadBinder) (lab:ByteArray) (fi fs:Nat),
 r.net=⟨A⟩→w.n=⟨A⟩→w.nodes=k→w.origins=O→w.labels=L→w.code=0→4000 - e≤m→Szs A e k E O T L→1≤d→d≤81→aj A p→s.Fit e.toNat→(rbl b).length ≤d.toNat→(∀x ∈ rbl b,x.2.Fit 100000)→(lab.size:Int)≤50*e→
 20*m+20≤fi→20*m+20≤fs→
 ∃ri rs,B8 fi r b d e k O T L p.agent p.slot s.e0 s.e1 s.e2 s.e3 s.e4 s.e5 s.e6 s.e7 s.e8 lab=some ri∧BY fs w ((rbl b).map (sbOf A)).reverse d e E s.lst p.agent p.slot lab=some rs∧Y7 A e k ri rs
theorem skip {A:List Agent} {a:Agent} (d:Int) (st:List (List Int)) (sb:List L16Binder) (va:Int) (da:List Int) (pl:Int × List Int) (e k:Int) (E O:List Int) (L:List ByteArray) (code:Int) (hc:code≠0) (hl:pl.2.length ≤10):
  ∀ (post pre:List Int) (K:List Core) (n:Nat),pl.2 =pre++post→(∀x ∈ post,∃q,at? a.ports x=some q)→K.length+post.length≤100→post.length+5≤n→
  ∃c,Ay n d st sb va da a pl A e k E O L code K (pre.length:Int)=some (c,⟨⟨A⟩,e,k,E,O,L,code⟩)
 | [],pre,K,n,h,hp,hK,hn=>by
  obtain⟨n,rfl⟩:∃m,n=m+1:=⟨n - 1,by omega⟩
  rw [Ay,C0 h,if_neg (by simp)]
  grind
 |x::post,pre,K,n,h,hp,hK,hn=>by
  simp only [List.length_cons] at hK hn
  obtain⟨n,rfl⟩:∃m,n=m+3:=⟨n - 3,by omega⟩
  obtain⟨q,j⟩:=hp x (by simp)
  rw [Ay,if_pos (Cb h),BZ h,AA,j,AA,show n+2=(n+1)+1 from rfl,CX,BY,if_pos (by grind),AA,A8 (by grind),AA,BP h (by grind)]
  exact skip d st sb va da pl e k E O L code hc hl post (pre++[x]) _ (n+1+1) (As h) (fun y hy=>hp y (List.mem_cons_of_mem _ hy)) (by grind) (by omega)
theorem kids {A:List Agent} {a:Agent} (hv:Vg A) {m:Nat} (ih:oC A m) (r:Reading) (hr:r.net=⟨A⟩) (pa ps:Int) (ha:at? A pa=some a) (s:Stacks) (b:Option ReadBinder) (d:Int) (hd:1≤d∧d≤80) (sh:Core × List Int × Bool) (hsl:sh.2.1.length ≤10) (e0 k0:Int)
  (hb:(rbl b).length ≤d.toNat+1) (hbf:∀x ∈ rbl b,x.2.Fit 100000):
  ∀ (post pre:List Int) (e k:Int) (E O T:List Int) (L:List ByteArray) (K:List Core) (j fs:Nat),sh.2.1 =pre++post→4000 - e≤m→Szs A e k E O T L→s.Fit e.toNat→(∀x ∈ post,∃q,at? a.ports x=some q)→e0<e→k0<k→((sh.1.data.length +Core.szs K:Nat):Int)+1≤5*(k - k0)→K.length+post.length≤100→
   post.length+20*m+24≤j→post.length+20*m+24≤fs→
   ∃u rs,B9 j r d pa ps s.e0 s.e1 s.e2 s.e3 s.e4 s.e5 s.e6 s.e7 s.e8 b sh e k O T L K (pre.length:Int)=some u∧Ay fs d s.lst ((rbl b).map (sbOf A)).reverse sh.1.value sh.1.data a (sh.1.kind,sh.2.1) A e k E O L 0 K (pre.length:Int)=some rs∧Y7 A e0 k0 u rs
 | [],pre,e,k,E,O,T,L,K,j,fs,h,hm,hz,hs,hp,he,hk,hK,hKl,hfi,hfs=>by
  obtain⟨j,rfl⟩:∃m,j=m+1:=⟨j - 1,by omega⟩
  obtain⟨fs,rfl⟩:∃m,fs=m+1:=⟨fs - 1,by omega⟩
  rw [B9,C0 h,if_neg (by simp),Ay,C0 (l:=(sh.1.kind,sh.2.1).2) h,if_neg (by simp)]
  refine⟨_,_,rfl,rfl,.inr ⟨⟨sh.1.kind,sh.1.value,sh.1.data,K⟩,e,k,E,O,T,L,by rw [hr],rfl,hz,he,hk,?_⟩⟩
  rw [Core.sz_eq]
  exact hK
 | x::post,pre,e,k,E,O,T,L,K,j,fs,h,hm,hz,hs,hp,he,hk,hK,hKl,hfi,hfs=>by
  simp only [List.length_cons] at hKl hfi hfs
  obtain⟨j,rfl⟩:∃m,j=m+2:=⟨j - 2,by omega⟩
  obtain⟨fs,rfl⟩:∃m,fs=m+2:=⟨fs - 2,by omega⟩
  obtain⟨q,p⟩:=hp x (by simp)
  obtain⟨u,rs,h1,h2,h3⟩:=ih ⟨⟨A⟩,e,k,O,T,L⟩ ⟨⟨A⟩,e,k,E,O,L,0⟩ e k (d+1) E O T L q s b (ByteArray.mk #[]) j fs rfl rfl rfl rfl rfl rfl hm hz (by omega) (by omega) (hv.pr _ _ _ _ ha p) hs (by omega) hbf (by have:=hz.he; show ((0:Nat):Int)≤_; omega) (by omega) (by omega)
  rw [B9,if_pos (Cb h),BZ h,AA,hr,P0 ha p,AA,DD,w64 (n:=d+1) (by omega) (by omega),h1,AA]
  rw [Ay,if_pos (Cb (l:=(sh.1.kind,sh.2.1).2) h),BZ (l:=(sh.1.kind,sh.2.1).2) h,AA,p,AA,CX,w64 (n:=d+1) (by omega) (by omega),h2,AA,BP h (by grind),A8 (b:=[rs.1]) (by grind),AA]
  rcases h3 with ⟨c1,c2,c3⟩|⟨c,e',k',E',O',T',L',rfl,rfl,hz',he',hk',hsz⟩
  ·obtain⟨c,v⟩:=skip (A:=A) (a:=a) d s.lst ((rbl b).map (sbOf A)).reverse sh.1.value sh.1.data (sh.1.kind,sh.2.1) rs.2.steps rs.2.nodes rs.2.entered rs.2.origins rs.2.labels rs.2.code (by rw [c2]; exact c1) hsl post (pre++[x]) (K++[rs.1]) (fs+1) (As h) (fun y hy=>hp y (List.mem_cons_of_mem _ hy)) (by grind) (by omega)
   rw [c3,show (Net.mk A).agents =A from rfl,v,if_pos (by grind)]
   exact⟨_,_,rfl,rfl,.inl ⟨c1,c2,rfl⟩⟩
  ·rw [if_neg (by simp),A8 (by grind),AA]
   refine kids hv ih r hr pa ps ha s b d hd sh hsl e0 k0 hb hbf post (pre++[x]) e' k' E' O' T' L' (K++[c]) (j+1) (fs+1) (As h) (by omega) hz' (hs.mono (by omega)) (fun y hy=>hp y (List.mem_cons_of_mem _ hy)) (by omega) (by omega) ?_ (by grind) (by omega) (by omega)
   rw [Core.szs_append]
   grind [Core.szs]
set_option maxHeartbeats 2000000
theorem oD (n:Nat) (w:L16Walk) (sb:List L16Binder) (d e:Int) (E:List Int) (st:List (List Int)) (pa ps:Int) (lab:ByteArray) (a:Agent) (hE:E.length≤100000):
  ∃E':List Int,E'.length≤E.length+1∧(if (!decide (a.kind=2))=true then (Bu (n+1) w sb d e E st pa ps lab a true) else (Bu (n+1) w sb d e E st pa ps lab a (!decide (ps=1))))=BE n w sb d e st pa ps lab a E':=by
 grind [Bu,A8]
theorem eq:(ByteArray.mk #[46,120,59]).size =3:=rfl
theorem eu {A:List Agent} {a:Agent} (hv:Vg A) {m:Nat} (ih:oC A m) (J fs:Nat) (hfi:20*m+30≤J) (hfs:20*m+30≤fs) (r:Reading) (hr:r.net=⟨A⟩) (w:L16Walk) (hwn:w.n=⟨A⟩) (e k d:Int) (E O T:List Int) (L:List ByteArray) (hwk:w.nodes=k) (hwo:w.origins=O) (hwl:w.labels=L) (hwc:w.code=0)
  (hm:4000 - (e+1)≤m) (he:0≤e) (hz:Szs A (e+1) k E O T L) (hd:1≤d∧d≤81) (pa ps:Int) (ha:at? A pa=some a) (s:Stacks) (hs:s.Fit (e+1).toNat) (b:Option ReadBinder) (hb:(rbl b).length ≤d.toNat) (hbf:∀x ∈ rbl b,x.2.Fit 100000) (lab:ByteArray) (v:Int) (hsh:(Bj a ps v).2.2 =true):
  ∃ri rs,((DC (⟨⟨A⟩,e+1,k,O,T,L⟩:Reading) pa lab d).bind fun j=>(if (!decide (j.1 =0))=true then (some ((⟨0,0,[],[]⟩:Core),j.1,(⟨r.net,j.2.entered,j.2.nodes,j.2.origins,j.2.times,j.2.labels⟩:Reading))) else ((at? r.net.agents pa).bind fun C=>(if (decide (C.kind=8))=true then ((Hx pa).bind fun W=>((Hi W (ByteArray.mk #[46,120,59])).bind fun I=>((DC (⟨r.net,j.2.entered,j.2.nodes,j.2.origins,j.2.times,j.2.labels⟩:Reading) (-1) I (IntKind.i64.wrap (d+1))).bind fun p=>(if (!decide (p.1 =0))=true then (some ((⟨0,0,[],[]⟩:Core),p.1,(⟨r.net,p.2.entered,p.2.nodes,p.2.origins,p.2.times,p.2.labels⟩:Reading))) else ((at? C.data 0).bind fun U=>((Hy U).bind fun F=>((app? (Bj a ps v).1.kids [(⟨F.kind,F.value,[],[]⟩:Core)]).bind fun G=>(BC J r d pa ps s.e0 s.e1 s.e2 s.e3 s.e4 s.e5 s.e6 s.e7 s.e8 (Bj a ps v) p.2.entered p.2.nodes p.2.origins p.2.times p.2.labels b G)))))))) else (if (decide ((Bj a ps v).1.kind =4))=true then (BC J r d pa ps s.e0 s.e1 s.e2 s.e3 s.e4 s.e5 s.e6 s.e7 s.e8 (Bj a ps v) j.2.entered j.2.nodes j.2.origins j.2.times j.2.labels (some (⟨pa,(⟨s.e0,s.e1,s.e2,s.e3,s.e4,s.e5,s.e6,s.e7,s.e8⟩:Stacks),b⟩:ReadBinder)) (Bj a ps v).1.kids) else (BC J r d pa ps s.e0 s.e1 s.e2 s.e3 s.e4 s.e5 s.e6 s.e7 s.e8 (Bj a ps v) j.2.entered j.2.nodes j.2.origins j.2.times j.2.labels b (Bj a ps v).1.kids))))))=some ri∧
   Ao fs w d e s.lst pa ps E lab a (planB a ps) (if (planB a ps).1 =4 then ((rbl b).map (sbOf A)).reverse ++[⟨pa,s.lst.take a.level.toNat⟩] else ((rbl b).map (sbOf A)).reverse) (Bj a ps v).1.value (Bj a ps v).1.data =some rs∧Y7 A e k ri rs:=by
 obtain⟨J,rfl⟩:∃x,J=x+1:=⟨J - 1,by omega⟩
 obtain⟨fs,rfl⟩:∃x,fs=x+2:=⟨fs - 2,by omega⟩
 have hp:=agP (hv.ag _ _ ha)
 obtain⟨pp,pl⟩:=am (hv.ag _ _ ha) ps
 obtain⟨q0,q1,q2,q3,q4⟩:=an hsh
 have q:(Bj a ps v).2.1 =(planB a ps).2 :=by
  grind
 have hdat:(Bj a ps v).1.data.length ≤4:=by
  grind [Bj,ak]
 have hk:=hz.hk
 have hO:=hz.hO
 have hL:=hz.hL
 have hw1:IntKind.i64.wrap (e+1)=e+1:=w64 (by omega) (by have:=hz.he; omega)
 have hwd:IntKind.i64.wrap (d+1)=d+1:=w64 (by omega) (by omega)
 have Y:planB a ps=((Bj a ps v).1.kind,(Bj a ps v).2.1):=by rw [q1,q]
 have u:∀ (b':Option ReadBinder) (k1:Int) (O1:List Int) (L1:List ByteArray) (K:List Core),d≤80→k<k1→k1≤400→O1.length=k1.toNat→L1.length=k1.toNat→((rbl b').length ≤d.toNat+1)→(∀x ∈ rbl b',x.2.Fit 100000)→(((Bj a ps v).1.data.length +Core.szs K:Nat):Int)+1≤5*(k1 - k)→K.length≤50→
   ∃ri rs,BC (J+1) r d pa ps s.e0 s.e1 s.e2 s.e3 s.e4 s.e5 s.e6 s.e7 s.e8 (Bj a ps v) (e+1) k1 O1 T L1 b' K=some ri∧CN (fs+1) d s.lst ((rbl b').map (sbOf A)).reverse (Bj a ps v).1.value (Bj a ps v).1.data a (planB a ps) A (e+1) k1 E O1 L1 0 K=some rs∧Y7 A e k ri rs:=by
  intro b' k1 O1 L1 K hd1 hk1 hk2 hO1 hL1 hb1 hb2 hK hKl
  have hlen:(Bj a ps v).2.1.length ≤4:=by rw [q]; exact pl
  rw [BC,CN,Y]
  exact kids hv ih r hr pa ps ha s b' d ⟨hd.1,hd1⟩ (Bj a ps v) (by omega) e k hb1 hb2 (Bj a ps v).2.1 [] (e+1) k1 E O1 T L1 K J fs rfl hm ⟨hz.he,by omega,hz.hE,hO1,hL1,hz.hT⟩ hs (by rw [q]; exact pp) (by omega) hk1 hK (by omega) (by omega) (by omega)
 rw [Y6 _ pa d lab (by grind) (by grind) (by omega),AA]
 rw [show fs+2=(fs+1)+1 from rfl,Ao,hwn,hwk,hwo,hwl,hwc,hw1,Y5 _ pa d lab (by grind) (by grind) (by grind),AA]
 have c0:¬ ((!decide ((0:Int)=0))=true):=by decide
 have c4:(!decide ((4:Int)=0))=true:=by decide
 have cT:¬ ((!true)=true):=by decide
 have cF:(!false)=true:=rfl
 have cB:¬ (false=true):=by decide
 dsimp only
 by_cases hok:(decide (k<400)&&decide (d≤80))=true
 ·rw [hok,if_pos rfl]
  dsimp only
  rw [if_neg c0,if_neg cT,hr,show (Net.mk A).agents =A from rfl,ha,AA]
  simp only [Bool.and_eq_true,decide_eq_true_eq] at hok
  by_cases h8:a.kind=8
  ·rw [if_pos (decide_eq_true h8),if_pos (decide_eq_true h8)]
   have hpl:(planB a ps).1 ≠4:=by
    grind [planB]
   have hpa:=J1 ha
   have hlen:=hv.len
   have hwf:(Lit.int IntKind.i64 pa).wf =true:=wfI (by omega)
   have hsz:=Lh pa hwf
   obtain⟨x,hx⟩:=Ja (l:=a.data) (i:=0) (by omega) (by rw [hp.2.2.2.2.2.2.2 h8]; omega)
   rw [Px,AA,Py _ hwf,AA,Pz (by rw [eq]; omega),AA,AA,hwd]
   rw [Y6 _ (-1) (d+1) _ (by grind) (by grind) (by grind),AA]
   rw [Y5 _ (-1) (d+1) _ (by grind) (by grind) (by grind),AA]
   dsimp only
   by_cases hok2:(decide (k+1<400)&&decide (d+1≤80))=true
   ·rw [hok2,if_pos rfl]
    dsimp only
    rw [if_neg c0,if_neg cT,hx,AA,AA]
    simp only [Bool.and_eq_true,decide_eq_true_eq] at hok2
    unfold Hy W6
    rw [AA,AA,q2,A8 (by grind),AA,AA,if_neg hpl,List.nil_append]
    exact u b (k+1+1) _ _ _ hok.2 (by omega) (by omega) (by grind) (by grind) (by omega) hbf (by grind [Core.szs,Core.sz_eq]) (by simp)
   ·rw [Bool.eq_false_iff.2 hok2,if_neg cB]
    dsimp only
    rw [if_pos c4,if_pos cF,P3 _ _ rfl,AA]
    exact⟨_,_,rfl,rfl,.inl ⟨(by decide:(4:Int)≠0),rfl,rfl⟩⟩
  ·have c8:¬ (decide (a.kind=8))=true:=by grind
   rw [if_neg c8,if_neg c8,q2]
   by_cases h4:(planB a ps).1 =4
   ·rw [if_pos (show (decide ((Bj a ps v).1.kind =4))=true by rw [q1]; grind),if_pos h4]
    have hbl:((rbl b).map (sbOf A)).reverse ++[⟨pa,s.lst.take a.level.toNat⟩] =((rbl (some ⟨pa,s,b⟩)).map (sbOf A)).reverse :=by
     rw [P2,List.map_cons,List.reverse_cons]
     grind [sbOf,Y2]
    rw [hbl]
    exact u (some ⟨pa,s,b⟩) (k+1) _ _ [] hok.2 (by omega) (by omega) (by grind) (by grind) (by rw [P2,List.length_cons]; grind) (fun x hx=>by
     rw [P2,List.mem_cons] at hx
     rcases hx with rfl|hx
     ·exact hs.mono (by have:=hz.he; omega)
     grind) (by grind [Core.szs]) (by simp)
   ·rw [if_neg (show ¬ (decide ((Bj a ps v).1.kind =4))=true by rw [q1]; grind),if_neg h4]
    exact u b (k+1) _ _ [] hok.2 (by omega) (by omega) (by grind) (by grind) (by omega) hbf (by grind [Core.szs]) (by simp)
 ·rw [Bool.eq_false_iff.2 hok,if_neg cB]
  dsimp only
  rw [if_pos c4,if_pos cF,P3 _ _ rfl,AA]
  exact⟨_,_,rfl,rfl,.inl ⟨(by decide:(4:Int)≠0),rfl,rfl⟩⟩
theorem Y7.mono {A:List Agent} {e0 e1 k0:Int} {ri:Core × Int × Reading} {rs:Core × L16Walk} (h:Y7 A e1 k0 ri rs) (he:e0≤e1):Y7 A e0 k0 ri rs:=by
 rcases h with h|⟨c,e,k,E,O,T,L,h1,h2,h3,h4,h5,h6⟩
 ·exact .inl h
 ·exact .inr ⟨c,e,k,E,O,T,L,h1,h2,h3,by omega,h5,h6⟩
theorem ic {A:List Agent} (hv:Vg A):∀m,oC A m:=by
 intro m
 induction m using Nat.strongRecOn with
 |ind m ih=>
 intro r w e k d E O T L p s b C fi fs U F hwk hwo hwl J hm hz hd1 hd2 hp hs hb hbf hlab hfi hfs
 have hbl:(rbl b).length ≤100000:=by omega
 obtain⟨fi,rfl⟩:∃x,fi=x+1:=⟨fi - 1,by omega⟩
 obtain⟨fs,rfl⟩:∃x,fs=x+8:=⟨fs - 8,by omega⟩
 have hpw:=wfP hv hp
 obtain⟨a,q,G,hq⟩:=hp
 obtain⟨j,u⟩:=p
 dsimp only at G hq hpw ⊢
 have hag:=agP (hv.ag _ _ G)
 have he:=hz.he
 have hk:=hz.hk
 have hent:=iT ⟨j,u⟩ hpw.1 hpw.2.1
 have hesz:=ek ⟨j,u⟩ hpw.1 hpw.2.1
 have hsapp:Hi C (entB ⟨j,u⟩)=some (C++entB ⟨j,u⟩):=Pz (by omega)
 have hw1:IntKind.i64.wrap (e+1)=e+1:=w64 (by omega) (by omega)
 have I:=ib (a:=a) ⟨r.net,e,k,O,T,L⟩ U ⟨j,u⟩ G hz.hT he
 have c0:¬ ((!decide ((0:Int)=0))=true):=by decide
 have c4:(!decide ((4:Int)=0))=true:=by decide
 have cT:¬ ((!true)=true):=by decide
 have cF:(!false)=true:=rfl
 rw [B8,show fs+8=(fs+7)+1 from rfl,BY,J,if_neg c0,hent.2,AA,hsapp,AA,hw1]
 by_cases h4k:e=4000
 ·obtain⟨r',hr'⟩:=I.1 h4k
  rw [hr',AA,if_pos c4,if_pos (by grind),P3 _ _ rfl,AA]
  exact⟨_,_,rfl,rfl,.inl ⟨(by decide:(4:Int)≠0),rfl,F⟩⟩
 have he4:e<4000:=by omega
 obtain⟨m,rfl⟩:∃x,m=x+1:=⟨m - 1,by omega⟩
 obtain⟨W,hT1,hr'⟩:=I.2 he4
 have hagw:at? w.n.agents j=some a:=by rw [F]; exact G
 have hagr:at? r.net.agents j=some a:=by rw [U]; exact G
 obtain⟨E1,hE1,hj18⟩:=oD (fs+6) w ((rbl b).map (sbOf A)).reverse d e E s.lst j u (C++entB ⟨j,u⟩) a (by have:=hz.hE; omega)
 have Y:((C++entB ⟨j,u⟩).size :Int)≤50*(e+1):=by rw [ByteArray.size_append]; omega
 have hz1:Szs A (e+1) k E1 O W L:=⟨by omega,hk,by have:=hz.hE; omega,hz.hO,hz.hL,hT1⟩
 rw [hr',AA]
 dsimp only
 rw [if_neg c0,hent.1,AA,hsapp,AA,hagr,AA,if_neg (show ¬decide (4000<e+1)=true by grind),hagw,AA,hj18]
 by_cases hk4:a.kind=4
 · -- a fan
  have hki:¬ (!decide (a.kind=4))=true:=by grind
  have hF:∀st nd en og lb,Bb (⟨⟨A⟩,st,nd,en,og,lb,0⟩:L16Walk) 13=some (⟨0,0,[],[]⟩,⟨⟨A⟩,st,nd,en,og,lb,13⟩):=fun _ _ _ _ _=>P3 _ _ rfl
  obtain⟨o,ho⟩:=Ja (l:=s.l) (i:=a.level) (by omega) (by rw [Stacks.l_len]; omega)
  have hol:at? s.lst a.level=some (stl o).reverse :=W9 ho
  have hof:=hs o (XA ho)
  have hlv:s.lst.length≤9:=by rw [Stacks.lst_len]; omega
  have hlv2:a.level<(s.lst.length:Int):=by rw [Stacks.lst_len]; omega
  rw [if_neg hki,BE,if_neg hki,hol,AA,F,J,hw1]
  by_cases hps:0<u
  ·have hpl:a.ports.length=3:=hag.2.2.2.2.2.1 (.inr (.inr (.inl hk4)))
   obtain⟨q0,hq0⟩:=Ja (l:=a.ports) (i:=0) (by omega) (by omega)
   have hps2:=J1 hq
   obtain⟨t,ht1,ht2,ht3⟩:=n9 (A:=A) ⟨r.net,e+1,k,O,W,L⟩ U ⟨j,u⟩ G hq0 ho hps (show u≤2 by omega) e.toNat hs
   have hr1:(⟨⟨A⟩,e+1,k,O,W,L⟩:Reading)=⟨r.net,e+1,k,O,W,L⟩:=by rw [U]
   rw [if_pos (decide_eq_true hps),XB _ (by rw [List.length_reverse]; grind),AA,A8 (by grind),AA,WM _ _ _ (by omega) hlv2 hlv,AA,show fs+5=(fs+4)+1 from rfl,EC,hq0,AA,hw1,ht1,AA]
   dsimp only
   rw [if_neg cT,← ht2]
   obtain⟨ri,rs,h1,h2,h3⟩:=ih m (by omega) r w (e+1) k d E1 O W L q0 t b (C++entB ⟨j,u⟩) fi (fs+4) U F hwk hwo hwl J (by omega) hz1 hd1 hd2 (hv.pr _ _ _ _ G hq0) (ht3.mono (by omega)) hb hbf Y (by omega) (by omega)
   exact⟨ri,rs,h1,h2,h3.mono (by omega)⟩
  ·rw [if_neg (show ¬decide (0<u)=true by grind)]
   cases o with
   |none=>
    rw [iU (A:=A) (a:=a) ⟨r.net,e+1,k,O,W,L⟩ U ⟨j,u⟩ G ho hps,AA]
    dsimp only
    rw [if_pos cF,if_pos (by rfl),hF,AA]
    exact⟨_,_,rfl,rfl,.inl ⟨(by decide:(13:Int)≠0),rfl,rfl⟩⟩
   | some st=>
    rw [K1] at hof
    have hpt:=hof.2 st.port (List.mem_cons_self ..)
    have hln:=hof.1
    rw [List.length_cons] at hln
    have hpl:a.ports.length=3:=hag.2.2.2.2.2.1 (.inr (.inr (.inl hk4)))
    obtain⟨q1,hq1⟩:=Ja (l:=a.ports) (i:=st.port) (by omega) (by omega)
    obtain⟨t,ht1,ht2,ht3⟩:=iV (A:=A) ⟨r.net,e+1,k,O,W,L⟩ U ⟨j,u⟩ G ho hq1 hps e.toNat hs
    have v:(stl (some st)).reverse =(stl st.rest).reverse ++[st.port] :=by rw [K1,List.reverse_cons]
    have hlen:(((stl (some st)).reverse.length :Nat):Int) - 1=(((stl st.rest).reverse.length :Nat):Int):=by rw [v,List.length_append]; simp
    have hwl1:IntKind.i64.wrap ((((stl (some st)).reverse.length :Nat):Int) - 1)=(((stl st.rest).reverse.length :Nat):Int):=by rw [hlen,w64 (by omega) (by grind)]
    have hcut:cutL (stl (some st)).reverse 0 (((stl st.rest).reverse.length :Nat):Int)=some (stl st.rest).reverse :=by
     unfold cutL
     rw [if_pos ⟨by omega,by omega,by rw [v,List.length_append]; omega⟩,v]
     simp
    rw [if_neg (show ¬decide ((((stl (some st)).reverse.length :Nat):Int)=0)=true by rw [v]; grind),hwl1,BZ (l:=(stl (some st)).reverse) (post:=[]) v,AA,hcut,AA,XB _ (by rw [List.length_reverse]; grind),AA,WM _ _ _ (by omega) hlv2 hlv,AA,hq1,AA,ht1,AA]
    dsimp only
    rw [if_neg cT,← ht2]
    obtain⟨ri,rs,h1,h2,h3⟩:=ih m (by omega) r w (e+1) k d E1 O W L q1 t b (C++entB ⟨j,u⟩) fi (fs+5) U F hwk hwo hwl J (by omega) hz1 hd1 hd2 (hv.pr _ _ _ _ G hq1) (ht3.mono (by omega)) hb hbf Y (by omega) (by omega)
    exact⟨ri,rs,h1,h2,h3.mono (by omega)⟩
 · -- a node
  have hki:(!decide (a.kind=4))=true:=by grind
  have hvar:=lO hv ⟨r.net,e+1,k,O,W,L⟩ U j G s b hbl
  rw [if_pos hki,ia hv ⟨r.net,e+1,k,O,W,L⟩ U ⟨j,u⟩ G s b _ hvar,AA]
  have hmm:m<m+1:=Nat.lt_succ_self m
  rcases j19_node hv (fs+1) w F J (rbl b) hbl hbf d e s j u (C++entB ⟨j,u⟩) E1 G hk4 he with ⟨h1,h2⟩|⟨h1,n,hn,h2⟩
  ·rw [h2,h1,if_pos cF]
   exact⟨_,_,rfl,rfl,.inl ⟨(by decide:(13:Int)≠0),rfl,rfl⟩⟩
  ·rw [h2,h1,if_neg cT]
   have:=eu hv (ih m hmm) fi n (by omega) (by omega) r U w F e k d E1 O W L hwk hwo hwl J (by omega) he.1 hz1 ⟨hd1,hd2⟩ j u G s (hs.mono (by omega)) b hb hbf (C++entB ⟨j,u⟩) (K2 j a.level.toNat s 0 (rbl b)) h1
   rw [← U,hagr] at this
   omega
def IX:Stacks:=⟨none,none,none,none,none,none,none,none,none⟩
theorem aq:IX.lst=List.replicate 9 [] :=rfl
theorem UJ (n:Net):∀ (j i:Nat) (m:Nat),i+j=9→j<m→Df m n (List.replicate i []) (i:Int)=Df (m - j) n (List.replicate 9 []) 9
 |0,i,m,h,hm=>by
  grind
 |j+1,i,m,h,hm=>by
  obtain⟨m,rfl⟩:∃k,m=k+1:=⟨m - 1,by omega⟩
  rw [Df,if_pos (by grind),A8 (by grind),AA,w64 (by omega) (by omega)]
  have e:List.replicate i ([] :List Int)++[[]] =List.replicate (i+1) [] :=by rw [List.replicate_succ']
  have p:(i:Int)+1=((i+1:Nat):Int):=by omega
  rw [e,p,UJ n j (i+1) m (by omega) (by omega),show m+1 - (j+1)=m - j from by omega]
theorem ew {n:Net} (hv:n.valid=true) (hs:n.Small):∃j rs,Hw n=some (j.2.2,j.1,j.2.1)∧Km n=some rs∧Y7 n.agents 0 0 j rs:=by
 have hg:=Net.valid_vg hv
 obtain⟨A⟩:=n
 dsimp only at hg ⊢
 obtain⟨a,u⟩:=Ja (l:=A) (i:=0) (by omega) (by have:=hg.len; omega)
 have hp:=agP (hg.ag _ _ u)
 obtain⟨q,v⟩:=Ja (l:=a.ports) (i:=0) (by omega) (by omega)
 obtain⟨F,C⟩:∃F,fuel=F+1:=⟨fuel - 1,by rw [AY]⟩
 have p:20*4000+20≤F:=by rw [AY] at C; omega
 obtain⟨j,rs,h1,h2,h3⟩:=ic hg 4000 ⟨⟨A⟩,0,0,[],List.replicate A.length 0,[]⟩ ⟨⟨A⟩,0,0,[],[],[],0⟩ 0 0 1 [] [] (List.replicate A.length 0) [] q IX none (ByteArray.mk #[]) F F rfl rfl rfl rfl rfl rfl (by omega) ⟨by omega,by omega,by simp,rfl,rfl,by simp⟩ (by omega) (by omega) (hg.pr _ _ _ _ u v) (by
  intro x hx
  simp_all [Stacks.l,IX,stl]) (by simp [rbl]) (by simp [rbl]) (by show ((0:Nat):Int)≤_; omega) p p
 have U:j.2.2.net =⟨A⟩∨True:=.inr trivial
 refine⟨⟨j.1,j.2.1,⟨⟨A⟩,j.2.2.entered,j.2.2.nodes,j.2.2.origins,j.2.2.times,j.2.2.labels⟩⟩,rs,?_,?_,?_⟩
 ·unfold Hw
  rw [W2 _ hs,hv,AA,if_neg (by decide),Q3 (by have:=hg.len; grind),AA,P0 u v,AA,C,DD]
  change Option.bind (B8 F ⟨⟨A⟩,0,0,[],List.replicate A.length 0,[]⟩ none 1 0 0 [] (List.replicate A.length 0) [] q.agent q.slot IX.e0 IX.e1 IX.e2 IX.e3 IX.e4 IX.e5 IX.e6 IX.e7 IX.e8 (ByteArray.mk #[])) _=_
  rw [h1,AA]
 ·unfold Km
  have I:=UJ ⟨A⟩ 9 0 fuel rfl (by rw [AY]; omega)
  have e0:List.replicate 0 ([] :List Int)=[] :=rfl
  rw [e0,show ((0:Nat):Int)=0 from rfl] at I
  obtain⟨G,J⟩:∃G,fuel - 9=G+1:=⟨fuel - 10,by rw [AY]⟩
  rw [I,J,Df,if_neg (by decide)]
  dsimp only
  rw [u,AA,v,AA,C,CX]
  rw [aq] at h2
  have e1:((rbl none).map (sbOf A)).reverse =[] :=rfl
  rw [e1] at h2
  dsimp only
  rw [h2,AA]
 ·rcases h3 with ⟨c1,c2,c3⟩|⟨c,e,k,E,O,T,L,rfl,rfl,hz,he,hk,hsz⟩
  ·exact .inl ⟨c1,c2,c3⟩
  ·exact .inr ⟨c,e,k,E,O,T,L,rfl,rfl,hz,he,hk,hsz⟩
def Q4 (a b:Agent) (x y:Int):Int:=
 if kcl a b=1∨kcl a b=6∨kcl a b=7 then (if pfi a b=2 then x else y)
 else if kcl a b=5∧(if pfi a b=2 then a else b).kind =8 then (if pfi a b=2 then x else y) else -1
theorem xk {a b:Agent} (h:pfi a b=2):kcl b a=kcl a b:=by
 have j:ru a.kind a.level b.kind b.level=0∧ru b.kind b.level a.kind a.level≠0:=by
  unfold pfi at h
  by_cases h1:ru a.kind a.level b.kind b.level=0 <;> by_cases h2:ru b.kind b.level a.kind a.level=0 <;> simp_all
 have e:pcl b a=pcl a b:=by simp [pcl,j]
 unfold kcl
 rw [e]
 by_cases h1:DT a b=true <;> by_cases h2:DT b a=true <;> simp [h1,h2]
theorem ie {A:List Agent} {x y:Int} {a b:Agent} (ha:at? A x=some a) (hb:at? A y=some b) (h:Two a b):Ex ⟨A⟩ ⟨x,y⟩=some (Q4 a b x y):=by
 grind [R5,Ex,Q4,DX,Ce]
theorem ig {A:List Agent} {x y:Int} {a b:Agent} (ha:at? A x=some a) (hb:at? A y=some b) (h:Two a b):Fm ⟨A⟩ ⟨x,y⟩=some (Q4 a b x y):=by
 unfold Fm Ed
 dsimp only
 rw [ha,AA,hb,AA,WQ h,AA]
 unfold Q4
 by_cases hp:pfi a b=2
 ·rw [if_pos (decide_eq_true hp),AA]
  dsimp only
  rw [hb,AA,ha,AA,J6 h.symm,AA,xk hp]
  grind [Cv]
 grind [J6,Cv]
def Gm (con:Int):Int→List Int→List Int
 |_,[] =>[]
 |i,x::l=>if 0≤con∧x=con then i::Gm con (i+1) l else Gm con (i+1) l
theorem UK (con:Int):∀ (l:List Int) (i:Int),(Gm con i l).length ≤l.length
 | [],_=>by simp [Gm]
 |x::l,i=>by
  have:=UK con l (i+1)
  rw [Gm]
  split <;> simp only [List.length_cons] <;> omega
theorem M4 (con:Int) (v:Core × L16Walk) (l:List Int) (hv:v.2.origins =l) (hl:l.length≤100000):∀ (post pre:List Int) (acc:List Int) (n:Nat),l=pre++post→2*post.length+1≤n→acc.length≤pre.length→CS n con v acc (pre.length:Int)=some (acc++Gm con (pre.length:Int) post,v.1,0)
 | [],pre,acc,n,h,hn,ha=>by
  obtain⟨n,rfl⟩:∃m,n=m+1:=⟨n - 1,by omega⟩
  rw [CS,hv,C0 h,if_neg (by simp),Gm,List.append_nil]
 | x::post,pre,acc,n,h,hn,ha=>by
  simp only [List.length_cons] at hn
  obtain⟨n,rfl⟩:∃m,n=m+2:=⟨n - 2,by omega⟩
  have j:pre.length+(post.length+1)=l.length:=by rw [h]; simp
  have p:∀b,Ec (n+1) con acc (pre.length:Int) v b=some (acc++(if b=true then (pre.length:Int)::Gm con ((pre.length:Int)+1) post else Gm con ((pre.length:Int)+1) post),v.1,0):=fun b=>by
   have e:((List.length (pre++[x]):Nat):Int)=(pre.length:Int)+1:=by simp
   rw [Ec]
   cases b with
   |true=>
    rw [if_pos rfl,A8 (by grind),AA,BP h (by grind),M4 con v l hv hl post (pre++[x]) _ n (As h) (by omega) (by grind),e,if_pos rfl,List.append_assoc]
    rfl
   |false=>
    rw [if_neg (by simp),BP h (by grind),M4 con v l hv hl post (pre++[x]) _ n (As h) (by omega) (by omega),e,if_neg (by simp)]
  rw [CS,hv,if_pos (Cb h),BZ h,AA,p,p,Gm]
  grind
theorem M5 (con:Int) (v:Reading × Core × Int) (l:List Int) (hv:v.1.origins =l) (hl:l.length≤100000):∀ (post pre:List Int) (acc:List Int) (n:Nat),l=pre++post→2*post.length+1≤n→acc.length≤pre.length→Dk n v con acc (pre.length:Int)=some (v.2.1,acc++Gm con (pre.length:Int) post,0)
 | [],pre,acc,n,h,hn,ha=>by
  obtain⟨n,rfl⟩:∃m,n=m+1:=⟨n - 1,by omega⟩
  rw [Dk,hv,C0 h,if_neg (by simp),Gm,List.append_nil]
 | x::post,pre,acc,n,h,hn,ha=>by
  simp only [List.length_cons] at hn
  obtain⟨n,rfl⟩:∃m,n=m+2:=⟨n - 2,by omega⟩
  have j:pre.length+(post.length+1)=l.length:=by rw [h]; simp
  have p:∀b,F3 (n+1) acc (pre.length:Int) v con b=some (v.2.1,acc++(if b=true then (pre.length:Int)::Gm con ((pre.length:Int)+1) post else Gm con ((pre.length:Int)+1) post),0):=fun b=>by
   have e:((List.length (pre++[x]):Nat):Int)=(pre.length:Int)+1:=by simp
   rw [F3]
   cases b with
   |true=>
    rw [if_pos rfl,A8 (by grind),AA,BP h (by grind),M5 con v l hv hl post (pre++[x]) _ n (As h) (by omega) (by grind),e,if_pos rfl,List.append_assoc]
    rfl
   |false=>
    rw [if_neg (by simp),BP h (by grind),M5 con v l hv hl post (pre++[x]) _ n (As h) (by omega) (by omega),e,if_neg (by simp)]
  rw [Dk,hv,if_pos (Cb h),BZ h,AA,p,p,Gm]
  grind
theorem agL {a:Agent} (h:agB a=true):levB a.kind a.level=true:=by
 grind [agB]
theorem Ys {n:Net} (hv:n.valid=true) (hs:n.Small) (p:Pair) (hp:p ∈ prs 1 (n.agents.drop 1)):∃ (con:Int) (c:Core) (m:List Int) (code:Int),Fm n p=some con∧JR n con=some (m,c,code)∧Mt n p=some (c,m,code)∧m.length≤400∧c.sz≤2000:=by
 obtain⟨W,rs,h1,h2,h3⟩:=ew hv hs
 obtain⟨a,b,j,F,I,u,C⟩:=iN (Net.valid_vn hv) hp
 have q:Two a b:=⟨agL F,agL I,u,C⟩
 obtain⟨A⟩:=n
 obtain⟨x,y⟩:=p
 have v:=ie j.hx j.hy q
 have G:=ig j.hx j.hy q
 refine⟨Q4 a b x y,?_⟩
 unfold JR Mt
 rw [G,h2,h1,AA,AA,v]
 rcases h3 with ⟨c1,c2,c3⟩|⟨c,e,k,E,O,T,L,rfl,rfl,hz,he,hk,hsz⟩
 ·have U:(!decide (W.2.1 =0))=true:=by grind
  rw [c2,if_pos U,if_pos U]
  grind [Core.sz,Core.szs]
 ·have J:¬ (!decide ((0:Int)=0))=true:=by decide
  have hO:=hz.hO
  have Y:=hz.hk
  dsimp only
  rw [if_neg J,if_neg J,AA]
  have hs:=M4 (Q4 a b x y) (c,⟨⟨A⟩,e,k,E,O,L,0⟩) O rfl (by omega) O [] [] fuel rfl (by rw [AY]; omega) (by simp)
  grind [M5,AY,UK]
end Go.Proofs.YthenkmapmnkelaaGreatDoor.Ab
