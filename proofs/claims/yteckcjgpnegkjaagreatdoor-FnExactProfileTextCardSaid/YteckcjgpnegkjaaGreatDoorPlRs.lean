/-
  Nets that are rewritten: the pairs of a net. No program is in sight.
-/
import Derived.Test.YteckcjgpnegkjaaGreatDoorModS
import Derived.Test.YteckcjgpnegkjaaGreatDoorPlRp
namespace Go.Proofs.YteckcjgpnegkjaaGreatDoor.Ab
set_option linter.unusedVariables false
set_option maxHeartbeats 1000000
set_option linter.unusedSimpArgs false
open Go.RowKit
def pr1 (i:Nat) (a:Agent):List Pair:=match at? a.ports 0 with
 |some v=>if v.slot=0∧(i:Int)<v.agent then [⟨(i:Int),v.agent⟩] else []
 |none=>[]
def prs:Nat→List Agent→List Pair
 |_,[] =>[]
 |i,a::l=>pr1 i a++prs (i+1) l
theorem fX (i:Nat) (a:Agent):(pr1 i a).length ≤1:=by
 grind [pr1]
theorem To:∀ (l:List Agent) (i:Nat),(prs i l).length ≤l.length
 | [],_=>by simp [prs]
 |a::l,i=>by
  rw [prs,List.length_append,List.length_cons]
  have:=To l (i+1)
  grind [fX]
theorem O0 {N} (n:Net) (h:VnN N n.agents) (hN:N≤5000000):EI n=some (prs 1 (n.agents.drop 1)):=by
 have hl:n.agents.length≤Big:=by have:=h.len; grind
 have loop:∀ (post pre:List Agent) (acc:List Pair) (k:Nat),n.agents=pre++post→1≤pre.length→acc.length≤pre.length→2*post.length<k→Bg k n acc (pre.length:Int)=some (acc++prs pre.length post):=by
  intro post
  induction post with
  |nil=>
   intro pre acc k he h1 ha hk
   obtain⟨k,rfl⟩:∃q,k=q+1:=⟨k - 1,by omega⟩
   rw [Bg,CY he,if_neg (by simp),prs,List.append_nil]
  |cons x post ih=>
   intro pre acc k he h1 ha hk
   rw [List.length_cons] at hk
   obtain⟨k,rfl⟩:∃q,k=q+1+1:=⟨k - 2,by omega⟩
   obtain⟨gx,gk⟩:=h.ag _ x (BI he)
   have hp:=CP gx
   have hk1:x.kind≠1:=fun e=>by omega
   obtain⟨v,hv,-⟩:=EA (l:=x.ports) (i:=0) (by omega)
   have hnl:pre.length<n.agents.length:=by rw [he]; simp
   have e1:pr1 pre.length x=if v.slot=0∧(pre.length:Int)<v.agent then [⟨(pre.length:Int),v.agent⟩] else [] :=by unfold pr1; rw [hv]
   have ih':=fun acc' ha'=>ih (pre++[x]) acc' k (Ai he) (by simp) ha' (by omega)
   rw [List.length_append,List.length_singleton] at ih'
   have hw:=A8 he hl
   rw [List.length_append,List.length_singleton] at hw
   rw [Bg,if_pos (CB he),BI he,AA,hv,AA,prs,e1]
   grind [Cn,CO]
 have hlen:=h.len
 obtain⟨t0,tl,htl⟩:∃t0 tl,n.agents=t0::tl:=by
  cases hh:n.agents with
  |nil=>rw [hh] at hlen; grind
  |cons t0 tl=>grind
 have he0:n.agents=[] ++t0::tl:=by rw [htl]; rfl
 obtain⟨gx,gk⟩:=h.ag 0 t0 (BI he0)
 have hp:=CP gx
 have hk1:t0.kind=1:=gk.2 rfl
 obtain⟨v,hv,-⟩:=EA (l:=t0.ports) (i:=0) (by omega)
 have hd:n.agents.drop 1=tl:=by rw [htl]; rfl
 unfold EI
 obtain⟨k,hk⟩:∃q,fuel=q+1+1:=⟨fuel - 2,by rw [Af]⟩
 have l1:=loop tl [t0] [] k htl (by simp) (by simp) (by rw [Af] at hk; rw [htl] at hlen; grind)
 rw [List.length_singleton,List.nil_append,Int.natCast_one] at l1
 have h0:at? n.agents 0=some t0:=by grind [BI]
 rw [hk,Bg,if_pos (by rw [htl]; simp),h0,AA,hv,AA,hd]
 grind [Cn,w64]
theorem Zp {N} (n:Net) (h:VnN N n.agents) (hN:N≤5000000):Gp n=some (prs 1 (n.agents.drop 1)):=by
 have hl:n.agents.length≤Big:=by have:=h.len; grind
 have loop:∀ (post pre:List Agent) (acc:List Pair) (k:Nat),n.agents=pre++post→acc.length≤pre.length→2*post.length<k→Bx k n acc (pre.length:Int)=some (acc++prs pre.length post):=by
  intro post
  induction post with
  |nil=>
   intro pre acc k he ha hk
   obtain⟨k,rfl⟩:∃q,k=q+1:=⟨k - 1,by omega⟩
   rw [Bx,CY he,if_neg (by simp),prs,List.append_nil]
  |cons x post ih=>
   intro pre acc k he ha hk
   rw [List.length_cons] at hk
   obtain⟨k,rfl⟩:∃q,k=q+1+1:=⟨k - 2,by omega⟩
   obtain⟨gx,gk⟩:=h.ag _ x (BI he)
   have hp:=CP gx
   have hk0:x.kind≠0:=by have:=La gx; omega
   obtain⟨v,hv,-⟩:=EA (l:=x.ports) (i:=0) (by omega)
   have hnl:pre.length<n.agents.length:=by rw [he]; simp
   have e1:pr1 pre.length x=if v.slot=0∧(pre.length:Int)<v.agent then [⟨(pre.length:Int),v.agent⟩] else [] :=by unfold pr1; rw [hv]
   have ih':=fun acc' ha'=>ih (pre++[x]) acc' k (Ai he) ha' (by omega)
   rw [List.length_append,List.length_singleton] at ih'
   have hw:=A8 he hl
   rw [List.length_append,List.length_singleton] at hw
   rw [Bx,if_pos (CB he),BI he,AA,if_neg (by grind),AA,hv,AA,prs,e1]
   grind [Es,CO]
 have hlen:=h.len
 obtain⟨t0,tl,htl⟩:∃t0 tl,n.agents=t0::tl:=by
  cases hh:n.agents with
  |nil=>rw [hh] at hlen; grind
  |cons t0 tl=>grind
 have hd:n.agents.drop 1=tl:=by rw [htl]; rfl
 unfold Gp
 have l1:=loop tl [t0] [] fuel htl (by simp) (by rw [Af]; rw [htl] at hlen; grind)
 rw [List.length_singleton,List.nil_append,Int.natCast_one] at l1
 rw [l1,hd]
theorem Tp:∀ (l:List Agent) (i:Nat) (p:Pair),p ∈ prs i l→∃ (j:Nat) (a:Agent) (v:Port),l[j]? =some a∧at? a.ports 0=some v∧v.slot=0∧p=⟨((i+j:Nat):Int),v.agent⟩∧p.a<v.agent
 | [],_,p,h=>by simp [prs] at h
 | a ::l,i,p,h=>by
  rw [prs] at h
  rcases List.mem_append.1 h with h|h
  ·unfold pr1 at h
   split at h
   ·rename_i v hv
    split at h
    ·rename_i hc
     rw [List.mem_singleton] at h
     subst h
     exact⟨0,a,v,rfl,hv,hc.1,rfl,hc.2⟩
    grind
   grind
  ·obtain⟨j,b,v,h1,h2,h3,h4,h5⟩:=Tp l (i+1) p h
   exact⟨j+1,b,v,h1,h2,h3,by rw [h4]; grind,h5⟩
theorem XP {N} {l} (h:VnN N l) {p} (hp:p ∈ prs 1 (l.drop 1)):∃a b,Pr (fun k=>k ∈ ([] :List Int)) l p.a p.b a b∧agB a=true∧agB b=true∧a.kind≠1∧b.kind≠1:=by
 obtain⟨j,a,v,h1,h2,h3,h4,h5⟩:=Tp _ _ _ hp
 rw [List.getElem?_drop] at h1
 have ha:at? l p.a=some a:=by rw [h4]; exact LU h1
 have hg:Ab.get l ⟨p.a,0⟩=some ⟨p.b,0⟩:=Aw.2 ⟨a,ha,by rw [h2,h4]; exact congrArg some (Ca rfl h3)⟩
 obtain⟨-,-,g3⟩:=h.m _ _ hg not_false
 obtain⟨b,hb,-⟩:=Aw.1 g3
 have e1:p.a=((1+j:Nat):Int):=by rw [h4]
 have e2:p.b=v.agent:=by rw [h4]
 refine⟨a,b,⟨ha,hb,hg,by simp,by simp⟩,(h.ag _ _ ha).1,(h.ag _ _ hb).1,fun e=>?_,fun e=>?_⟩
 ·have:=(h.ag _ _ ha).2.1 e; omega
 ·have:=(h.ag _ _ hb).2.1 e; grind
theorem fY {α:Type} {l:List α} {p:α→Bool}:l.any (fun x=> !p x)= !l.all p:=by
 grind
def Lg (l:List Net):Bool:=decide (l.length≤24)&&l.all Net.valid
theorem Vo (l:List Net) (f:Net→Option Bool) (p:Net→Bool) (hl:l.length≤Big) (hf:∀x ∈ l,f x=some (p x)):B5 l f=some (l.any p):=by
 obtain⟨i,h1,h2,-⟩:=KQ BG (fun n l i f=>by rw [BG]) l f p hl hf
 grind [B5,DV]
theorem Zq (l:List Net) (hl:l.length≤Big) (hs:∀n ∈ l,n.Small):D9 l=some (Lg l):=by
 unfold D9 Lg
 rw [Vo l _ (fun n=> !n.valid) hl (fun n hn=>by unfold Ea; rw [YK n (hs n hn),AA]),fY,AA,Bool.not_not]
 have e:decide ((l.length:Int)≤24)=decide (l.length≤24):=by grind
 rw [e]
 cases decide (l.length≤24) <;> simp
theorem Zr (l:List Net) (hl:l.length≤Big) (hs:∀n ∈ l,n.Small):Jk l=some (Lg l):=by
 unfold Jk Lg
 rw [mn (fun n i=>Eb n l i) KO Net.valid l (fun n i=>by rw [Eb]) hl fun n hn=>YG n (hs n hn)]
 grind
theorem Zs {l} (h:Lg l=true):∀T ∈ l,Vn T.agents:=fun T hT=>by
 grind [Lg,Net.valid_vn]
def kp:Nat→List Agent→List Int
 |_,[] =>[]
 |i,a::l=>if a.kind=0 then kp (i+1) l else (i:Int)::kp (i+1) l
def mpz:Nat→List Int→List (Int × Int)
 |_,[] =>[]
 |j,k::l=>(k,(j:Int))::mpz (j+1) l
def ixL:Nat→List Agent→List Int
 |_,[] =>[]
 |c,a::l=>(c:Int)::ixL (if a.kind=0 then c else c+1) l
theorem XQ:∀ (l:List Agent) (i:Nat),(kp i l).length ≤l.length
 | [],_=>by simp [kp]
 |a::l,i=>by
  have:=XQ l (i+1)
  rw [kp,List.length_cons]
  split
  ·omega
  ·rw [List.length_cons]; omega
theorem YR:∀ (l:List Agent) (c t:Nat),t<l.length→(ixL c l)[t]? =some ((c+AW (l.take t):Nat):Int)
 | [],_,t,h=>by simp at h
 |a::l,c,0,h=>by simp [ixL,AW]
 |a::l,c,t+1,h=>by
  rw [List.length_cons] at h
  rw [ixL,List.getElem?_cons_succ,YR l _ t (by omega),List.take_succ_cons,AW]
  by_cases e:a.kind=0
  ·rw [if_pos e,if_pos e]; congr 2; omega
  ·rw [if_neg e,if_neg e]; congr 2; omega
theorem cm:∀ (l:List Agent) (i:Nat) (k:Int),k ∈ kp i l→(i:Int)≤k
 | [],_,k,h=>by simp [kp] at h
 | a::l,i,k,h=>by
  rw [kp] at h
  split at h
  ·have:=cm l (i+1) k h; omega
  ·rcases List.mem_cons.1 h with e|e
   ·omega
   ·have:=cm l (i+1) k e; omega
theorem Tq:∀ (l:List Agent) (i j t:Nat) (a:Agent),l[t]? =some a→a.kind≠0→I4 (mpz j (kp i l)) ((i+t:Nat):Int)=some ((j+AW (l.take t):Nat):Int)
 | [],_,_,t,a,h,_=>by simp at h
 |b::l,i,j,0,a,h,hk=>by
  simp only [List.getElem?_cons_zero,Option.some.injEq] at h
  subst h
  rw [kp,if_neg hk,mpz,I4,if_pos (by simp)]
  simp [AW]
 | b::l,i,j,t+1,a,h,hk=>by
  rw [List.getElem?_cons_succ] at h
  rw [kp,List.take_succ_cons,AW]
  by_cases e:b.kind=0
  ·rw [if_pos e,if_pos e,show i+(t+1)=(i+1)+t from by omega,Tq l (i+1) j t a h hk,Nat.zero_add]
  ·rw [if_neg e,if_neg e,mpz,I4,if_neg (by simp only; omega),show i+(t+1)=(i+1)+t from by omega,Tq l (i+1) (j+1) t a h hk]
   congr 2; omega
def rnP (f:Int→Int) (q:Port):Port:=⟨f q.agent,q.slot⟩
def rnA (f:Int→Int) (a:Agent):Agent:=⟨a.kind,a.level,a.value,a.data,a.ports.map (rnP f)⟩
def Cr (f:Int→Int):List Agent→List Agent
 | [] =>[]
 |a::l=>if a.kind=0 then Cr f l else rnA f a::Cr f l
theorem S1 (f:Int→Int):∀l:List Agent,(Cr f l).length ≤l.length
 | [] =>by simp [Cr]
 |a::l=>by
  have:=S1 f l
  rw [Cr,List.length_cons]
  split
  ·omega
  ·rw [List.length_cons]; omega
theorem Zt (n:Net) (ix:List Int) (f:Int→Int) (i:Int) (x:Agent) (acc:List Agent):∀ (post pre:List Port) (k:Nat),(∀q ∈ post,at? ix q.agent=some (f q.agent))→pre.length+post.length≤Big→
  DC (post.length+1+k) n ix acc i x (pre.map (rnP f)++post) (pre.length:Int)=(app? acc [⟨x.kind,x.level,x.value,x.data,(pre++post).map (rnP f)⟩]).bind fun v=>BX k n ix v (IntKind.i64.wrap (i+1)):=by
 intro post
 induction post with
 |nil=>
  intro pre k hq hb
  rw [show ([] :List Port).length +1+k=k+1 from by simp; omega,DC,if_neg (by simp),List.append_nil,List.append_nil]
 |cons q post ih=>
  intro pre k hq hb
  rw [List.length_cons] at hb
  have e1:(pre.length:Int)=((List.length (pre.map (rnP f)):Nat):Int):=by rw [List.length_map]
  rw [show (q::post).length +1+k=(post.length+1+k)+1 from by simp; omega,DC,if_pos (by simp; omega),e1,KW,AA,hq q List.mem_cons_self,AA,AA,Lc,AA,← e1,w64 (by unfold Big at hb; omega) (by unfold Big at hb; omega)]
  have:=ih (pre++[q]) k (fun r hr=>hq r (List.mem_cons_of_mem _ hr)) (by simp; omega)
  rw [List.map_append,List.map_singleton,List.append_assoc,List.singleton_append,List.append_assoc,List.singleton_append,List.length_append,List.length_singleton] at this
  rw [show (pre.length:Int)+1=((List.length pre+1:Nat):Int) from by omega]
  exact this
theorem Zu (n:Net) (keep:List Int) (mp:List (Int × Int)) (f:Int→Int) (i:Int) (x:Agent) (acc:List Agent):∀ (post pre:List Port) (k:Nat),x.ports=pre++post→(∀q ∈ post,(I4 mp q.agent).getD 0=f q.agent)→pre.length+post.length≤Big→
  Bf (post.length+1+k) n keep mp acc i x (pre.map (rnP f)++post) (pre.length:Int)=(app? acc [⟨x.kind,x.level,x.value,x.data,(pre++post).map (rnP f)⟩]).bind fun v=>Ar k n keep mp v (IntKind.i64.wrap (i+1)):=by
 intro post
 induction post with
 |nil=>
  intro pre k hx hq hb
  rw [show ([] :List Port).length +1+k=k+1 from by simp; omega,Bf,if_neg (by rw [hx]; simp),List.append_nil,List.append_nil]
 |cons q post ih=>
  intro pre k hx hq hb
  rw [List.length_cons] at hb
  have e1:(pre.length:Int)=((List.length (pre.map (rnP f)):Nat):Int):=by rw [List.length_map]
  rw [show (q::post).length +1+k=(post.length+1+k)+1 from by simp; omega,Bf,if_pos (by rw [hx]; simp; omega),e1,KW,AA,AA,hq q List.mem_cons_self,Lc,AA,← e1,w64 (by unfold Big at hb; omega) (by unfold Big at hb; omega)]
  have:=ih (pre++[q]) k (by rw [hx]; simp) (fun r hr=>hq r (List.mem_cons_of_mem _ hr)) (by simp; omega)
  rw [List.map_append,List.map_singleton,List.append_assoc,List.singleton_append,List.append_assoc,List.singleton_append,List.length_append,List.length_singleton] at this
  rw [show (pre.length:Int)+1=((List.length pre+1:Nat):Int) from by omega]
  exact this
def posN (B:List Agent) (k:Int):Int:=((AW (B.take k.toNat):Nat):Int)
def P9 (B:List Agent):Prop:=∀ (a:Agent),a ∈ B→a.kind≠0→(a.ports.length≤4∧a.data.length≤4)∧∀q ∈ a.ports,∃b,at? B q.agent=some b∧b.kind≠0
theorem fZ (B:List Agent) (hB:B.length≤16000000) (hc:P9 B):F7 ⟨B⟩=some ⟨Cr (posN B) B⟩:=by
 have hl:B.length≤Big:=by unfold Big; omega
 have hix:∀q:Port,(∃b,at? B q.agent=some b)→at? (ixL 0 B) q.agent=some (posN B q.agent):=fun q ⟨b,hb⟩=>by
  have:=Cq hb
  unfold at?
  rw [if_pos this.1,YR B 0 q.agent.toNat (by omega),Nat.zero_add]; rfl
 have l24:∀ (post pre acc:List Agent) (k:Nat),B=pre++post→acc.length≤pre.length→10*post.length<k→BX k ⟨B⟩ (ixL 0 B) acc (pre.length:Int)=some ⟨acc++Cr (posN B) post⟩:=by
  intro post
  induction post with
  |nil=>
   intro pre acc k h ha hk
   obtain⟨k,rfl⟩:∃q,k=q+1:=⟨k - 1,by omega⟩
   have h':(⟨B⟩:Net).agents =pre++[] :=h
   rw [BX,CY h',if_neg (by simp),Cr,List.append_nil]
  | cons x post ih=>
   intro pre acc k h ha hk
   rw [List.length_cons] at hk
   have h':(⟨B⟩:Net).agents =pre++x::post:=h
   have hpl:pre.length<B.length:=by rw [h]; simp
   by_cases h0:x.kind=0
   ·obtain⟨k,rfl⟩:∃q,k=q+1:=⟨k - 1,by omega⟩
    rw [BX,if_pos (CB h'),BI h',AA,if_neg (by simp [h0]),A8 h' hl,ih (pre++[x]) acc k (Ai h) (by simp; omega) (by omega),Cr,if_pos h0]
   ·obtain⟨⟨hp,hd⟩,hq⟩:=hc x (by rw [h]; simp) h0
    obtain⟨k,rfl⟩:∃q,k=(x.ports.length+1+q)+1:=⟨k - x.ports.length - 2,by omega⟩
    rw [BX,if_pos (CB h'),BI h',AA,if_pos (by simp [h0]),AA,JC x (by unfold Big; omega) (by unfold Big; omega),AA]
    have:=Zt ⟨B⟩ (ixL 0 B) (posN B) (pre.length:Int) x acc x.ports [] k (fun q hq'=>hix q (by obtain⟨b,hb,-⟩:=hq q hq'; exact⟨b,hb⟩)) (by simp; unfold Big; omega)
    simp only [List.map_nil,List.nil_append,List.length_nil,Int.natCast_zero] at this
    rw [this,CO (by simp; unfold Big; omega),AA,A8 h' hl,Cr,if_neg h0]
    have e:(⟨x.kind,x.level,x.value,x.data,x.ports.map (rnP (posN B))⟩:Agent)=rnA (posN B) x:=rfl
    rw [e,ih (pre++[x]) (acc++[rnA (posN B) x]) k (Ai h) (by simp; omega) (by omega),List.append_assoc,List.singleton_append]
 have l2:∀ (post pre:List Agent) (acc:List Int) (k:Nat),B=pre++post→acc.length=pre.length→acc++ixL (AW pre) post=ixL 0 B→post.length<k→C4 k ⟨B⟩ acc ((AW pre:Nat):Int) (pre.length:Int)=BX fuel ⟨B⟩ (ixL 0 B) [] 0:=by
  intro post
  induction post with
  |nil=>
   intro pre acc k h ha hx hk
   obtain⟨k,rfl⟩:∃q,k=q+1:=⟨k - 1,by omega⟩
   have h':(⟨B⟩:Net).agents =pre++[] :=h
   rw [ixL,List.append_nil] at hx
   rw [C4,CY h',if_neg (by simp),hx]
  | cons x post ih=>
   intro pre acc k h ha hx hk
   rw [List.length_cons] at hk
   obtain⟨k,rfl⟩:∃q,k=q+1:=⟨k - 1,by omega⟩
   have h':(⟨B⟩:Net).agents =pre++x::post:=h
   have hpl:pre.length<B.length:=by rw [h]; simp
   have hlv:=Ju pre
   have ih':=ih (pre++[x]) (acc++[((AW pre:Nat):Int)]) k (Ai h) (by simp [ha])
   rw [ixL] at hx
   rw [IE] at ih'
   rw [C4,if_pos (CB h'),CO (by simp; unfold Big; omega),AA,BI h',AA,A8 h' hl]
   by_cases h0:x.kind=0
   ·rw [if_neg (by simp [h0])]
    rw [show AW [x] =0 from by simp [AW,h0],Nat.add_zero] at ih'
    rw [if_pos h0] at hx
    exact ih' (by rw [List.append_assoc]; exact hx) (by omega)
   ·rw [if_pos (by simp [h0]),w64 (by omega) (by omega)]
    rw [show AW [x] =1 from by simp [AW,h0]] at ih'
    rw [if_neg h0] at hx
    rw [show ((AW pre:Nat):Int)+1=((AW pre+1:Nat):Int) from by omega]
    exact ih' (by rw [List.append_assoc]; exact hx) (by omega)
 unfold F7
 have e:=l2 B [] [] fuel rfl rfl (by rfl) (by rw [Af]; omega)
 simp only [AW,List.length_nil,Int.natCast_zero] at e
 have e2:=l24 B [] [] fuel rfl (by simp) (by rw [Af]; omega)
 simp only [List.length_nil,Int.natCast_zero,List.nil_append] at e2
 rw [e,e2]
theorem XR:∀ (l m:List Agent) (i:Nat),kp i (l++m)=kp i l++kp (i+l.length) m
 | [],m,i=>by simp [kp]
 |a::l,m,i=>by
  rw [List.cons_append,kp,kp,XR l m (i+1),List.length_cons,show i+1+l.length=i+(l.length+1) from by omega]
  split
  ·rfl
  ·rfl
theorem N5:∀ (l:List Agent) (i:Nat),(kp i l).length =AW l
 | [],_=>rfl
 |a::l,i=>by
  rw [kp,AW]
  split
  ·rw [N5 l]; omega
  ·rw [List.length_cons,N5 l]; omega
theorem RG:∀ (l:List Agent) (i:Nat),(kp i l).Nodup
 | [],_=>by simp [kp]
 | a::l,i=>by
  rw [kp]
  split
  ·exact RG l (i+1)
  ·refine List.nodup_cons.2 ⟨fun h=>?_,RG l (i+1)⟩
   have:=cm l (i+1) _ h; omega
theorem fc (l:List Int) (k:Int):∀j,mpz j (l++[k])=mpz j l++[(k,((j+l.length:Nat):Int))] :=by
 induction l with
 |nil=>intro j; simp [mpz]
 |cons a l ih=>intro j; rw [List.cons_append,mpz,mpz,ih,List.length_cons,show j+1+l.length=j+(l.length+1) from by omega]; rfl
theorem Vp:∀ (l:List Int) (j:Nat) (k v:Int),k ∉ l→LK (mpz j l) k v=mpz j l++[(k,v)]
 | [],_,_,_,_=>rfl
 |a::l,j,k,v,h=>by
  rw [mpz,LK,if_neg (fun e=>h (by simp only at e; rw [e]; exact List.mem_cons_self)),Vp l (j+1) k v (fun e=>h (List.mem_cons_of_mem _ e))]; rfl
theorem YS:∀ (l:List Int) (j:Nat),(mpz j l).length =l.length
 | [],_=>rfl
 |a::l,j=>by rw [mpz,List.length_cons,YS l,List.length_cons]
section
variable {R:List Int} {X:Port→Prop} {A B:List Agent}
theorem cn (n:Net) (K:List Int) (hn:K.Nodup) (hl:K.length≤16000000):D6 n K=Ar fuel n K (mpz 0 K) [] 0:=by
 have hlB:K.length≤Big:=by unfold Big; omega
 have l2:∀ (post pre:List Int) (k:Nat),K=pre++post→post.length<k→Bp k n K (mpz 0 pre) (pre.length:Int)=Ar fuel n K (mpz 0 K) [] 0:=by
  intro post
  induction post with
  |nil=>
   intro pre k h hk
   obtain⟨k,rfl⟩:∃q,k=q+1:=⟨k - 1,by omega⟩
   have e:pre=K:=by rw [h,List.append_nil]
   rw [Bp,CY h,if_neg (by simp),e]
  | cons x post ih=>
   intro pre k h hk
   rw [List.length_cons] at hk
   obtain⟨k,rfl⟩:∃q,k=q+1:=⟨k - 1,by omega⟩
   have hx:x ∉ pre:=fun e=>by
    rw [h,List.nodup_append] at hn
    exact hn.2.2 x e x List.mem_cons_self rfl
   have hpl:pre.length<K.length:=by rw [h]; simp
   have e1:PW (mpz 0 pre) x (pre.length:Int)=some (mpz 0 (pre++[x])):=by
    unfold PW
    rw [if_pos (by rw [YS]; omega),Vp _ _ _ _ hx,fc,Nat.zero_add]
   rw [Bp,if_pos (CB h),BI h,AA,e1,AA,A8 h hlB]
   exact ih (pre++[x]) k (Ai h) (by omega)
 unfold D6
 exact l2 K [] fuel rfl (by rw [Af]; omega)
theorem m8 (hok:Ok (fun k=>k ∈ R) X A B) (hkn:∀ (k:Int) a,at? B k=some a→(a.kind=0↔k ∈ R)) (hB:B.length≤16000000) (hc:P9 B):D6 ⟨A⟩ (kp 0 B)=some ⟨Cr (posN B) B⟩:=by
 have hKl:(kp 0 B).length ≤16000000:=by have:=XQ B 0; omega
 rw [cn ⟨A⟩ (kp 0 B) (RG B 0) hKl]
 have hmp:∀q:Port,(∃b,at? B q.agent=some b∧b.kind≠0)→(I4 (mpz 0 (kp 0 B)) q.agent).getD 0=posN B q.agent:=fun q ⟨b,hb,hk⟩=>by
  obtain⟨h1,h2⟩:=BN hb
  have:=Tq B 0 0 q.agent.toNat b h2 hk
  rw [Nat.zero_add,Nat.zero_add,Int.toNat_of_nonneg h1] at this
  rw [this]; rfl
 have l24:∀ (post pre:List Agent) (acc:List Agent) (k:Nat),B=pre++post→acc.length≤pre.length→10*post.length<k→Ar k ⟨A⟩ (kp 0 B) (mpz 0 (kp 0 B)) acc ((AW pre:Nat):Int)=some ⟨acc++Cr (posN B) post⟩:=by
  intro post
  induction post with
  |nil=>
   intro pre acc k h ha hk
   obtain⟨k,rfl⟩:∃q,k=q+1:=⟨k - 1,by omega⟩
   have e:pre=B:=by rw [h,List.append_nil]
   rw [Ar,if_neg (by rw [N5,e]; simp),Cr,List.append_nil]
  | cons x post ih=>
   intro pre acc k h ha hk
   rw [List.length_cons] at hk
   have hpl:pre.length<B.length:=by rw [h]; simp
   have hlv:=Ju pre
   by_cases h0:x.kind=0
   ·have:=ih (pre++[x]) acc k (Ai h) (by simp; omega) (by omega)
    rw [IE,show AW [x] =0 from by simp [AW,h0],Nat.add_zero] at this
    rw [this,Cr,if_pos h0]
   ·obtain⟨⟨hp,hd⟩,hq⟩:=hc x (by rw [h]; simp) h0
    obtain⟨k,rfl⟩:∃q,k=(x.ports.length+1+q)+1:=⟨k - x.ports.length - 2,by omega⟩
    have hb:at? B (pre.length:Int)=some x:=BI h
    have hna:(pre.length:Int) ∉ R:=fun e=>h0 ((hkn _ _ hb).2 e)
    have hav:at? A (pre.length:Int)=some x:=(hok.ag _ hna).trans hb
    have hK:kp 0 B=kp 0 pre++(pre.length:Int)::kp (pre.length+1) post:=by
     rw [h,XR,Nat.zero_add,kp,if_neg h0]
    have hat:at? (kp 0 B) ((AW pre:Nat):Int)=some (pre.length:Int):=by
     rw [hK,← N5 pre 0]; exact KW
    have hlt:decide (((AW pre:Nat):Int)<(((kp 0 B).length :Nat):Int))=true:=by
     rw [hK,← N5 pre 0]; simp; omega
    rw [Ar,if_pos hlt,hat,AA,hav,AA,N4 x ⟨by unfold Big; omega,by unfold Big; omega⟩,AA]
    have:=Zu ⟨A⟩ (kp 0 B) (mpz 0 (kp 0 B)) (posN B) ((AW pre:Nat):Int) x acc x.ports [] k rfl (fun q hq'=>hmp q (hq q hq')) (by simp; unfold Big; omega)
    simp only [List.map_nil,List.nil_append,List.length_nil,Int.natCast_zero] at this
    rw [this,CO (by simp; unfold Big; omega),AA,w64 (by omega) (by omega),Cr,if_neg h0]
    have e:(⟨x.kind,x.level,x.value,x.data,x.ports.map (rnP (posN B))⟩:Agent)=rnA (posN B) x:=rfl
    have ih':=ih (pre++[x]) (acc++[rnA (posN B) x]) k (Ai h) (by simp; omega) (by omega)
    rw [IE,show AW [x] =1 from by simp [AW,h0]] at ih'
    rw [e,show ((AW pre:Nat):Int)+1=((AW pre+1:Nat):Int) from by omega,ih',List.append_assoc,List.singleton_append]
 have:=l24 B [] [] fuel rfl (by simp) (by rw [Af]; omega)
 simp only [AW,Int.natCast_zero,List.nil_append] at this
 exact this
theorem Zv (hok:Ok (fun k=>k ∈ R) X A B) (hkn:∀ (k:Int) a,at? B k=some a→(a.kind=0↔k ∈ R)) (hB:B.length≤16000000) (hc:P9 B) (bk:List Net):Bq ⟨⟨A⟩,bk,remM R⟩=some ⟨Cr (posN B) B⟩:=by
 have hlen:=hok.len
 have l2:∀ (post pre:List Agent) (acc:List Int) (k:Nat),B=pre++post→acc=kp 0 pre→post.length<k→BC k ⟨⟨A⟩,bk,remM R⟩ acc (pre.length:Int)=some ⟨Cr (posN B) B⟩:=by
  intro post
  induction post with
  |nil=>
   intro pre acc k h ha hk
   obtain⟨k,rfl⟩:∃q,k=q+1:=⟨k - 1,by omega⟩
   have e:pre=B:=by rw [h,List.append_nil]
   rw [BC,if_neg (by rw [e]; simp; omega),ha,e,m8 hok hkn hB hc,AA]
  | cons x post ih=>
   intro pre acc k h ha hk
   rw [List.length_cons] at hk
   obtain⟨k,rfl⟩:∃q,k=q+1:=⟨k - 1,by omega⟩
   have hpl:pre.length<B.length:=by rw [h]; simp
   have hb:at? B (pre.length:Int)=some x:=BI h
   have hal:=XQ pre 0
   have hiff:=hkn _ _ hb
   have hkp:kp 0 (pre++[x])=if x.kind=0 then kp 0 pre else kp 0 pre++[(pre.length:Int)] :=by
    rw [XR,Nat.zero_add,kp,kp]; split <;> simp
   rw [BC,if_pos (by simp; omega),Vk]
   by_cases h0:x.kind=0
   ·rw [if_neg (by simp [hiff.1 h0]),w64 (by omega) (by omega)]
    have:=ih (pre++[x]) acc k (Ai h) (by rw [hkp,if_pos h0,ha]) (by omega)
    rw [List.length_append,List.length_singleton] at this
    rw [show (pre.length:Int)+1=((List.length pre+1:Nat):Int) from by omega]
    exact this
   ·rw [if_pos (by simp; exact fun e=>h0 (hiff.2 e)),CO (by rw [ha]; simp; unfold Big; omega),AA,w64 (by omega) (by omega)]
    have:=ih (pre++[x]) (acc++[(pre.length:Int)]) k (Ai h) (by rw [hkp,if_neg h0,ha]) (by omega)
    rw [List.length_append,List.length_singleton] at this
    rw [show (pre.length:Int)+1=((List.length pre+1:Nat):Int) from by omega]
    exact this
 unfold Bq
 exact l2 B [] [] fuel rfl rfl (by rw [Af]; omega)
theorem Stt.kinds (h:Stt R A B):∀ (k:Int) a,at? B k=some a→(a.kind=0↔k ∈ R):=fun k a ha=>by
 constructor
 ·intro h0
  by_cases hr:k ∈ R
  ·exact hr
  ·exfalso
   have e:=(h.ok.ag k hr).trans ha
   exact(h.nb a (List.mem_of_getElem? (BN e).2)).2.2 h0
 ·intro hr
  have:=h.ok.hl k hr
  rw [ha] at this
  cases this
  rfl
theorem Stt.closed (h:Stt R A B):P9 B:=fun a ha h0=>by
 obtain⟨i,hi,rfl⟩:=List.getElem_of_mem ha
 have hb:at? B (i:Int)=some B[i] :=LU (by rw [List.getElem?_eq_getElem hi])
 have hr:((i:Nat):Int) ∉ R:=fun e=>h0 ((h.kinds _ _ hb).2 e)
 have hA:=(h.ok.ag _ hr).trans hb
 have hn:=h.nb _ (List.mem_of_getElem? (BN hA).2)
 refine⟨⟨hn.2.1,hn.1⟩,fun q hq=>?_⟩
 obtain⟨s,hs,e⟩:=List.getElem_of_mem hq
 have hg:Ab.get A ⟨(i:Int),(s:Int)⟩=some q:=Aw.2 ⟨_,hA,LU (by rw [List.getElem?_eq_getElem hs,e])⟩
 obtain⟨h1,-,h3⟩:=h.ok.m _ _ hg hr
 obtain⟨b,hb2,-⟩:=Aw.1 h3
 exact⟨b,(h.ok.ag _ h1).symm.trans hb2,(h.nb b (List.mem_of_getElem? (BN hb2).2)).2.2⟩
theorem Stt.result (h:Stt R A B) (hB:A.length≤16000000) (bk:List Net):Bq ⟨⟨A⟩,bk,remM R⟩=some ⟨Cr (posN B) B⟩∧F7 ⟨B⟩=some ⟨Cr (posN B) B⟩:=by
 have hl:=h.ok.len
 exact⟨Zv h.ok h.kinds (by omega) h.closed bk,fZ B (by omega) h.closed⟩
end
end Go.Proofs.YteckcjgpnegkjaaGreatDoor.Ab
