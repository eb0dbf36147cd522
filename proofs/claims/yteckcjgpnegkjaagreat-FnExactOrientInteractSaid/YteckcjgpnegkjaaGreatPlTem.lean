/-
  Nets that are rewritten: the pairs of a net. No program is in sight.
-/
import Derived.Test.YteckcjgpnegkjaaGreatPlRp
namespace Go.Proofs.YteckcjgpnegkjaaGreat.Ab
set_option linter.unusedVariables false
set_option maxHeartbeats 1000000
set_option linter.unusedSimpArgs false
open Go.RowKit
def pr1 (i:Nat) (a:Agent):List Pair:=match at? a.ports 0 with
 |some v=>if v.slot=0∧(i:Int)<v.agent then [⟨(i:Int),v.agent⟩] else []
 |none=>[]
def prs:Nat→List Agent→List Pair
 |_,[] =>[]
 |i,a::l=>pr1 i a++prs (i+1) l
theorem iG (i:Nat) (a:Agent):(pr1 i a).length ≤1:=by
 grind [pr1]
theorem Zj:∀ (l:List Agent) (i:Nat),(prs i l).length ≤l.length
 | [],_=>by simp [prs]
 |a::l,i=>by
  rw [prs,List.length_append,List.length_cons]
  have:=Zj l (i+1)
  grind [iG]
theorem bS {N} (n:Net) (h:VnN N n.agents) (hN:N≤5000000):IC n=some (prs 1 (n.agents.drop 1)):=by
 have hl:n.agents.length≤Big:=by have:=h.len; grind
 have loop:∀ (post pre:List Agent) (acc:List Pair) (k:Nat),n.agents=pre++post→1≤pre.length→acc.length≤pre.length→2*post.length<k→Bs k n acc (pre.length:Int)=some (acc++prs pre.length post):=by
  intro post
  induction post with
  |nil=>
   intro pre acc k he h1 ha hk
   obtain⟨k,rfl⟩:∃q,k=q+1:=⟨k - 1,by omega⟩
   rw [Bs,DL he,if_neg (by simp),prs,List.append_nil]
  |cons x post ih=>
   intro pre acc k he h1 ha hk
   rw [List.length_cons] at hk
   obtain⟨k,rfl⟩:∃q,k=q+1+1:=⟨k - 2,by omega⟩
   obtain⟨gx,gk⟩:=h.ag _ x (BH he)
   have hp:=A9 gx
   have hk1:x.kind≠1:=fun e=>by omega
   obtain⟨v,hv,-⟩:=FF (l:=x.ports) (i:=0) (by omega)
   have hnl:pre.length<n.agents.length:=by rw [he]; simp
   have e1:pr1 pre.length x=if v.slot=0∧(pre.length:Int)<v.agent then [⟨(pre.length:Int),v.agent⟩] else [] :=by unfold pr1; rw [hv]
   have ih':=fun acc' ha'=>ih (pre++[x]) acc' k (CU he) (by simp) ha' (by omega)
   rw [List.length_append,List.length_singleton] at ih'
   have hw:=Ay he hl
   rw [List.length_append,List.length_singleton] at hw
   rw [Bs,if_pos (CP he),BH he,AA,hv,AA,prs,e1]
   grind [DC,CQ]
 have hlen:=h.len
 obtain⟨t0,tl,htl⟩:∃t0 tl,n.agents=t0::tl:=by
  cases hh:n.agents with
  |nil=>rw [hh] at hlen; grind
  |cons t0 tl=>grind
 have he0:n.agents=[] ++t0::tl:=by rw [htl]; rfl
 obtain⟨gx,gk⟩:=h.ag 0 t0 (BH he0)
 have hp:=A9 gx
 have hk1:t0.kind=1:=gk.2 rfl
 obtain⟨v,hv,-⟩:=FF (l:=t0.ports) (i:=0) (by omega)
 have hd:n.agents.drop 1=tl:=by rw [htl]; rfl
 unfold IC
 obtain⟨k,hk⟩:∃q,fuel=q+1+1:=⟨fuel - 2,by rw [BG]⟩
 have l1:=loop tl [t0] [] k htl (by simp) (by simp) (by rw [BG] at hk; rw [htl] at hlen; grind)
 rw [List.length_singleton,List.nil_append,Int.natCast_one] at l1
 have h0:at? n.agents 0=some t0:=by grind [BH]
 rw [hk,Bs,if_pos (by rw [htl]; simp),h0,AA,hv,AA,hd]
 grind [DC,w64]
theorem bT {N} (n:Net) (h:VnN N n.agents) (hN:N≤5000000):JV n=some (prs 1 (n.agents.drop 1)):=by
 have hl:n.agents.length≤Big:=by have:=h.len; grind
 have loop:∀ (post pre:List Agent) (acc:List Pair) (k:Nat),n.agents=pre++post→acc.length≤pre.length→2*post.length<k→CE k n acc (pre.length:Int)=some (acc++prs pre.length post):=by
  intro post
  induction post with
  |nil=>
   intro pre acc k he ha hk
   obtain⟨k,rfl⟩:∃q,k=q+1:=⟨k - 1,by omega⟩
   rw [CE,DL he,if_neg (by simp),prs,List.append_nil]
  |cons x post ih=>
   intro pre acc k he ha hk
   rw [List.length_cons] at hk
   obtain⟨k,rfl⟩:∃q,k=q+1+1:=⟨k - 2,by omega⟩
   obtain⟨gx,gk⟩:=h.ag _ x (BH he)
   have hp:=A9 gx
   have hk0:x.kind≠0:=by have:=PN gx; omega
   obtain⟨v,hv,-⟩:=FF (l:=x.ports) (i:=0) (by omega)
   have hnl:pre.length<n.agents.length:=by rw [he]; simp
   have e1:pr1 pre.length x=if v.slot=0∧(pre.length:Int)<v.agent then [⟨(pre.length:Int),v.agent⟩] else [] :=by unfold pr1; rw [hv]
   have ih':=fun acc' ha'=>ih (pre++[x]) acc' k (CU he) ha' (by omega)
   rw [List.length_append,List.length_singleton] at ih'
   have hw:=Ay he hl
   rw [List.length_append,List.length_singleton] at hw
   rw [CE,if_pos (CP he),BH he,AA,if_neg (by grind),AA,hv,AA,prs,e1]
   grind [FS,CQ]
 have hlen:=h.len
 obtain⟨t0,tl,htl⟩:∃t0 tl,n.agents=t0::tl:=by
  cases hh:n.agents with
  |nil=>rw [hh] at hlen; grind
  |cons t0 tl=>grind
 have hd:n.agents.drop 1=tl:=by rw [htl]; rfl
 unfold JV
 have l1:=loop tl [t0] [] fuel htl (by simp) (by rw [BG]; rw [htl] at hlen; grind)
 rw [List.length_singleton,List.nil_append,Int.natCast_one] at l1
 rw [l1,hd]
theorem Zk:∀ (l:List Agent) (i:Nat) (p:Pair),p ∈ prs i l→∃ (j:Nat) (a:Agent) (v:Port),l[j]? =some a∧at? a.ports 0=some v∧v.slot=0∧p=⟨((i+j:Nat):Int),v.agent⟩∧p.a<v.agent
 | [],_,p,h=>by simp [prs] at h
 | a ::l,i,p,h=>by
  rw [prs] at h
  rcases List.mem_append.1 h with h|h
  ·unfold pr1 at h
   split at h
   ·rename_i v hv
    split at h
    ·rename_i hc
     rw [List.mem_singleton] at h
     subst h
     exact⟨0,a,v,rfl,hv,hc.1,rfl,hc.2⟩
    grind
   grind
  ·obtain⟨j,b,v,h1,h2,h3,h4,h5⟩:=Zk l (i+1) p h
   exact⟨j+1,b,v,h1,h2,h3,by rw [h4]; grind,h5⟩
theorem kL {N} {l} (h:VnN N l) {p} (hp:p ∈ prs 1 (l.drop 1)):∃a b,Pr (fun k=>k ∈ ([] :List Int)) l p.a p.b a b∧agB a=true∧agB b=true∧a.kind≠1∧b.kind≠1:=by
 obtain⟨j,a,v,h1,h2,h3,h4,h5⟩:=Zk _ _ _ hp
 rw [List.getElem?_drop] at h1
 have ha:at? l p.a=some a:=by rw [h4]; exact Ie h1
 have hg:Ab.get l ⟨p.a,0⟩=some ⟨p.b,0⟩:=AZ.2 ⟨a,ha,by rw [h2,h4]; exact congrArg some (Ce rfl h3)⟩
 obtain⟨-,-,g3⟩:=h.m _ _ hg not_false
 obtain⟨b,hb,-⟩:=AZ.1 g3
 have e1:p.a=((1+j:Nat):Int):=by rw [h4]
 have e2:p.b=v.agent:=by rw [h4]
 refine⟨a,b,⟨ha,hb,hg,by simp,by simp⟩,(h.ag _ _ ha).1,(h.ag _ _ hb).1,fun e=>?_,fun e=>?_⟩
 ·have:=(h.ag _ _ ha).2.1 e; omega
 ·have:=(h.ag _ _ hb).2.1 e; grind
theorem bU (n:Net) (hs:n.Small) (i:Int):∃r,MY n i=some r∧Kj n i=some r∧(r.2 =0→n.valid=true∧r.1 ∈ prs 1 (n.agents.drop 1)):=by
 unfold MY Kj
 rw [U7 n hs,U4 n hs,AA,AA]
 cases hv:n.valid with
 |false=>simp_all
 | true=>
  have hV:=Net.valid_vn hv
  have hlen:=hV.len
  have hpl:=Zj (n.agents.drop 1) 1
  rw [List.length_drop] at hpl
  rw [if_neg (by simp),if_neg (by simp),bS n hV (by omega),bT n hV (by omega)]
  generalize prs 1 (n.agents.drop 1)=P at*
  rw [ AA,AA,w64 (by omega) (by omega),Fw,AA]
  by_cases h0:i<0
  ·rw [if_pos (by grind),if_pos (by grind)]
   grind [Ff]
  ·rw [if_neg (by grind)]
   by_cases h1:((P.length:Nat):Int)≤i
   ·rw [if_pos (by grind)]
    refine⟨_,?_,rfl,fun h=>by omega⟩
    unfold Ff
    rw [if_pos (by grind)]
   ·obtain⟨p,hp,hm⟩:=FF (l:=P) (i:=i) (by omega)
    rw [if_neg (by grind)]
    refine⟨(p,0),?_,by rw [hp,AA],fun _=>⟨rfl,hm⟩⟩
    unfold Ff
    rw [if_neg (by grind),hp,AA]
theorem iH {α:Type} {l:List α} {p:α→Bool}:l.any (fun x=> !p x)= !l.all p:=by
 grind
def OU (l:List Net):Bool:=decide (l.length≤24)&&l.all Net.valid
theorem XV (l:List Net) (f:Net→Option Bool) (p:Net→Bool) (hl:l.length≤Big) (hf:∀x ∈ l,f x=some (p x)):CJ l f=some (l.any p):=by
 obtain⟨i,h1,h2,-⟩:=LU BF (fun n l i f=>by rw [BF]) l f p hl hf
 grind [CJ,D1]
theorem bV (l:List Net) (hl:l.length≤Big) (hs:∀n ∈ l,n.Small):Ee l=some (OU l):=by
 unfold Ee OU
 rw [XV l _ (fun n=> !n.valid) hl (fun n hn=>by unfold FD; rw [U7 n (hs n hn),AA]),iH,AA,Bool.not_not]
 have e:decide ((l.length:Int)≤24)=decide (l.length≤24):=by grind
 rw [e]
 cases decide (l.length≤24) <;> simp
theorem bW (l:List Net) (hl:l.length≤Big) (hs:∀n ∈ l,n.Small):Km l=some (OU l):=by
 unfold Km OU
 rw [n9 (fun n i=>FE n l i) J3 Net.valid l (fun n i=>by rw [FE]) hl fun n hn=>U4 n (hs n hn)]
 grind
theorem bX {l} (h:OU l=true):∀T ∈ l,Vn T.agents:=fun T hT=>by
 grind [OU,Net.valid_vn]
end Go.Proofs.YteckcjgpnegkjaaGreat.Ab
