/-
  Plain lemmas for the laws about models: loops over lists, bounded arithmetic. No program is in sight.
-/
import Derived.Test.YtaedfiifhjlmlaaGreatAbY
import Derived.Test.YtaedfiifhjlmlaaGreatMod
namespace Go.Proofs.YtaedfiifhjlmlaaGreat.Ab
set_option linter.unusedVariables false
set_option linter.unusedSimpArgs false
open Go.RowKit
theorem w64 {n:Int} (h1: -9223372036854775808≤n) (h2:n≤9223372036854775807):IntKind.i64.wrap n=n:=wrap64 h1 h2
abbrev Big:Nat:=4294967296
theorem CY {n:Nat} (h:n≤4611686018427387904):n≤fuel:=by rw [BL]; exact h
section
variable {α:Type} {l pre post:List α} {x:α}
theorem Ai (h:l=pre++x::post):decide ((pre.length:Int)<(l.length:Int))=true:=by
 subst h; simp only [List.length_append,List.length_cons,decide_eq_true_eq]; omega
theorem HC (h:l=pre++[]):decide ((pre.length:Int)<(l.length:Int))=false:=by
 subst h; simp
theorem AW (h:l=pre++x::post):at? l (pre.length:Int)=some x:=by
 subst h
 unfold at?
 rw [if_pos (by omega)]
 simp
theorem AP (h:l=pre++x::post) (hl:l.length≤Big):IntKind.i64.wrap ((pre.length:Int)+1)=((List.length (pre++[x]):Nat):Int):=by
 subst h
 simp only [List.length_append,List.length_cons,List.length_nil,Big] at hl ⊢
 rw [w64 (by omega) (by omega)]
 omega
theorem GS (h:l=pre++x::post):l=(pre++[x])++post:=by rw [h]; simp
theorem EW {a b:List α} (h:a.length+b.length≤Big):IV a b=some (a++b):=by
 unfold IV; rw [if_pos (by unfold Big at h; omega)]
theorem VY {z:α} {n:Nat} (h:n≤Big):O2 (n:Int) z=some (List.replicate n z):=by
 unfold O2; rw [if_pos (by unfold Big at h; omega)]; simp
theorem bC {z:α} {k:Nat}:dH (pre++List.replicate (k+1) z) (pre.length:Int) x=(pre++[x])++List.replicate k z:=by
 unfold dH
 simp [List.replicate_succ]
theorem QR {z:α} {k:Nat}:Kx (pre++List.replicate (k+1) z) (pre.length:Int) x=some ((pre++[x])++List.replicate k z):=by
 unfold Kx; rw [bC]
theorem VZ {z:α} {k:Nat}:at? (pre++List.replicate (k+1) z) (pre.length:Int)=some z:=by
 unfold at?
 rw [if_pos (by omega)]
 simp
end
theorem AA {α β:Type} {a:α} {k:α→Option β}:Option.bind (some a) k=k a:=rfl
def szr (z left:Nat):Int:=if z≤left then ((left - z:Nat):Int) else -1
theorem Wd {z left:Nat}:decide (szr z left<0)=decide (left<z):=by
 unfold szr
 by_cases h:z≤left
 ·rw [if_pos h]; simp; omega
 ·rw [if_neg h]; simp; omega
theorem ZK {z left:Nat} (h:z≤left):szr z left=((left - z:Nat):Int):=if_pos h
theorem QS {z left:Nat} (h:left<z):szr z left= -1:=if_neg (by omega)
theorem NJ {n left:Nat} (h1:left≤1048576) (h2:n≤9223372036854775807):IntKind.i64.wrap ((left:Int) - (n:Int))=(left:Int) - n:=w64 (by omega) (by omega)
def szl {α:Type} (s:α→Nat):List α→Nat
 | [] =>0
 |x::l=>1+s x+szl s l
theorem AZ {α:Type} (s:α→Nat):∀l:List α,l.length≤szl s l
 | [] =>by simp
 |x::l=>by rw [szl,List.length_cons]; have:=AZ s l; omega
theorem Fr {α:Type} {s:α→Nat} {x:α}:∀ {l:List α},x ∈ l→s x<szl s l
 |y::l,h=>by
  rw [szl]
  rcases List.mem_cons.1 h with rfl|h
  ·omega
  ·have:=Fr (s:=s) h; omega
theorem Fs {k:Int→Option Int} {z left rest:Nat} {X:Option Int} (hX:X=some (szr z left)) (hk:z≤left→k ((left - z:Nat):Int)=some (szr rest (left - z))):
  (Option.bind X fun v=>if decide (v<0)=true then some (-1) else k v)=some (szr (z+rest) left):=by
 rw [hX,AA,Wd]
 by_cases h:left<z
 ·rw [if_pos (by simpa using h),QS (by omega)]
 ·rw [if_neg (by simpa using h),ZK (by omega),hk (by omega)]
  congr 1
  unfold szr
  by_cases h2:rest≤left - z
  ·rw [if_pos h2,if_pos (by omega)]; congr 1; omega
  ·rw [if_neg h2,if_neg (by omega)]
theorem We {k:Int→Option Int} {z left rest:Nat} (h1:left≤1048576) (h2:z≤9223372036854775807) (hk:z≤left→k ((left - z:Nat):Int)=some (szr rest (left - z))):
  (if decide (IntKind.i64.wrap ((left:Int) - (z:Int))<0)=true then some (-1) else k (IntKind.i64.wrap ((left:Int) - (z:Int))))=some (szr (z+rest) left):=by
 rw [NJ h1 h2]
 by_cases h:left<z
 ·rw [if_pos (by simp; omega),QS (by omega)]
 ·rw [if_neg (by simp; omega),show ((left:Int) - (z:Int))=((left - z:Nat):Int) from by omega,hk (by omega)]
  congr 1
  unfold szr
  by_cases h2:rest≤left - z
  ·rw [if_pos h2,if_pos (by omega)]; congr 1; omega
  ·rw [if_neg h2,if_neg (by omega)]
theorem K3 {Y:Option Int} {z left rest:Nat} (h1:left≤1048576) (h2:z≤9223372036854775807) (hk:z≤left→IntKind.i64.wrap ((left:Int) - (z:Int))=((left - z:Nat):Int)→Y=some (szr rest (left - z))):
  (if decide (IntKind.i64.wrap ((left:Int) - (z:Int))<0)=true then some (-1) else Y)=some (szr (z+rest) left):=by
 by_cases h:z≤left
 ·have e:IntKind.i64.wrap ((left:Int) - (z:Int))=((left - z:Nat):Int):=by rw [NJ h1 h2]; omega
  rw [e,if_neg (by simp),hk h e]
  congr 1
  unfold szr
  by_cases h2:rest≤left - z
  ·rw [if_pos h2,if_pos (by omega)]; congr 1; omega
  ·rw [if_neg h2,if_neg (by omega)]
 ·rw [NJ h1 h2,if_pos (by simp; omega),QS (by omega)]
theorem OD {left:Nat}:some ((left:Nat):Int)=some (szr 0 left):=by simp [szr]
theorem gSz {α:Type} (L:Nat→Int→Int→Option Int) (g:α→Int→Option Int) (s:α→Nat) (l:List α) (hL:∀n p i,L (n+1) p i=(if (decide (i<(l.length:Int)))=true then ((at? l i).bind fun x=>((g x p).bind fun v=>(if (decide (v<0))=true then (some (-1)) else (L n v (IntKind.i64.wrap (i+1)))))) else (some p)))
  (left:Nat) (h1:left≤1048576) (hg:∀x ∈ l,∀k:Nat,k≤1048576→g x k=some (szr (s x) k)) (hl:l.length≤9223372036854775807):
  (if decide (IntKind.i64.wrap ((left:Int) - (l.length:Int))<0)=true then some (-1) else L fuel (IntKind.i64.wrap ((left:Int) - (l.length:Int))) 0)=some (szr (szl s l) left):=by
 have hsz:=AZ s l
 have:=We (k:=fun v=>L fuel v 0) (rest:=szl s l - l.length) h1 hl fun h=>?_
 ·rw [show l.length+(szl s l - l.length)=szl s l from by omega] at this
  exact this
 ·have loop:∀ (post pre:List α) (n l3:Nat),l=pre++post→l3≤left→post.length<n→L n l3 (pre.length:Int)=some (szr (szl s post - post.length) l3):=by
   intro post
   induction post with
   |nil=>
    intro pre n l3 h _ hn
    obtain⟨n,rfl⟩:∃m,n=m+1:=⟨n - 1,by omega⟩
    rw [hL,HC h]
    simp [szl,szr]
   | cons x post ihp=>
    intro pre n l3 hh h4 hn
    obtain⟨n,rfl⟩:∃m,n=m+1:=⟨n - 1,by omega⟩
    have hx:x ∈ l:=by rw [hh]; simp
    have hp:=AZ s post
    rw [hL,if_pos (Ai hh),AW hh,AA]
    have e:=Fs (k:=fun v=>L n v (IntKind.i64.wrap ((pre.length:Int)+1))) (rest:=szl s post - post.length) (hg x hx l3 (by omega)) fun h5=>by
     rw [AP hh (by unfold Big; omega)]
     exact ihp (pre++[x]) n (l3 - s x) (GS hh) (by omega) (by simp at hn; omega)
    rw [szl,List.length_cons,show 1+s x+szl s post - (post.length+1)=s x+(szl s post - post.length) from by omega]
    exact e
  exact loop l [] fuel (left - l.length) (by simp) (by omega) (by rw [BL]; omega)
theorem gTo {α:Type} (L:Nat→List α→Int→Option (List α)) (g:α→Option α) (z:α) (l:List α) (hL:∀n acc i,L (n+1) acc i=(if (decide (i<(l.length:Int)))=true then ((at? l i).bind fun x=>((g x).bind fun y=>((at? acc i).bind fun _=>((Kx acc i y).bind fun z=>(L n z (IntKind.i64.wrap (i+1))))))) else (some acc)))
  (hl:l.length≤Big) (hg:∀x ∈ l,g x=some x):((O2 (l.length:Int) z).bind fun acc=>L fuel acc 0)=some l:=by
 have loop:∀ (post pre:List α) (n:Nat),l=pre++post→post.length<n→L n (pre++List.replicate post.length z) (pre.length:Int)=some l:=by
  intro post
  induction post with
  |nil=>
   intro pre n h hn
   obtain⟨n,rfl⟩:∃m,n=m+1:=⟨n - 1,by omega⟩
   rw [hL,HC h]; simp [h]
  |cons x post ih=>
   intro pre n h hn
   obtain⟨n,rfl⟩:∃m,n=m+1:=⟨n - 1,by omega⟩
   rw [hL,if_pos (Ai h),AW h,AA,hg x (by rw [h]; simp),AA,List.length_cons,VZ,AA,QR,AA,AP h hl]
   exact ih (pre++[x]) n (GS h) (by simp at hn; omega)
 rw [VY hl,AA]
 exact loop l [] fuel (by simp) (by rw [BL]; unfold Big at hl; omega)
def bq (o:Option Bool) (p:Prop):Prop:=∃b,o=some b∧(b=true↔p)
theorem bq.mk {b:Bool} {p:Prop} (h:b=true↔p):bq (some b) p:=⟨b,rfl,h⟩
def NK:List ByteArray→Nat
 | [] =>0
 |s::l=>s.size+NK l
theorem BY (s:ByteArray):sameStr s s=true:=by unfold sameStr; simp
theorem CW {a b:ByteArray}:sameStr a b=true↔a=b:=by
 unfold sameStr
 rw [beq_iff_eq,ByteArray.toList_eq,ByteArray.toList_eq]
 exact⟨fun h=>ByteArray.ext (Array.toList_inj.mp h),fun h=>by rw [h]⟩
theorem gS {α:Type} (L:Nat→Int→Int→Option Int) (G:Nat→α→Int→Option Int) (s:α→Nat) (l:List α)
  (hL:∀n p i,L (n+1) p i=(if (decide (i<(l.length:Int)))=true then ((at? l i).bind fun x=>((G n x p).bind fun v=>(if (decide (v<0))=true then (some (-1)) else (L n v (IntKind.i64.wrap (i+1)))))) else (some p)))
  (left n:Nat) (h1:left≤1048576) (hg:∀x ∈ l,∀k m:Nat,k≤1048576→4*k+4≤m→G m x k=some (szr (s x) k)) (hl:l.length≤9223372036854775807) (hn:4*left+2≤n):
  (if decide (IntKind.i64.wrap ((left:Int) - (l.length:Int))<0)=true then some (-1) else L n (IntKind.i64.wrap ((left:Int) - (l.length:Int))) 0)=some (szr (szl s l) left):=by
 have hsz:=AZ s l
 have:=We (k:=fun v=>L n v 0) (rest:=szl s l - l.length) h1 hl fun h=>?_
 ·rw [show l.length+(szl s l - l.length)=szl s l from by omega] at this
  exact this
 ·have loop:∀ (post pre:List α) (n l3:Nat),l=pre++post→l3+l.length≤left→1≤n→(post.length≠0→4*l3+4+post.length+1≤n)→L n l3 (pre.length:Int)=some (szr (szl s post - post.length) l3):=by
   intro post
   induction post with
   |nil=>
    intro pre n l3 h _ hn _
    obtain⟨n,rfl⟩:∃m,n=m+1:=⟨n - 1,by omega⟩
    rw [hL,HC h]
    simp [szl,szr]
   | cons x post ihp=>
    intro pre n l3 hh h4 hn1 hn
    rw [List.length_cons] at hn
    have hn:=hn (by omega)
    obtain⟨n,rfl⟩:∃m,n=m+1:=⟨n - 1,by omega⟩
    have hx:x ∈ l:=by rw [hh]; simp
    have hp:=AZ s post
    rw [hL,if_pos (Ai hh),AW hh,AA]
    have e:=Fs (k:=fun v=>L n v (IntKind.i64.wrap ((pre.length:Int)+1))) (rest:=szl s post - post.length) (hg x hx l3 n (by omega) (by omega)) fun h5=>by
     rw [AP hh (by unfold Big; omega)]
     exact ihp (pre++[x]) n (l3 - s x) (GS hh) (by omega) (by omega) (by omega)
    rw [szl,List.length_cons,show 1+s x+szl s post - (post.length+1)=s x+(szl s post - post.length) from by omega]
    exact e
  exact loop l [] n (left - l.length) (by simp) (by omega) (by omega) (by omega)
theorem gT {α:Type} (L:Nat→List α→Int→Option (List α)) (G:Nat→α→Option α) (z:α) (s:α→Nat) (l:List α) (hL:∀n acc i,L (n+1) acc i=(if (decide (i<(l.length:Int)))=true then ((at? l i).bind fun x=>((G n x).bind fun y=>((at? acc i).bind fun _=>((Kx acc i y).bind fun z=>(L n z (IntKind.i64.wrap (i+1))))))) else (some acc)))
  (hl:szl s l≤Big) (hg:∀x ∈ l,s x≤Big→∀n,4*s x+4≤n→G n x=some x) (n:Nat) (hn:4*szl s l+2≤n):((O2 (l.length:Int) z).bind fun acc=>L n acc 0)=some l:=by
 have hlen:=AZ s l
 have loop:∀ (post pre:List α) (n:Nat),l=pre++post→4*szl s post+1≤n→L n (pre++List.replicate post.length z) (pre.length:Int)=some l:=by
  intro post
  induction post with
  |nil=>
   intro pre n h hn
   obtain⟨n,rfl⟩:∃m,n=m+1:=⟨n - 1,by omega⟩
   rw [hL,HC h]; simp [h]
  |cons x post ih=>
   intro pre n h hn
   rw [szl] at hn
   obtain⟨n,rfl⟩:∃m,n=m+1:=⟨n - 1,by omega⟩
   have hx:x ∈ l:=by rw [h]; simp
   rw [hL,if_pos (Ai h),AW h,AA,hg x hx (by have:=Fr (s:=s) hx; omega) n (by omega),AA,List.length_cons,VZ,AA,QR,AA,AP h (by omega)]
   exact ih (pre++[x]) n (GS h) (by omega)
 rw [VY (by omega),AA]
 exact loop l [] n (by simp) (by omega)
theorem gU {α:Type} (L:Nat→Int→Option Bool) (G:Nat→α→α→Option Bool) (s:α→Nat) (l:List α) (hL:∀n i,L (n+1) i=(if (decide (i<(l.length:Int)))=true then ((at? l i).bind fun x=>((at? l i).bind fun y=>((G n x y).bind fun v=>(if (!v)=true then (some false) else (L n (IntKind.i64.wrap (i+1))))))) else (some true)))
  (hl:szl s l≤Big) (hg:∀x ∈ l,s x≤Big→∀n,4*s x+4≤n→G n x x=some true) (n:Nat) (hn:4*szl s l+2≤n):(if (!decide ((l.length:Int)=(l.length:Int)))=true then some false else L n 0)=some true:=by
 have hlen:=AZ s l
 have loop:∀ (post pre:List α) (n:Nat),l=pre++post→4*szl s post+1≤n→L n (pre.length:Int)=some true:=by
  intro post
  induction post with
  |nil=>
   intro pre n h hn
   obtain⟨n,rfl⟩:∃m,n=m+1:=⟨n - 1,by omega⟩
   rw [hL,HC h]; rfl
  |cons x post ih=>
   intro pre n h hn
   rw [szl] at hn
   obtain⟨n,rfl⟩:∃m,n=m+1:=⟨n - 1,by omega⟩
   have hx:x ∈ l:=by rw [h]; simp
   rw [hL,if_pos (Ai h),AW h,AA,AA,hg x hx (by have:=Fr (s:=s) hx; omega) n (by omega),AA,if_neg (by simp),AP h (by omega)]
   exact ih (pre++[x]) n (GS h) (by omega)
 rw [if_neg (by simp)]
 exact loop l [] n (by simp) (by omega)
theorem dL {α:Type} (L:Nat→Int→Option Bool) (g:α→α→Option Bool) (l:List α) (hL:∀n i,L (n+1) i=(if (decide (i<(l.length:Int)))=true then ((at? l i).bind fun x=>((at? l i).bind fun y=>((g x y).bind fun v=>(if (!v)=true then (some false) else (L n (IntKind.i64.wrap (i+1))))))) else (some true)))
  (hl:l.length≤Big) (hg:∀x ∈ l,g x x=some true):(if (!decide ((l.length:Int)=(l.length:Int)))=true then some false else L fuel 0)=some true:=by
 have loop:∀ (post pre:List α) (n:Nat),l=pre++post→post.length<n→L n (pre.length:Int)=some true:=by
  intro post
  induction post with
  |nil=>
   intro pre n h hn
   obtain⟨n,rfl⟩:∃m,n=m+1:=⟨n - 1,by omega⟩
   rw [hL,HC h]; rfl
  |cons x post ih=>
   intro pre n h hn
   rw [List.length_cons] at hn
   obtain⟨n,rfl⟩:∃m,n=m+1:=⟨n - 1,by omega⟩
   have hx:x ∈ l:=by rw [h]; simp
   rw [hL,if_pos (Ai h),AW h,AA,AA,hg x hx,AA,if_neg (by simp),AP h hl]
   exact ih (pre++[x]) n (GS h) (by omega)
 rw [if_neg (by simp)]
 exact loop l [] fuel (by simp) (by rw [BL]; unfold Big at hl; omega)
theorem Ik {b:Bool} {X:Option Bool} (h:b=true) (k:X=some true):(if (!b)=true then some false else X)=some true:=by subst h; exact k
theorem Fk {o X:Option Bool} (h:o=some true) (k:X=some true):(Option.bind o fun b=>if (!b)=true then some false else X)=some true:=by subst h; exact k
theorem dM {k:Int→Option Bool} {z left:Nat} {X:Option Int} (hX:X=some (szr z left)) (hk:z≤left→k ((left - z:Nat):Int)=some true):
  (Option.bind X fun v=>if decide (v<0)=true then some true else k v)=some true:=by
 rw [hX,AA,Wd]
 by_cases h:left<z
 ·rw [if_pos (by simpa using h)]
 ·rw [if_neg (by simpa using h),ZK (by omega),hk (by omega)]
end Go.Proofs.YtaedfiifhjlmlaaGreat.Ab
