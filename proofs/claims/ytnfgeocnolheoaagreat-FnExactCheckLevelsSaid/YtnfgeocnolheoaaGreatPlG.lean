/-
  Plain lemmas for the laws about models: loops over lists, bounded arithmetic. No program is in sight.
-/
import Derived.Test.YtnfgeocnolheoaaGreatAbY
import Derived.Test.YtnfgeocnolheoaaGreatMod
namespace Go.Proofs.YtnfgeocnolheoaaGreat.Ab
set_option linter.unusedVariables false
set_option maxHeartbeats 1000000
set_option linter.unusedSimpArgs false
open Go.RowKit
theorem w64 {n:Int} (h1: -9223372036854775808≤n) (h2:n≤9223372036854775807):IntKind.i64.wrap n=n:=wrap64 h1 h2
abbrev Big:Nat:=4294967296
theorem A3 {n:Nat} (h:n≤4611686018427387904):n≤fuel:=by rw [Bg]; exact h
section
variable {α:Type} {l pre post:List α} {x:α}
theorem Ah (h:l=pre++x::post):decide ((pre.length:Int)<(l.length:Int))=true:=by
 grind
theorem Hb (h:l=pre++[]):decide ((pre.length:Int)<(l.length:Int))=false:=by
 grind
theorem AY (h:l=pre++x::post):at? l (pre.length:Int)=some x:=by
 grind [at?]
theorem AP (h:l=pre++x::post) (hl:l.length≤Big):IntKind.i64.wrap ((pre.length:Int)+1)=((List.length (pre++[x]):Nat):Int):=by
 grind [w64]
theorem dM (h:l=pre++x::post):l=(pre++[x])++post:=by rw [h]; simp
theorem DC {a b:List α} (h:a.length+b.length≤Big):IN a b=some (a++b):=by
 unfold IN; rw [if_pos (by grind)]
theorem YC {z:α} {n:Nat} (h:n≤Big):Q6 (n:Int) z=some (List.replicate n z):=by
 grind [Q6]
theorem gH {z:α} {k:Nat}:gF (pre++List.replicate (k+1) z) (pre.length:Int) x=(pre++[x])++List.replicate k z:=by
 simp [gF,List.replicate_succ]
theorem Sc {z:α} {k:Nat}:CZ (pre++List.replicate (k+1) z) (pre.length:Int) x=some ((pre++[x])++List.replicate k z):=by
 unfold CZ; rw [gH]
theorem YD {z:α} {k:Nat}:at? (pre++List.replicate (k+1) z) (pre.length:Int)=some z:=by
 grind [at?]
end
theorem AA {α β:Type} {a:α} {k:α→Option β}:Option.bind (some a) k=k a:=rfl
def szr (z left:Nat):Int:=if z≤left then ((left - z:Nat):Int) else -1
theorem ZF {z left:Nat}:decide (szr z left<0)=decide (left<z):=by
 unfold szr
 by_cases h:z≤left
 ·rw [if_pos h]; simp; omega
 ·rw [if_neg h]; simp; omega
theorem jN {z left:Nat} (h:z≤left):szr z left=((left - z:Nat):Int):=if_pos h
theorem dN {z left:Nat} (h:left<z):szr z left= -1:=if_neg (by omega)
theorem RY {n left:Nat} (h1:left≤1048576) (h2:n≤9223372036854775807):IntKind.i64.wrap ((left:Int) - (n:Int))=(left:Int) - n:=w64 (by omega) (by omega)
def szl {α:Type} (s:α→Nat):List α→Nat
 | [] =>0
 |x::l=>1+s x+szl s l
theorem AZ {α:Type} (s:α→Nat):∀l:List α,l.length≤szl s l
 | [] =>by simp
 |x::l=>by rw [szl,List.length_cons]; have:=AZ s l; omega
theorem Gv {α:Type} {s:α→Nat} {x:α}:∀ {l:List α},x ∈ l→s x<szl s l
 |y::l,h=>by
  rw [szl]
  rcases List.mem_cons.1 h with rfl|h
  ·omega
  ·have:=Gv (s:=s) h; omega
theorem Gw {k:Int→Option Int} {z left rest:Nat} {X:Option Int} (hX:X=some (szr z left)) (hk:z≤left→k ((left - z:Nat):Int)=some (szr rest (left - z))):
  (Option.bind X fun v=>if decide (v<0)=true then some (-1) else k v)=some (szr (z+rest) left):=by
 rw [hX,AA,ZF]
 grind [szr]
theorem ZG {k:Int→Option Int} {z left rest:Nat} (h1:left≤1048576) (h2:z≤9223372036854775807) (hk:z≤left→k ((left - z:Nat):Int)=some (szr rest (left - z))):
  (if decide (IntKind.i64.wrap ((left:Int) - (z:Int))<0)=true then some (-1) else k (IntKind.i64.wrap ((left:Int) - (z:Int))))=some (szr (z+rest) left):=by
 rw [RY h1 h2]
 grind [szr]
theorem Mb {Y:Option Int} {z left rest:Nat} (h1:left≤1048576) (h2:z≤9223372036854775807) (hk:z≤left→IntKind.i64.wrap ((left:Int) - (z:Int))=((left - z:Nat):Int)→Y=some (szr rest (left - z))):
  (if decide (IntKind.i64.wrap ((left:Int) - (z:Int))<0)=true then some (-1) else Y)=some (szr (z+rest) left):=by
 grind [RY,szr]
theorem P9 {left:Nat}:some ((left:Nat):Int)=some (szr 0 left):=by rfl
theorem gSz {α:Type} (L:Nat→Int→Int→Option Int) (g:α→Int→Option Int) (s:α→Nat) (l:List α) (hL:∀n p i,L (n+1) p i=(if (decide (i<(l.length:Int)))=true then ((at? l i).bind fun x=>((g x p).bind fun v=>(if (decide (v<0))=true then (some (-1)) else (L n v (IntKind.i64.wrap (i+1)))))) else (some p)))
  (left:Nat) (h1:left≤1048576) (hg:∀x ∈ l,∀k:Nat,k≤1048576→g x k=some (szr (s x) k)) (hl:l.length≤9223372036854775807):
  (if decide (IntKind.i64.wrap ((left:Int) - (l.length:Int))<0)=true then some (-1) else L fuel (IntKind.i64.wrap ((left:Int) - (l.length:Int))) 0)=some (szr (szl s l) left):=by
 have hsz:=AZ s l
 have:=ZG (k:=fun v=>L fuel v 0) (rest:=szl s l - l.length) h1 hl fun h=>?_
 ·rw [show l.length+(szl s l - l.length)=szl s l from by omega] at this
  omega
 ·have loop:∀ (post pre:List α) (n l3:Nat),l=pre++post→l3≤left→post.length<n→L n l3 (pre.length:Int)=some (szr (szl s post - post.length) l3):=by
   intro post
   induction post with
   |nil=>
    intro pre n l3 h _ hn
    obtain⟨n,rfl⟩:∃m,n=m+1:=⟨n - 1,by omega⟩
    rw [hL,Hb h]
    rfl
   | cons x post ihp=>
    intro pre n l3 hh h4 hn
    obtain⟨n,rfl⟩:∃m,n=m+1:=⟨n - 1,by omega⟩
    have hx:x ∈ l:=by rw [hh]; simp
    have hp:=AZ s post
    rw [hL,if_pos (Ah hh),AY hh,AA]
    have e:=Gw (k:=fun v=>L n v (IntKind.i64.wrap ((pre.length:Int)+1))) (rest:=szl s post - post.length) (hg x hx l3 (by omega)) fun h5=>by
     rw [AP hh (by grind)]
     grind
    rw [szl,List.length_cons,show 1+s x+szl s post - (post.length+1)=s x+(szl s post - post.length) from by omega]
    exact e
  exact loop l [] fuel (left - l.length) (by simp) (by omega) (by rw [Bg]; omega)
theorem gTo {α:Type} (L:Nat→List α→Int→Option (List α)) (g:α→Option α) (z:α) (l:List α) (hL:∀n acc i,L (n+1) acc i=(if (decide (i<(l.length:Int)))=true then ((at? l i).bind fun x=>((g x).bind fun y=>((at? acc i).bind fun _=>((CZ acc i y).bind fun z=>(L n z (IntKind.i64.wrap (i+1))))))) else (some acc)))
  (hl:l.length≤Big) (hg:∀x ∈ l,g x=some x):((Q6 (l.length:Int) z).bind fun acc=>L fuel acc 0)=some l:=by
 have loop:∀ (post pre:List α) (n:Nat),l=pre++post→post.length<n→L n (pre++List.replicate post.length z) (pre.length:Int)=some l:=by
  intro post
  induction post with
  |nil=>
   intro pre n h hn
   obtain⟨n,rfl⟩:∃m,n=m+1:=⟨n - 1,by omega⟩
   rw [hL,Hb h]; simp [h]
  |cons x post ih=>
   intro pre n h hn
   obtain⟨n,rfl⟩:∃m,n=m+1:=⟨n - 1,by omega⟩
   rw [hL,if_pos (Ah h),AY h,AA,hg x (by rw [h]; simp),AA,List.length_cons,YD,AA,Sc,AA,AP h hl]
   grind
 rw [YC hl,AA]
 exact loop l [] fuel (by simp) (by rw [Bg]; grind)
def ZH (o:Option Bool) (p:Prop):Prop:=∃b,o=some b∧(b=true↔p)
theorem ZH.mk {b:Bool} {p:Prop} (h:b=true↔p):ZH (some b) p:=⟨b,rfl,h⟩
theorem ZH.true {o:Option Bool} {p:Prop} (h:ZH o p) (hp:p):o=some true:=by
 obtain⟨b,rfl,h1⟩:=h
 rw [h1.2 hp]
def UV:List ByteArray→Nat
 | [] =>0
 |s::l=>s.size+UV l
theorem Bj (s:ByteArray):sameStr s s=true:=by grind [sameStr]
theorem C2 {a b:ByteArray}:sameStr a b=true↔a=b:=by
 unfold sameStr
 rw [beq_iff_eq,ByteArray.toList_eq,ByteArray.toList_eq]
 exact⟨fun h=>ByteArray.ext (Array.toList_inj.mp h),fun h=>by rw [h]⟩
theorem nC {α:Type} (L:Nat→Int→Int→Option Int) (G:Nat→α→Int→Option Int) (s:α→Nat) (l:List α)
  (hL:∀n p i,L (n+1) p i=(if (decide (i<(l.length:Int)))=true then ((at? l i).bind fun x=>((G n x p).bind fun v=>(if (decide (v<0))=true then (some (-1)) else (L n v (IntKind.i64.wrap (i+1)))))) else (some p)))
  (left n:Nat) (h1:left≤1048576) (hg:∀x ∈ l,∀k m:Nat,k≤1048576→4*k+4≤m→G m x k=some (szr (s x) k)) (hl:l.length≤9223372036854775807) (hn:4*left+2≤n):
  (if decide (IntKind.i64.wrap ((left:Int) - (l.length:Int))<0)=true then some (-1) else L n (IntKind.i64.wrap ((left:Int) - (l.length:Int))) 0)=some (szr (szl s l) left):=by
 have hsz:=AZ s l
 have:=ZG (k:=fun v=>L n v 0) (rest:=szl s l - l.length) h1 hl fun h=>?_
 ·rw [show l.length+(szl s l - l.length)=szl s l from by omega] at this
  omega
 ·have loop:∀ (post pre:List α) (n l3:Nat),l=pre++post→l3+l.length≤left→1≤n→(post.length≠0→4*l3+4+post.length+1≤n)→L n l3 (pre.length:Int)=some (szr (szl s post - post.length) l3):=by
   intro post
   induction post with
   |nil=>
    intro pre n l3 h _ hn _
    obtain⟨n,rfl⟩:∃m,n=m+1:=⟨n - 1,by omega⟩
    rw [hL,Hb h]
    rfl
   | cons x post ihp=>
    intro pre n l3 hh h4 hn1 hn
    rw [List.length_cons] at hn
    have hn:=hn (by omega)
    obtain⟨n,rfl⟩:∃m,n=m+1:=⟨n - 1,by omega⟩
    have hx:x ∈ l:=by rw [hh]; simp
    have hp:=AZ s post
    rw [hL,if_pos (Ah hh),AY hh,AA]
    have e:=Gw (k:=fun v=>L n v (IntKind.i64.wrap ((pre.length:Int)+1))) (rest:=szl s post - post.length) (hg x hx l3 n (by omega) (by omega)) fun h5=>by
     rw [AP hh (by grind)]
     grind
    rw [szl,List.length_cons,show 1+s x+szl s post - (post.length+1)=s x+(szl s post - post.length) from by omega]
    exact e
  exact loop l [] n (left - l.length) (by simp) (by omega) (by omega) (by omega)
theorem nD {α:Type} (L:Nat→List α→Int→Option (List α)) (G:Nat→α→Option α) (z:α) (s:α→Nat) (l:List α) (hL:∀n acc i,L (n+1) acc i=(if (decide (i<(l.length:Int)))=true then ((at? l i).bind fun x=>((G n x).bind fun y=>((at? acc i).bind fun _=>((CZ acc i y).bind fun z=>(L n z (IntKind.i64.wrap (i+1))))))) else (some acc)))
  (hl:szl s l≤Big) (hg:∀x ∈ l,s x≤Big→∀n,4*s x+4≤n→G n x=some x) (n:Nat) (hn:4*szl s l+2≤n):((Q6 (l.length:Int) z).bind fun acc=>L n acc 0)=some l:=by
 have hlen:=AZ s l
 have loop:∀ (post pre:List α) (n:Nat),l=pre++post→4*szl s post+1≤n→L n (pre++List.replicate post.length z) (pre.length:Int)=some l:=by
  intro post
  induction post with
  |nil=>
   intro pre n h hn
   obtain⟨n,rfl⟩:∃m,n=m+1:=⟨n - 1,by omega⟩
   rw [hL,Hb h]; simp [h]
  |cons x post ih=>
   intro pre n h hn
   rw [szl] at hn
   obtain⟨n,rfl⟩:∃m,n=m+1:=⟨n - 1,by omega⟩
   have hx:x ∈ l:=by rw [h]; simp
   rw [hL,if_pos (Ah h),AY h,AA,hg x hx (by grind [Gv]) n (by omega),AA,List.length_cons,YD,AA,Sc,AA,AP h (by omega)]
   grind
 rw [YC (by omega),AA]
 exact loop l [] n (by simp) (by omega)
theorem nE {α:Type} (L:Nat→Int→Option Bool) (G:Nat→α→α→Option Bool) (s:α→Nat) (l:List α) (hL:∀n i,L (n+1) i=(if (decide (i<(l.length:Int)))=true then ((at? l i).bind fun x=>((at? l i).bind fun y=>((G n x y).bind fun v=>(if (!v)=true then (some false) else (L n (IntKind.i64.wrap (i+1))))))) else (some true)))
  (hl:szl s l≤Big) (hg:∀x ∈ l,s x≤Big→∀n,4*s x+4≤n→G n x x=some true) (n:Nat) (hn:4*szl s l+2≤n):(if (!decide ((l.length:Int)=(l.length:Int)))=true then some false else L n 0)=some true:=by
 have hlen:=AZ s l
 have loop:∀ (post pre:List α) (n:Nat),l=pre++post→4*szl s post+1≤n→L n (pre.length:Int)=some true:=by
  intro post
  induction post with
  |nil=>
   intro pre n h hn
   obtain⟨n,rfl⟩:∃m,n=m+1:=⟨n - 1,by omega⟩
   rw [hL,Hb h]; rfl
  |cons x post ih=>
   intro pre n h hn
   rw [szl] at hn
   obtain⟨n,rfl⟩:∃m,n=m+1:=⟨n - 1,by omega⟩
   have hx:x ∈ l:=by rw [h]; simp
   rw [hL,if_pos (Ah h),AY h,AA,AA,hg x hx (by grind [Gv]) n (by omega),AA,if_neg (by simp),AP h (by omega)]
   grind
 rw [if_neg (by simp)]
 exact loop l [] n (by simp) (by omega)
theorem jO {α:Type} (L:Nat→Int→Option Bool) (g:α→α→Option Bool) (l:List α) (hL:∀n i,L (n+1) i=(if (decide (i<(l.length:Int)))=true then ((at? l i).bind fun x=>((at? l i).bind fun y=>((g x y).bind fun v=>(if (!v)=true then (some false) else (L n (IntKind.i64.wrap (i+1))))))) else (some true)))
  (hl:l.length≤Big) (hg:∀x ∈ l,g x x=some true):(if (!decide ((l.length:Int)=(l.length:Int)))=true then some false else L fuel 0)=some true:=by
 have loop:∀ (post pre:List α) (n:Nat),l=pre++post→post.length<n→L n (pre.length:Int)=some true:=by
  intro post
  induction post with
  |nil=>
   intro pre n h hn
   obtain⟨n,rfl⟩:∃m,n=m+1:=⟨n - 1,by omega⟩
   rw [hL,Hb h]; rfl
  |cons x post ih=>
   intro pre n h hn
   rw [List.length_cons] at hn
   obtain⟨n,rfl⟩:∃m,n=m+1:=⟨n - 1,by omega⟩
   have hx:x ∈ l:=by rw [h]; simp
   rw [hL,if_pos (Ah h),AY h,AA,AA,hg x hx,AA,if_neg (by simp),AP h hl]
   grind
 rw [if_neg (by simp)]
 exact loop l [] fuel (by simp) (by rw [Bg]; grind)
theorem dO {k:Int→Option Bool} {z left:Nat} {X:Option Int} (hX:X=some (szr z left)) (hk:z≤left→k ((left - z:Nat):Int)=some true):
  (Option.bind X fun v=>if decide (v<0)=true then some true else k v)=some true:=by
 rw [hX,AA,ZF]
 grind [jN]
end Go.Proofs.YtnfgeocnolheoaaGreat.Ab
