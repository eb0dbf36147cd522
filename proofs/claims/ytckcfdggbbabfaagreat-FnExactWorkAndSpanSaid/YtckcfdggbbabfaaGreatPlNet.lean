/-
  Plain lemmas for the laws about models: loops over lists, bounded arithmetic. No program is in sight.
-/
import Derived.Test.YtckcfdggbbabfaaGreatAbY
import Derived.Test.YtckcfdggbbabfaaGreatMod
import Derived.Test.YtckcfdggbbabfaaGreatModU
namespace Go.Proofs.YtckcfdggbbabfaaGreat.Ab
set_option linter.unusedVariables false
set_option linter.unusedSimpArgs false
open Go.RowKit
theorem w64 {n} (h1: -9223372036854775808≤n) (h2:n≤9223372036854775807):IntKind.i64.wrap n=n:=fw h1 h2
abbrev Big:Nat:=4294967296
section
variable {α:Type} {l pre post:List α} {x:α}
theorem CG (h:l=pre++x::post):decide (((List.length pre:Nat):Int)<((List.length l:Nat):Int))=true:=by
 subst h; simp only [List.length_append,List.length_cons,decide_eq_true_eq]; omega
theorem CU (h:l=pre++[]):decide (((List.length pre:Nat):Int)<((List.length l:Nat):Int))=false:=by
 subst h; simp
theorem BO (h:l=pre++x::post):at? l ((List.length pre:Nat):Int)=some x:=by
 subst h
 unfold at?
 rw [if_pos (by omega)]
 simp
theorem Ax (h:l=pre++x::post) (hl:l.length≤Big):IntKind.i64.wrap (((List.length pre:Nat):Int)+1)=((List.length (pre++[x]):Nat):Int):=by
 subst h
 simp only [List.length_append,List.length_cons,List.length_nil,Big] at hl ⊢
 rw [w64 (by omega) (by omega)]
 omega
theorem Ae (h:l=pre++x::post):l=(pre++[x])++post:=by rw [h]; simp
theorem C2 {a b:List α} (h:a.length+b.length≤Big):app? a b=some (a++b):=by
 unfold app?; rw [if_pos (by unfold Big at h; omega)]
theorem Rr {z:α} {n:Nat} (h:n≤Big):rep? (n:Int) z=some (List.replicate n z):=by
 unfold rep?; rw [if_pos (by unfold Big at h; omega)]; simp
theorem dn {z} {k}:Vi (pre++List.replicate (k+1) z) ((List.length pre:Nat):Int) x=(pre++[x])++List.replicate k z:=by
 unfold Vi
 simp [List.replicate_succ]
theorem Vj {z} {k}:CF (pre++List.replicate (k+1) z) ((List.length pre:Nat):Int) x=some ((pre++[x])++List.replicate k z):=by
 unfold CF; rw [dn]
theorem bQ {z} {k}:at? (pre++List.replicate (k+1) z) ((List.length pre:Nat):Int)=some z:=by
 unfold at?
 rw [if_pos (by omega)]
 simp
end
theorem AA {α β:Type} {a:α} {k:α→Option β}:Option.bind (some a) k=k a:=rfl
end Go.Proofs.YtckcfdggbbabfaaGreat.Ab
namespace Go.Proofs.YtckcfdggbbabfaaGreat.Ab
set_option linter.unusedVariables false
set_option linter.unusedSimpArgs false
open Go.RowKit
def szr (z left:Nat):Int:=if z≤left then ((left - z:Nat):Int) else -1
theorem X9 {z left}:decide (szr z left<0)=decide (left<z):=by
 unfold szr
 by_cases h:z≤left
 ·rw [if_pos h]; simp; omega
 ·rw [if_neg h]; simp; omega
theorem W6 {z left} (h:z≤left):szr z left=((left - z:Nat):Int):=if_pos h
theorem W7 {z left} (h:left<z):szr z left= -1:=if_neg (by omega)
theorem YA {n left:Nat} (h1:left≤1048576) (h2:n≤9223372036854775807):IntKind.i64.wrap ((left:Int) - (n:Int))=(left:Int) - n:=w64 (by omega) (by omega)
theorem Vk (l:List Int) (left:Nat) (h1:left≤1048576) (h2:l.length≤9223372036854775807):I7 l left=some (szr l.length left):=by
 unfold I7
 rw [YA h1 h2]
 by_cases h:l.length≤left
 ·rw [if_neg (by simp; omega),W6 h]; congr 1; omega
 ·rw [if_pos (by simp; omega),W7 (by omega)]
theorem SZ (l:List Int) (hl:l.length≤Big):∀ (post pre:List Int) (n:Nat),l=pre++post→post.length<n→DT n l (pre++List.replicate post.length 0) ((List.length pre:Nat):Int)=some l:=by
 intro post
 induction post with
 |nil=>
  intro pre n h hn
  obtain⟨n,rfl⟩:∃m,n=m+1:=⟨n - 1,by omega⟩
  rw [DT,CU h]; simp [h]
 |cons x post ih=>
  intro pre n h hn
  obtain⟨n,rfl⟩:∃m,n=m+1:=⟨n - 1,by omega⟩
  rw [DT,if_pos (CG h),BO h,AA,List.length_cons,bQ,AA,Vj,AA,Ax h hl]
  exact ih (pre++[x]) n (Ae h) (by simp at hn; omega)
theorem Vl (l:List Int) (hl:l.length≤Big):I8 l=some l:=by
 unfold I8
 rw [Rr hl,AA]
 exact SZ l hl l [] fuel (by simp) (by rw [Ah]; unfold Big at hl; omega)
end Go.Proofs.YtckcfdggbbabfaaGreat.Ab
namespace Go.Proofs.YtckcfdggbbabfaaGreat.Ab
set_option linter.unusedVariables false
set_option linter.unusedSimpArgs false
open Go.RowKit
def szl {α:Type} (s:α→Nat):List α→Nat
 | [] =>0
 |x::l=>1+s x+szl s l
theorem FL {α:Type} (s:α→Nat):∀l:List α,l.length≤szl s l
 | [] =>by simp
 |x::l=>by rw [szl,List.length_cons]; have:=FL s l; omega
theorem HJ {α:Type} {s:α→Nat} {x:α}:∀ {l:List α},x ∈ l→s x<szl s l
 |y::l,h=>by
  rw [szl]
  rcases List.mem_cons.1 h with rfl|h
  ·omega
  ·have:=HJ (s:=s) h; omega
theorem Qq {k:Int→Option Int} {z left rest:Nat} {X:Option Int} (hX:X=some (szr z left)) (hk:z≤left→k ((left - z:Nat):Int)=some (szr rest (left - z))):
  (Option.bind X fun v=>if decide (v<0)=true then some (-1) else k v)=some (szr (z+rest) left):=by
 rw [hX,AA,X9]
 by_cases h:left<z
 ·rw [if_pos (by simpa using h),W7 (by omega)]
 ·rw [if_neg (by simpa using h),W6 (by omega),hk (by omega)]
  congr 1
  unfold szr
  by_cases h2:rest≤left - z
  ·rw [if_pos h2,if_pos (by omega)]; congr 1; omega
  ·rw [if_neg h2,if_neg (by omega)]
theorem YB {k:Int→Option Int} {z left rest:Nat} (h1:left≤1048576) (h2:z≤9223372036854775807) (hk:z≤left→k ((left - z:Nat):Int)=some (szr rest (left - z))):
  (if decide (IntKind.i64.wrap ((left:Int) - (z:Int))<0)=true then some (-1) else k (IntKind.i64.wrap ((left:Int) - (z:Int))))=some (szr (z+rest) left):=by
 rw [YA h1 h2]
 by_cases h:left<z
 ·rw [if_pos (by simp; omega),W7 (by omega)]
 ·rw [if_neg (by simp; omega),show ((left:Int) - (z:Int))=((left - z:Nat):Int) from by omega,hk (by omega)]
  congr 1
  unfold szr
  by_cases h2:rest≤left - z
  ·rw [if_pos h2,if_pos (by omega)]; congr 1; omega
  ·rw [if_neg h2,if_neg (by omega)]
theorem W8 {left}:some ((left:Nat):Int)=some (szr 0 left):=by simp [szr]
theorem gSz {α:Type} (L:Nat→Int→Int→Option Int) (g:α→Int→Option Int) (s:α→Nat) (l:List α) (hL:∀n p i,L (n+1) p i=(if (decide (i<((List.length l:Nat):Int)))=true then (Option.bind (at? l i) fun x=>(Option.bind (g x p) fun v=>(if (decide (v<0))=true then (some (-1)) else (L n v (IntKind.i64.wrap (i+1)))))) else (some p)))
  (left:Nat) (h1:left≤1048576) (hg:∀x ∈ l,∀k:Nat,k≤1048576→g x k=some (szr (s x) k)) (hl:l.length≤9223372036854775807):
  (if decide (IntKind.i64.wrap ((left:Int) - ((List.length l:Nat):Int))<0)=true then some (-1) else L fuel (IntKind.i64.wrap ((left:Int) - ((List.length l:Nat):Int))) 0)=some (szr (szl s l) left):=by
 have hsz:=FL s l
 have:=YB (k:=fun v=>L fuel v 0) (rest:=szl s l - l.length) h1 hl fun h=>?_
 ·rw [show l.length+(szl s l - l.length)=szl s l from by omega] at this
  exact this
 ·have loop:∀ (post pre:List α) (n l3:Nat),l=pre++post→l3≤left→post.length<n→L n l3 ((List.length pre:Nat):Int)=some (szr (szl s post - post.length) l3):=by
   intro post
   induction post with
   |nil=>
    intro pre n l3 h _ hn
    obtain⟨n,rfl⟩:∃m,n=m+1:=⟨n - 1,by omega⟩
    rw [hL,CU h]
    simp [szl,szr]
   | cons x post ihp=>
    intro pre n l3 hh h4 hn
    obtain⟨n,rfl⟩:∃m,n=m+1:=⟨n - 1,by omega⟩
    have hx:x ∈ l:=by rw [hh]; simp
    have hp:=FL s post
    rw [hL,if_pos (CG hh),BO hh,AA]
    have e:=Qq (k:=fun v=>L n v (IntKind.i64.wrap (((List.length pre:Nat):Int)+1))) (rest:=szl s post - post.length) (hg x hx l3 (by omega)) fun h5=>by
     rw [Ax hh (by unfold Big; omega)]
     exact ihp (pre++[x]) n (l3 - s x) (Ae hh) (by omega) (by simp at hn; omega)
    rw [szl,List.length_cons,show 1+s x+szl s post - (post.length+1)=s x+(szl s post - post.length) from by omega]
    exact e
  exact loop l [] fuel (left - l.length) (by simp) (by omega) (by rw [Ah]; omega)
theorem gTo {α:Type} (L:Nat→List α→Int→Option (List α)) (g:α→Option α) (z:α) (l:List α) (hL:∀n acc i,L (n+1) acc i=(if (decide (i<((List.length l:Nat):Int)))=true then (Option.bind (at? l i) fun x=>(Option.bind (g x) fun y=>(Option.bind (at? acc i) fun _=>(Option.bind (CF acc i y) fun z=>(L n z (IntKind.i64.wrap (i+1))))))) else (some acc)))
  (hl:l.length≤Big) (hg:∀x ∈ l,g x=some x):(Option.bind (rep? ((List.length l:Nat):Int) z) fun acc=>L fuel acc 0)=some l:=by
 have loop:∀ (post pre:List α) (n:Nat),l=pre++post→post.length<n→L n (pre++List.replicate post.length z) ((List.length pre:Nat):Int)=some l:=by
  intro post
  induction post with
  |nil=>
   intro pre n h hn
   obtain⟨n,rfl⟩:∃m,n=m+1:=⟨n - 1,by omega⟩
   rw [hL,CU h]; simp [h]
  |cons x post ih=>
   intro pre n h hn
   obtain⟨n,rfl⟩:∃m,n=m+1:=⟨n - 1,by omega⟩
   rw [hL,if_pos (CG h),BO h,AA,hg x (by rw [h]; simp),AA,List.length_cons,bQ,AA,Vj,AA,Ax h hl]
   exact ih (pre++[x]) n (Ae h) (by simp at hn; omega)
 rw [Rr hl,AA]
 exact loop l [] fuel (by simp) (by rw [Ah]; unfold Big at hl; omega)
def DZ (o:Option Bool) (p:Prop):Prop:=∃b,o=some b∧(b=true↔p)
theorem DZ.mk {b} {p:Prop} (h:b=true↔p):DZ (some b) p:=⟨b,rfl,h⟩
theorem DZ.iff {o} {p q:Prop} (h:DZ o p) (hpq:p↔q):DZ o q:=by
 obtain⟨b,h1,h2⟩:=h
 exact⟨b,h1,h2.trans hpq⟩
theorem DZ.true {o} {p:Prop} (h:DZ o p) (hp:p):o=some true:=by
 obtain⟨b,rfl,h1⟩:=h
 rw [h1.2 hp]
theorem Hd {b} {X} {p q:Prop} (h:b=true↔p) (hX:p→DZ X q):DZ (if (!b)=true then some false else X) (p∧q):=by
 cases b with
 |true=>have hp:=h.1 rfl; exact((hX hp).iff ⟨fun k=>⟨hp,k⟩,fun k=>k.2⟩)
 |false=>exact⟨false,rfl,⟨fun k=>Bool.noConfusion k,fun k=>h.2 k.1⟩⟩
theorem W9 {o} {k} {p r:Prop} (h:DZ o p) (hk:∀b,(b=true↔p)→DZ (k b) r):DZ (Option.bind o k) r:=by
 obtain⟨b,rfl,h1⟩:=h
 exact hk b h1
theorem HK {o} {X} {p q:Prop} (h:DZ o p) (hX:p→DZ X q):DZ (Option.bind o fun b=>if (!b)=true then some false else X) (p∧q):=
 W9 h fun b hb=>Hd hb hX
theorem Nn:DZ (some true) True:=.mk (by simp)
theorem Mv {p:Prop} [Decidable p] :decide p=true↔p:=decide_eq_true_iff
theorem dp {α β:Type} {l:List α} {m:List β}:decide (((List.length l:Nat):Int)=((List.length m:Nat):Int))=true↔l.length=m.length:=by
 rw [decide_eq_true_iff]; omega
theorem gEq {α:Type} (L:Nat→Int→Option Bool) (f:α→α→Option Bool) (l m:List α) (hL:∀n i,L (n+1) i=(if (decide (i<((List.length l:Nat):Int)))=true then (Option.bind (at? l i) fun x=>(Option.bind (at? m i) fun y=>(Option.bind (f x y) fun v=>(if (!v)=true then (some false) else (L n (IntKind.i64.wrap (i+1))))))) else (some true)))
  (hl:l.length≤Big) (hlen:l.length=m.length) (hf:∀x ∈ l,∀y ∈ m,DZ (f x y) (x=y)):DZ (L fuel 0) (l=m):=by
 have loop:∀ (post post' pre pre':List α) (n:Nat),l=pre++post→m=pre'++post'→pre.length=pre'.length→post.length<n→DZ (L n ((List.length pre:Nat):Int)) (post=post'):=by
  intro post
  induction post with
  |nil=>
   intro post' pre pre' n h h' hpp hn
   obtain⟨n,rfl⟩:∃m,n=m+1:=⟨n - 1,by omega⟩
   rw [hL,CU h]
   obtain rfl:post'=[] :=List.eq_nil_of_length_eq_zero (by rw [h,h'] at hlen; simp at hlen; omega)
   exact .mk (by simp)
  | cons x post ih=>
   intro post' pre pre' n h h' hpp hn
   obtain⟨n,rfl⟩:∃m,n=m+1:=⟨n - 1,by omega⟩
   cases post' with
   |nil=>rw [h,h'] at hlen; simp at hlen; omega
   |cons y post'=>
    rw [hL,if_pos (CG h),BO h,AA,hpp,BO h',AA,← hpp,Ax h hl]
    refine(HK (hf x (by rw [h]; simp) y (by rw [h']; simp)) fun _=>ih post' (pre++[x]) (pre'++[y]) n (Ae h) (Ae h') (by simp [hpp]) (by simp at hn; omega)).iff ?_
    simp
 exact loop l m [] [] fuel (by simp) (by simp) rfl (by rw [Ah]; unfold Big at hl; omega)
theorem bR {α:Type} (L:Nat→Int→Option Bool) (f:α→α→Option Bool) (l m:List α) (hL:∀n i,L (n+1) i=(if (decide (i<((List.length l:Nat):Int)))=true then (Option.bind (at? l i) fun x=>(Option.bind (at? m i) fun y=>(Option.bind (f x y) fun v=>(if (!v)=true then (some false) else (L n (IntKind.i64.wrap (i+1))))))) else (some true)))
  (hl:l.length≤Big) (hf:∀x ∈ l,∀y ∈ m,DZ (f x y) (x=y)):DZ (if (!decide (((List.length l:Nat):Int)=((List.length m:Nat):Int)))=true then some false else L fuel 0) (l=m):=
 (Hd dp fun h=>gEq L f l m hL hl h hf).iff ⟨fun h=>h.2,fun h=>⟨by rw [h],h⟩⟩
theorem JJ (l m:List Int) (hl:l.length≤Big):DZ (Dk l m) (l=m):=by
 unfold Dk
 exact bR (fun n i=>EI n l m i) (fun x y=>some (decide (x=y))) l m (fun n i=>by rw [EI]; rfl) hl fun x _ y _=>.mk Mv
theorem K5 (s:ByteArray):Xy s s=true:=by unfold Xy; simp
theorem PY {k:Int→Option Bool} {z left:Nat} {X:Option Int} (hX:X=some (szr z left)) (hk:z≤left→k ((left - z:Nat):Int)=some true):
  (Option.bind X fun v=>if decide (v<0)=true then some true else k v)=some true:=by
 rw [hX,AA,X9]
 by_cases h:left<z
 ·rw [if_pos (by simpa using h)]
 ·rw [if_neg (by simpa using h),W6 (by omega),hk (by omega)]
end Go.Proofs.YtckcfdggbbabfaaGreat.Ab
namespace Go.Proofs.YtckcfdggbbabfaaGreat.Ab
set_option linter.unusedVariables false
set_option linter.unusedSimpArgs false
set_option maxRecDepth 20000
set_option maxHeartbeats 4000000
open Go.RowKit
theorem K6 {α:Type} (L:Nat→List α→Int→(α→Option Bool)→Option Int) (hL:∀n l i f,L (n+1) l i f=(if (decide (i<((List.length l:Nat):Int)))=true then (Option.bind (at? l i) fun x=>(Option.bind (f x) fun b=>(if b=true then (some i) else (L n l (IntKind.i64.wrap (i+1)) f)))) else (some (-1))))
  (l:List α) (f:α→Option Bool) (p:α→Bool) (hl:l.length≤Big) (hf:∀x ∈ l,f x=some (p x)):∃i:Int,L fuel l 0 f=some i∧(0≤i↔l.any p=true)∧(l.any p=false→i= -1):=by
 have loop:∀ (post pre:List α) (n:Nat),l=pre++post→post.length<n→∃i:Int,L n l ((List.length pre:Nat):Int) f=some i∧(0≤i↔post.any p=true)∧(post.any p=false→i= -1):=by
  intro post
  induction post with
  |nil=>
   intro pre n h hn
   obtain⟨n,rfl⟩:∃m,n=m+1:=⟨n - 1,by omega⟩
   rw [hL,CU h]
   exact⟨-1,rfl,by simp,fun _=>rfl⟩
  | cons x post ih=>
   intro pre n h hn
   obtain⟨n,rfl⟩:∃m,n=m+1:=⟨n - 1,by omega⟩
   rw [hL,if_pos (CG h),BO h,AA,hf x (by rw [h]; simp),AA]
   by_cases hp:p x=true
   ·rw [if_pos hp]
    exact⟨_,rfl,by simp [hp],by simp [hp]⟩
   ·rw [if_neg hp,Ax h hl]
    obtain⟨i,h1,h2,h3⟩:=ih (pre++[x]) n (Ae h) (by simp at hn; omega)
    have hp':p x=false:=by simpa using hp
    exact⟨i,h1,by simpa [hp'] using h2,by simpa [hp'] using h3⟩
 exact loop l [] fuel (by simp) (by rw [Ah]; unfold Big at hl; omega)
theorem MC (l:List Int) (f:Int→Option Bool) (p:Int→Bool) (hl:l.length≤Big) (hf:∀x ∈ l,f x=some (p x)):BK l f=some (l.any p):=by
 obtain⟨i,h1,h2,-⟩:=K6 BX (fun n l i f=>by rw [BX]) l f p hl hf
 unfold BK Ey
 rw [h1,AA]
 congr 1
 rw [Bool.eq_iff_iff,decide_eq_true_eq]; exact h2
def GW (n:Int):Bool:=decide (0≤n∧n≤23)
theorem Fi (n a b:Int):Ci n a b=some (decide (a≤n∧n≤b)):=by
 unfold Ci
 by_cases h:a≤n <;> simp [h]
theorem bS (n:Int):Mt n=some (decide (-2147483648≤n∧n≤2147483647)):=by
 unfold Mt
 by_cases h: -2147483648≤n <;> simp [h]
theorem Sa (n:Int):Fs n=some (decide (1≤n∧n≤6)):=by
 unfold Fs
 by_cases h:1≤n <;> simp [h]
theorem NE (n:Int):Fq n=some (GW n):=by
 unfold Fq GW
 by_cases h:0≤n
 ·simp [h]; omega
 ·simp [h]
theorem dq {l:List Int}:l.any (fun k=> !GW k)= !l.all GW:=by
 induction l with
 |nil=>rfl
 |cons x xs ih=>simp only [List.any_cons,List.all_cons,ih,Bool.not_and]
end Go.Proofs.YtckcfdggbbabfaaGreat.Ab
namespace Go.Proofs.YtckcfdggbbabfaaGreat.Ab
set_option linter.unusedVariables false
set_option linter.unusedSimpArgs false
open Go.RowKit
theorem kind_cases (k:Int):k=1∨k=2∨k=3∨k=4∨k=5∨k=6∨k=7∨k=8∨k=9∨k=10∨k=11∨k=12∨(k<1∨12<k):=by omega
def ports (k f:Int):Int:=
 if k=9 then (if 0≤f∧f≤3 then f+1 else 0) else if f≠0 then 0
 else if k=1∨k=5∨k=6∨k=12 then 1 else if k=8∨k=10∨k=11 then 2 else if k=2∨k=3∨k=4∨k=7 then 3 else 0
theorem Io {k:Int} (h:k<1∨12<k):k≠1∧k≠2∧k≠3∧k≠4∧k≠5∧k≠6∧k≠7∧k≠8∧k≠9∧k≠10∧k≠11∧k≠12:=by omega
theorem ZL (k f:Int):Hc k f=some (ports k f):=by
 have hw:0≤f∧f≤3→IntKind.i64.wrap (1+f)=f+1:=fun h=>by rw [w64 (by omega) (by omega)]; omega
 by_cases hf:f=0
 ·subst hf
  rcases kind_cases k with h|h|h|h|h|h|h|h|h|h|h|h|h
  all_goals first|(subst h; rfl)|skip
  have:=Io h
  simp [Hc,E0,Ft,Ez,ports,this]
 ·by_cases h9:k=9
  ·subst h9
   simp only [Hc,Fi,AA,ports,decide_true,reduceIte]
   by_cases h:0≤f∧f≤3
   ·simp [h,hw h]
   ·simp [h]
  ·simp [Hc,ports,h9,hf]
theorem Gn (k:Int):JE k=some (decide (1≤k∧k≤12)):=by
 unfold JE
 by_cases h:1≤k <;> simp [h]
theorem ZM (k f:Int):Gm k f=some (ports k f):=by
 have hw:0≤f∧f≤3→IntKind.i64.wrap (f+1)=f+1:=fun h=>w64 (by omega) (by omega)
 by_cases hf:f=0
 ·subst hf
  rcases kind_cases k with h|h|h|h|h|h|h|h|h|h|h|h|h
  all_goals first|(subst h; rfl)|skip
  have h':=Io h
  have h2:¬ (1≤k∧k≤12):=by omega
  simp [Gm,DO,EB,ports,Gn,h',h2]
 ·by_cases h9:k=9
  ·subst h9
   by_cases h:0≤f∧f≤3
   ·simp [Gm,DO,ports,h,hw h]
   ·simp only [Gm,DO,EB,ports,Gn,decide_true,reduceIte,AA]
    by_cases h0:0≤f
    ·have h3:¬f≤3:=by omega
     simp [h0,h3]
    ·simp [h0]
  ·simp [Gm,DO,EB,Gn,ports,h9,hf]
def levB (k l:Int):Bool:=decide (1≤k∧k≤12)&&if k=1∨k=5∨k=6 then decide (l=0) else decide (0≤l∧l≤8)
theorem Mw (k l:Int):Eu k l=some (levB k l):=by
 rcases kind_cases k with h|h|h|h|h|h|h|h|h|h|h|h|h
 all_goals first|(subst h; simp [Eu,EL,BG,KW,levB,Fi,AA]; done)|skip
 have h':=Io h
 have h2:¬ (1≤k∧k≤12):=by omega
 simp [Eu,EL,BG,KW,levB,Fi,AA,h',h2]
theorem Jk (k l:Int):DU k l=some (levB k l):=by
 have hl:decide (l=0)=true∨decide (l=0)=false:=by cases decide (l=0) <;> simp
 rcases kind_cases k with h|h|h|h|h|h|h|h|h|h|h|h|h
 all_goals first|(subst h; by_cases h0:l=0 <;> by_cases h1:0≤l <;> simp [DU,Gn,EJ,Gg,levB,AA,h0,h1]; done)|skip
 all_goals first|(subst h; by_cases h0:l=0 <;> by_cases h1:0≤l <;> simp [DU,Gn,EJ,Gg,levB,AA,h0,h1] <;> omega)|skip
 have h2:¬ (1≤k∧k≤12):=by omega
 simp [DU,Gn,levB,AA,h2]
def Fw (a:Agent):Bool:=
 if a.kind=6 then decide (a.data.length=0)&&decide (-2147483648≤a.value∧a.value≤2147483647)
 else if a.kind=7 then decide (a.data.length=0)&&decide (1≤a.value∧a.value≤6)
 else if a.kind=8 then decide (a.data.length=1)&&decide (1≤a.value∧a.value≤6)&&a.data.all fun d=>decide (-2147483648≤d∧d≤2147483647)
 else if a.kind=9 then decide (a.data.length=0)&&decide (0≤a.value∧a.value≤3)
 else if a.kind=12 then decide (a.data.length=0)&&GW a.value
 else if a.kind=10 then decide (a.value=0)&&decide (1≤a.data.length∧a.data.length≤4)&&a.data.all GW
 else if a.kind=11 then decide (a.value=0)&&decide (a.data.length=2)&&a.data.all GW
 else decide (a.value=0)&&decide (a.data.length=0)
theorem TW (n:Int):JG n=some (GW n):=by
 unfold JG
 rw [Fi,AA]; rfl
theorem jt {α:Type} (L:Nat→Int→Option Bool) (f:α→Option Bool) (p:α→Bool) (l:List α) (hL:∀n i,L (n+1) i=(if (decide (i<((List.length l:Nat):Int)))=true then (Option.bind (at? l i) fun x=>(Option.bind (f x) fun v=>(if (!v)=true then (some false) else (L n (IntKind.i64.wrap (i+1)))))) else (some true)))
  (hl:l.length≤Big) (hf:∀x ∈ l,f x=some (p x)):L fuel 0=some (l.all p):=by
 have loop:∀ (post pre:List α) (n:Nat),l=pre++post→post.length<n→L n ((List.length pre:Nat):Int)=some (post.all p):=by
  intro post
  induction post with
  |nil=>
   intro pre n h hn
   obtain⟨n,rfl⟩:∃m,n=m+1:=⟨n - 1,by omega⟩
   rw [hL,CU h]; simp
  |cons x post ih=>
   intro pre n h hn
   obtain⟨n,rfl⟩:∃m,n=m+1:=⟨n - 1,by omega⟩
   rw [hL,if_pos (CG h),BO h,AA,hf x (by rw [h]; simp),AA,Ax h hl,List.all_cons]
   cases p x with
   |false=>rfl
   |true=>exact ih (pre++[x]) n (Ae h) (by simp at hn; omega)
 exact loop l [] fuel rfl (by rw [Ah]; unfold Big at hl; omega)
theorem len0 {α:Type} {l:List α}:decide (((List.length l:Nat):Int)=0)=decide (l.length=0):=by congr 1; exact propext (by omega)
theorem ju {α:Type} {l:List α}:decide (((List.length l:Nat):Int)=1)=decide (l.length=1):=by congr 1; exact propext (by omega)
theorem jv {α:Type} {l:List α}:decide (((List.length l:Nat):Int)=2)=decide (l.length=2):=by congr 1; exact propext (by omega)
theorem jw {α:Type} {l:List α}:decide (1≤((List.length l:Nat):Int)∧((List.length l:Nat):Int)≤4)=decide (1≤l.length∧l.length≤4):=by congr 1; exact propext (by omega)
theorem Vm (a:Agent) (hd:a.data.length≤Big):Cg fuel a 0=some (a.data.all GW):=
 jt (fun n i=>Cg n a i) JG GW a.data (fun n i=>by rw [Cg]) hd fun x _=>TW x
theorem Vo (a:Agent) (hd:a.data.length≤Big):HI a=some (Fw a):=by
 have h3:=Vm a hd
 unfold HI Fw
 rcases kind_cases a.kind with h|h|h|h|h|h|h|h|h|h|h|h|h
 all_goals try simp only [h,FA,CC,Fi,TW,AA,h3,len0,ju,jv,jw,eq_self,decide_true,reduceIte,Int.reduceEq,decide_false,Bool.false_eq_true]
 all_goals first|(by_cases h0:a.value=0 <;> by_cases h1:a.data.length=0 <;> simp [h0,h1]; done)|skip
 ·match hdd:a.data with
  | [] =>simp
  | [d] =>by_cases h1:1≤a.value∧a.value≤6 <;> simp [at?,h1]
  |d::e::l=>simp
 ·cases decide (a.value=0) <;> cases decide (1≤a.data.length∧a.data.length≤4) <;> simp
 ·cases decide (a.value=0) <;> cases decide (a.data.length=2) <;> simp
 ·obtain⟨k1,k2,k3,k4,k5,k6,k7,k8,k9,k10,k11,k12⟩:=Io h
  simp only [k6,k7,k8,k9,k10,k11,k12,decide_false,Bool.false_eq_true,reduceIte]
  cases decide (a.value=0) <;> simp
theorem bT {l:List Int}:l.any (fun k=> !GW k)= !l.all GW:=dq
theorem bU (l:List Int) (hl:l.length≤Big):BK l (fun y0=>Fh y0)=some (!l.all GW):=by
 rw [MC l _ (fun k=> !GW k) hl (fun x _=>by unfold Fh; rw [NE,AA]),bT]
def agB (a:Agent):Bool:=decide (0<a.ports.length∧ports a.kind (if a.kind=9 then (a.ports.length:Int) - 1 else 0)=(a.ports.length:Int))&&levB a.kind a.level&&Fw a
theorem ZN (a:Agent) (hp:a.ports.length≤Big) (hd:a.data.length≤Big):JH a=some (agB a):=by
 have hf:Cy a=some (if a.kind=9 then (a.ports.length:Int) - 1 else 0):=by
  unfold Cy
  by_cases h:a.kind=9
  ·simp only [h,decide_true,reduceIte]; rw [w64 (by omega) (by unfold Big at hp; omega)]
  ·simp [h]
 unfold JH agB
 rw [hf,AA,ZL,AA,Mw,Vo a hd]
 generalize ports a.kind _=p
 by_cases h:0<a.ports.length∧p=(a.ports.length:Int)
 ·obtain⟨h1,rfl⟩:=h
  have h2:(0:Int)<(a.ports.length:Int):=by omega
  cases levB a.kind a.level <;> simp [h1,h2,AA]
 ·by_cases h1:(0:Int)<p
  ·have h2:¬ ((a.ports.length:Int)=p):=by omega
   simp [h,h1,h2]
  ·simp [h,h1]
theorem jx (x y:Bool):Au x y=some (x&&y):=by cases x <;> simp [Au]
theorem Vp (a:Agent) (hd:a.data.length≤Big):CB a false=some (Fw a):=by
 unfold CB Fw
 rw [if_neg (by simp),bU a.data hd,AA]
 rcases kind_cases a.kind with h|h|h|h|h|h|h|h|h|h|h|h|h
 all_goals try simp only [h,jx,bS,Sa,NE,AA,len0,ju,jv,eq_self,decide_true,reduceIte,Int.reduceEq,decide_false,Bool.false_eq_true,Bool.not_not]
 all_goals first|(by_cases h0:a.value=0 <;> by_cases h1:a.data.length=0 <;> simp [h0,h1]; done)|skip
 ·match hdd:a.data with
  | [] =>simp
  | [d] =>by_cases h1:1≤a.value∧a.value≤6 <;> simp [at?,h1]
  |d::e::l=>simp
 ·by_cases h0:0≤a.value
  ·have e:decide (a.value<4)=decide (0≤a.value∧a.value≤3):=by congr 1; exact propext (by omega)
   rw [decide_eq_true h0,if_pos rfl,e,Bool.and_comm]
  ·simp [h0]
 ·by_cases h1:1≤a.data.length <;> by_cases h2:a.data.length≤4
  ·have e1:(1:Int)≤(a.data.length:Int):=by omega
   have e2:(a.data.length:Int)≤4:=by omega
   simp [e1,e2,h1,h2]
  ·have e2:¬ (a.data.length:Int)≤4:=by omega
   simp [e2,h2]
  ·have e1:¬ (1:Int)≤(a.data.length:Int):=by omega
   simp [e1,h1]
  ·have e1:¬ (1:Int)≤(a.data.length:Int):=by omega
   simp [e1,h1]
 ·cases decide (a.value=0) <;> cases decide (a.data.length=2) <;> simp
 ·obtain⟨k1,k2,k3,k4,k5,k6,k7,k8,k9,k10,k11,k12⟩:=Io h
  simp only [k6,k7,k8,k9,k10,k11,k12,decide_false,Bool.false_eq_true,reduceIte]
theorem ZO (a:Agent) (hp:a.ports.length≤Big) (hd:a.data.length≤Big):HG a=some (agB a):=by
 unfold HG agB
 have hf:JF a.kind ((List.length a.ports:Nat):Int)=some (if a.kind=9 then (a.ports.length:Int) - 1 else 0):=by
  unfold JF
  by_cases h:a.kind=9
  ·simp only [h,decide_true,reduceIte]; rw [w64 (by omega) (by unfold Big at hp; omega)]
  ·simp [h]
 rw [hf,AA,ZM,AA,Jk,AA]
 generalize ports a.kind _=p
 have ht:CB a true=some false:=by rw [CB,if_pos rfl]
 by_cases h0:a.ports.length=0
 ·have e0:((List.length a.ports:Nat):Int)=0:=by omega
  rw [decide_eq_true e0,if_pos rfl,ht]
  simp [h0]
 ·have e0:¬ ((List.length a.ports:Nat):Int)=0:=by omega
  rw [decide_eq_false e0,if_neg (by simp)]
  by_cases h1:p=((List.length a.ports:Nat):Int)
  ·rw [decide_eq_true h1,Bool.not_true,if_neg (by simp),decide_eq_true ⟨by omega,h1⟩,Bool.true_and]
   cases levB a.kind a.level with
   |true=>rw [Bool.not_true,Vp a hd,Bool.true_and]
   |false=>rw [Bool.not_false,ht,Bool.false_and]
  ·rw [decide_eq_false h1,Bool.not_false,if_pos rfl,ht,decide_eq_false (fun h=>h1 h.2)]
   rfl
def T8:Nat→List Agent→Bool
 |_,[] =>true
 |i,x::l=>(agB x&&(decide (x.kind=1) == decide (i=0)))&&T8 (i+1) l
def agentsB (l:List Agent):Bool:=decide (1≤l.length∧l.length≤600)&&T8 0 l
def Agent.Small (a:Agent):Prop:=a.ports.length≤Big∧a.data.length≤Big
theorem Vq {n:Nat}:decide ((n:Int)=0)=decide (n=0):=by congr 1; exact propext (by omega)
theorem T9 (l:List Agent) (hl:l.length≤Big) (hs:∀a ∈ l,a.Small):∀ (post pre:List Agent) (n:Nat),l=pre++post→2*post.length<n→CT n l ((List.length pre:Nat):Int)=some (T8 pre.length post):=by
 intro post
 induction post with
 |nil=>
  intro pre n h hn
  obtain⟨n,rfl⟩:∃m,n=m+1:=⟨n - 1,by omega⟩
  rw [CT,CU h]; rfl
 | cons x post ih=>
  intro pre n h hn
  simp only [List.length_cons] at hn
  obtain⟨n,rfl⟩:∃m,n=m+2:=⟨n - 2,by omega⟩
  obtain⟨h1,h2⟩:=hs x (by rw [h]; simp)
  rw [CT,if_pos (CG h),BO h,AA,ZN x h1 h2,AA,AA,Dq,Dq,Ax h hl,ih (pre++[x]) n (Ae h) (by omega),T8,Vq]
  cases agB x
  ·rfl
  ·cases (decide (x.kind=1) == decide (pre.length=0))
   ·rfl
   ·simp
theorem XA (l:List Agent) (hl:l.length≤Big) (hs:∀a ∈ l,a.Small):H8 l=some (agentsB l):=by
 unfold H8 agentsB
 rw [Fi,AA]
 have:=T9 l hl hs l [] fuel rfl (by rw [Ah]; unfold Big at hl; omega)
 simp only [List.length_nil,Int.natCast_zero] at this
 rw [this]
 have e:decide (1≤((List.length l:Nat):Int)∧((List.length l:Nat):Int)≤600)=decide (1≤l.length∧l.length≤600):=by congr 1; exact propext (by omega)
 rw [e]
 cases decide (1≤l.length∧l.length≤600) <;> rfl
theorem UA (l:List Agent) (hl:l.length≤Big) (hs:∀a ∈ l,a.Small):∀ (post pre:List Agent) (n:Nat),l=pre++post→2*post.length<n→CS n l ((List.length pre:Nat):Int)=some (T8 pre.length post):=by
 intro post
 induction post with
 |nil=>
  intro pre n h hn
  obtain⟨n,rfl⟩:∃m,n=m+1:=⟨n - 1,by omega⟩
  rw [CS,CU h]; rfl
 | cons x post ih=>
  intro pre n h hn
  simp only [List.length_cons] at hn
  obtain⟨n,rfl⟩:∃m,n=m+2:=⟨n - 2,by omega⟩
  obtain⟨h1,h2⟩:=hs x (by rw [h]; simp)
  rw [CS,if_pos (CG h),BO h,AA,ZO x h1 h2,AA,Dp,Dp,Ax h hl,ih (pre++[x]) n (Ae h) (by omega),T8,Vq]
  cases agB x
  ·rfl
  ·cases (decide (x.kind=1) == decide (pre.length=0))
   ·rfl
   ·simp
theorem XB (l:List Agent) (hl:l.length≤Big) (hs:∀a ∈ l,a.Small):H6 l=some (agentsB l):=by
 have h4:=UA l hl hs l [] fuel rfl (by rw [Ah]; unfold Big at hl; omega)
 simp only [List.length_nil,Int.natCast_zero] at h4
 unfold H6 agentsB
 rw [Ee,Ee,h4]
 by_cases h1:1≤l.length
 ·have e1:¬ ((List.length l:Nat):Int)<1:=by omega
  by_cases h2:l.length≤600
  ·have e2:¬ (600:Int)<((List.length l:Nat):Int):=by omega
   simp [e1,e2,h1,h2]
  ·have e2:(600:Int)<((List.length l:Nat):Int):=by omega
   simp [e1,e2,h1,h2]
 ·have e1:((List.length l:Nat):Int)<1:=by omega
  simp [e1,h1]
def FM (l:List Agent) (p:Port):Option Port:=(at? l p.agent).bind fun y=>at? y.ports p.slot
def TX (l:List Agent) (i k:Nat) (p:Port):Bool:= !(decide (p.agent=i)&&decide (p.slot=k))&&match FM l p with
 |some q=>decide (q.agent=i)&&decide (q.slot=k)
 |none=>false
def He (l:List Agent) (i:Nat):Nat→List Port→Bool
 |_,[] =>true
 |k,p::ps=>TX l i k p&&He l i (k+1) ps
def FG (l:List Agent):Nat→List Agent→Bool
 |_,[] =>true
 |i,x::xs=>He l i 0 x.ports&&FG l (i+1) xs
def Net.valid (n:Net):Bool:=agentsB n.agents&&FG n.agents 0 n.agents
theorem K7 {α:Type} {l:List α} {i:Int} (h:¬ (0≤i∧i<(l.length:Int))):at? l i=none:=by
 unfold at?
 split
 ·rw [List.getElem?_eq_none]; omega
 ·rfl
theorem Ef {α:Type} {l:List α} {i:Int} (h:0≤i∧i<(l.length:Int)):∃x,at? l i=some x∧x ∈ l:=by
 unfold at?
 rw [if_pos h.1]
 have:i.toNat<l.length:=by omega
 exact⟨l[i.toNat],by rw [List.getElem?_eq_getElem this],List.getElem_mem this⟩
theorem bV (l:List Agent) (p:Port) (hl:l.length≤Big) (hs:∀a ∈ l,a.Small):KX l p=some (FM l p).isSome :=by
 unfold KX FM
 rw [Fi,AA,w64 (by omega) (by unfold Big at hl; omega)]
 by_cases h:0≤p.agent∧p.agent<(l.length:Int)
 ·obtain⟨y,hy,hm⟩:=Ef h
  rw [decide_eq_true ⟨h.1,by omega⟩,if_pos rfl,hy,AA,AA,Fi,AA]
  have:=(hs y hm).1
  rw [w64 (by omega) (by unfold Big at this; omega)]
  by_cases h2:0≤p.slot∧p.slot<(y.ports.length:Int)
  ·obtain⟨q,hq,-⟩:=Ef h2
   rw [decide_eq_true ⟨h2.1,by omega⟩,hq]; rfl
  ·rw [decide_eq_false (by omega),K7 h2]; rfl
 ·rw [decide_eq_false (by omega),K7 h]; rfl
theorem XC (l:List Agent) (p:Port):KV l p=some (FM l p).isSome :=by
 unfold KV FM
 by_cases h:0≤p.agent∧p.agent<(l.length:Int)
 ·obtain⟨y,hy,hm⟩:=Ef h
  rw [decide_eq_true h.1,if_pos rfl,decide_eq_true h.2,if_pos rfl,hy,AA,AA]
  by_cases h2:0≤p.slot
  ·rw [decide_eq_true h2,if_pos rfl]
   by_cases h3:p.slot<(y.ports.length:Int)
   ·obtain⟨q,hq,-⟩:=Ef ⟨h2,h3⟩
    rw [decide_eq_true h3,hq]; rfl
   ·rw [decide_eq_false h3,K7 (fun h=>h3 h.2)]; rfl
  ·rw [decide_eq_false h2,if_neg (by simp),K7 (fun h=>h2 h.1)]; rfl
 ·rw [K7 h]
  by_cases h1:0≤p.agent
  ·have h2:¬p.agent<(l.length:Int):=fun h3=>h ⟨h1,h3⟩
   simp [h1,h2]
  ·simp [h1]
theorem Vr (n:Net) (hl:n.agents.length≤Big) (hs:∀a ∈ n.agents,a.Small) (i:Nat) (x:Agent) (hx:x.Small) (R:Bool) (N:Nat) (hR:∀m,N≤m→ET m n (IntKind.i64.wrap ((i:Int)+1))=some R):
  ∀ (post pre:List Port) (m:Nat),x.ports=pre++post→2*post.length+1+N≤m→Ep m n (i:Int) x ((List.length pre:Nat):Int)=some (He n.agents i pre.length post&&R):=by
 intro post
 induction post with
 |nil=>
  intro pre m h hm
  simp only [List.length_nil] at hm
  obtain⟨m,rfl⟩:∃k,m=k+1:=⟨m - 1,by omega⟩
  rw [Ep,CU h,if_neg (by simp),hR m (by omega),He]; rfl
 | cons p post ih=>
  intro pre m h hm
  simp only [List.length_cons] at hm
  obtain⟨m,rfl⟩:∃k,m=k+2:=⟨m - 2,by omega⟩
  have h13:∀b,Er (m+1) n (i:Int) ((List.length pre:Nat):Int) x b=some (!b&&(He n.agents i (pre.length+1) post&&R)):=fun b=>by
   rw [Er,Ax h hx.1,ih (pre++[p]) m (Ae h) (by omega),List.length_append,List.length_singleton]
   cases b <;> simp
  rw [Ep,if_pos (CG h),BO h,AA,h13,bV n.agents p hl hs,AA,He,TX]
  cases (decide (p.agent=(i:Int))&&decide (p.slot=((List.length pre:Nat):Int))) with
  |true=>simp
  | false=>
   rw [if_neg (by simp)]
   cases hp:FM n.agents p with
   |none=>simp
   |some q=>
    unfold FM at hp
    simp only [Option.bind_eq_some_iff] at hp
    obtain⟨y,hy,hq⟩:=hp
    rw [hy,AA,hq,AA,h13]
    simp [Bool.and_assoc]
theorem bW (n:Net) (hl:n.agents.length≤Big) (hs:∀a ∈ n.agents,a.Small):∀ (post pre:List Agent) (m:Nat),n.agents=pre++post→2*szl (fun a=>a.ports.length) post+1≤m→ET m n ((List.length pre:Nat):Int)=some (FG n.agents pre.length post):=by
 intro post
 induction post with
 |nil=>
  intro pre m h hm
  obtain⟨m,rfl⟩:∃k,m=k+1:=⟨m - 1,by omega⟩
  rw [ET,CU h]; rfl
 |cons x post ih=>
  intro pre m h hm
  simp only [szl] at hm
  obtain⟨m,rfl⟩:∃k,m=k+1:=⟨m - 1,by omega⟩
  rw [ET,if_pos (CG h),BO h,AA,FG]
  refine Vr n hl hs pre.length x (hs x (by rw [h]; simp)) _ (2*szl (fun a=>a.ports.length) post+1) (fun k hk=>?_) x.ports [] m rfl (by omega)
  rw [Ax h hl,ih (pre++[x]) k (Ae h) hk,List.length_append,List.length_singleton]
def Net.Small (n:Net):Prop:=szl (fun a=>a.ports.length) n.agents≤Big∧∀a ∈ n.agents,a.data.length≤Big
theorem Net.Small.agents {n:Net} (h:n.Small):n.agents.length≤Big∧∀a ∈ n.agents,a.Small:=
 ⟨Nat.le_trans (FL (fun a=>a.ports.length) _) h.1,fun a ha=>⟨by have:=HJ (s:=fun a:Agent=>a.ports.length) ha; have:=h.1; omega,h.2 a ha⟩⟩
theorem YC (n:Net) (h:n.Small):K3 n=some n.valid:=by
 obtain⟨hl,hs⟩:=h.agents
 unfold K3 Net.valid
 rw [XA _ hl hs,AA]
 have:=bW n hl hs n.agents [] fuel rfl (by rw [Ah]; have:=h.1; unfold Big at this; omega)
 simp only [List.length_nil,Int.natCast_zero] at this
 rw [this]
 cases agentsB n.agents <;> simp
def Hf (i:Nat):Nat→List Port→List Port
 |_,[] =>[]
 |k,_::ps=>⟨(i:Int),(k:Int)⟩::Hf i (k+1) ps
def ED:Nat→List Agent→List Port
 |_,[] =>[]
 |i,x::xs=>Hf i 0 x.ports++ED (i+1) xs
theorem No (i:Nat):∀ (ps:List Port) (k:Nat),(Hf i k ps).length =ps.length
 | [],_=>rfl
 |_::ps,k=>by rw [Hf,List.length_cons,No i ps,List.length_cons]
theorem Oc:∀ (l:List Agent) (i:Nat),(ED i l).length ≤szl (fun a=>a.ports.length) l
 | [],_=>by simp [ED,szl]
 |x::l,i=>by
  have:=Oc l (i+1)
  simp only [ED,szl,List.length_append,No]; omega
theorem dr (n:Net) (i:Nat) (x:Agent) (hx:x.Small) (Z:List Port) (N:Nat):
  ∀ (post pre:List Port) (acc:List Port) (m:Nat),x.ports=pre++post→acc.length+post.length≤Big→(∀m,N≤m→B5 m n (acc++Hf i pre.length post) (IntKind.i64.wrap ((i:Int)+1))=some Z)→post.length+1+N≤m→C1 m n (i:Int) x acc ((List.length pre:Nat):Int)=some Z:=by
 intro post
 induction post with
 |nil=>
  intro pre acc m h hacc hR hm
  simp only [List.length_nil] at hm
  obtain⟨m,rfl⟩:∃k,m=k+1:=⟨m - 1,by omega⟩
  rw [C1,CU h,if_neg (by simp)]
  have:=hR m (by omega)
  simpa [Hf] using this
 |cons p post ih=>
  intro pre acc m h hacc hR hm
  simp only [List.length_cons] at hm hacc
  obtain⟨m,rfl⟩:∃k,m=k+1:=⟨m - 1,by omega⟩
  rw [C1,if_pos (CG h),C2 (by simp; omega),AA,Ax h hx.1]
  refine ih (pre++[p]) _ m (Ae h) (by simp; omega) (fun k hk=>?_) (by omega)
  have:=hR k hk
  simp only [Hf] at this
  simp only [List.length_append,List.length_singleton,List.append_assoc,List.cons_append,List.nil_append]
  exact this
theorem dt (n:Net) (hl:n.agents.length≤Big) (hs:∀a ∈ n.agents,a.Small):∀ (post pre:List Agent) (acc:List Port) (m:Nat),n.agents=pre++post→acc.length+szl (fun a=>a.ports.length) post≤Big→2*szl (fun a=>a.ports.length) post+1≤m→B5 m n acc ((List.length pre:Nat):Int)=some (acc++ED pre.length post):=by
 intro post
 induction post with
 |nil=>
  intro pre acc m h hacc hm
  obtain⟨m,rfl⟩:∃k,m=k+1:=⟨m - 1,by omega⟩
  rw [B5,CU h]; simp [ED]
 |cons x post ih=>
  intro pre acc m h hacc hm
  simp only [szl] at hm hacc
  obtain⟨m,rfl⟩:∃k,m=k+1:=⟨m - 1,by omega⟩
  rw [B5,if_pos (CG h),BO h,AA]
  refine dr n pre.length x (hs x (by rw [h]; simp)) _ (2*szl (fun a=>a.ports.length) post+1) x.ports [] acc m rfl (by omega) (fun k hk=>?_) (by omega)
  rw [Ax h hl,ih (pre++[x]) _ k (Ae h) (by simp [No]; omega) hk,List.length_append,List.length_singleton,ED,List.append_assoc]
  rfl
theorem UB (n:Net) (h:n.Small):H7 n=some (ED 0 n.agents):=by
 obtain⟨hl,hs⟩:=h.agents
 unfold H7
 have:=dt n hl hs n.agents [] [] fuel rfl (by have:=h.1; simp; exact this) (by rw [Ah]; have:=h.1; unfold Big at this; omega)
 simpa using this
def ZP (l:List Agent) (p:Port):Bool:=match FM l p with
 |some q=> !TX l p.agent.toNat p.slot.toNat q
 |none=>true
theorem XD (n:Net) (i k:Nat) (q:Port) (hq:FM n.agents ⟨(i:Int),(k:Int)⟩=some q):HH ⟨(i:Int),(k:Int)⟩ n=some (ZP n.agents ⟨(i:Int),(k:Int)⟩):=by
 have hpeer:∀ (p r:Port),FM n.agents p=some r→DB n p=some r:=fun p r h=>by
  unfold FM at h
  simp only [Option.bind_eq_some_iff] at h
  obtain⟨y,hy,hr⟩:=h
  unfold DB
  rw [hy,AA,hr]; rfl
 unfold HH ZP
 rw [hpeer _ _ hq,AA,hq,XC,AA]
 simp only [TX,Int.toNat_natCast]
 cases (decide (q.agent=(i:Int))&&decide (q.slot=(k:Int))) with
 |true=>simp
 |false=>
  cases hp:FM n.agents q with
  |none=>simp
  |some r=>rw [hpeer _ _ hp,AA]; simp
theorem UC (l:List Port) (f:Port→Option Bool) (p:Port→Bool) (hl:l.length≤Big) (hf:∀x ∈ l,f x=some (p x)):Bm l f=some (l.any p):=by
 obtain⟨i,h1,h2,-⟩:=K6 BB (fun n l i f=>by rw [BB]) l f p hl hf
 unfold Bm DP
 rw [h1,AA]
 congr 1
 rw [Bool.eq_iff_iff,decide_eq_true_eq]; exact h2
theorem YD {l pre post:List Agent} {x:Agent} {ppre ppost:List Port} {p:Port} (h:l=pre++x::post) (hx:x.ports=ppre++p::ppost):FM l ⟨((List.length pre:Nat):Int),((List.length ppre:Nat):Int)⟩=some p:=by
 unfold FM
 rw [BO h,Option.bind_some,BO hx]
theorem TY {l pre post:List Agent} {x:Agent} (h:l=pre++x::post):∀ (ps ppre:List Port),x.ports=ppre++ps→(Hf pre.length ppre.length ps).any (ZP l)= !He l pre.length ppre.length ps
 | [],_,_=>by simp [Hf,He]
 |p::ps,ppre,hx=>by
  have:=TY h ps (ppre++[p]) (Ae hx)
  rw [List.length_append,List.length_singleton] at this
  rw [Hf,He,List.any_cons,this,ZP,YD h hx]
  simp
theorem TZ {l pre post:List Agent} {x:Agent} (h:l=pre++x::post):∀ (ps ppre:List Port),x.ports=ppre++ps→∀y ∈ Hf pre.length ppre.length ps,∃ (i k:Nat) (q:Port),y=⟨(i:Int),(k:Int)⟩∧FM l ⟨(i:Int),(k:Int)⟩=some q
 | [],_,_,y,hy=>by simp [Hf] at hy
 |p::ps,ppre,hx,y,hy=>by
  rw [Hf,List.mem_cons] at hy
  rcases hy with rfl|hy
  ·exact⟨_,_,p,rfl,YD h hx⟩
  ·exact TZ h ps (ppre++[p]) (Ae hx) y (by rw [List.length_append,List.length_singleton]; exact hy)
theorem YE {l:List Agent}:∀ (post pre:List Agent),l=pre++post→(ED pre.length post).any (ZP l)= !FG l pre.length post
 | [],_,_=>by simp [ED,FG]
 |x::post,pre,h=>by
  have h1:=YE post (pre++[x]) (Ae h)
  rw [List.length_append,List.length_singleton] at h1
  have h2:=TY h x.ports [] rfl
  rw [List.length_nil] at h2
  rw [ED,FG,List.any_append,h1,h2]
  simp
theorem YF {l:List Agent}:∀ (post pre:List Agent),l=pre++post→∀y ∈ ED pre.length post,∃ (i k:Nat) (q:Port),y=⟨(i:Int),(k:Int)⟩∧FM l ⟨(i:Int),(k:Int)⟩=some q
 | [],_,_,y,hy=>by simp [ED] at hy
 |x::post,pre,h,y,hy=>by
  rw [ED,List.mem_append] at hy
  rcases hy with hy|hy
  ·exact TZ h x.ports [] rfl y hy
  ·exact YF post (pre++[x]) (Ae h) y (by rw [List.length_append,List.length_singleton]; exact hy)
theorem YG (n:Net) (h:n.Small):Hb n=some n.valid:=by
 obtain⟨hl,hs⟩:=h.agents
 unfold Hb Net.valid
 rw [XB _ hl hs,AA,UB n h,AA,UC _ _ (ZP n.agents) (Nat.le_trans (Oc _ _) h.1) (fun y hy=>by
  obtain⟨i,k,q,rfl,hq⟩:=YF n.agents [] rfl y hy
  exact XD n i k q hq),AA]
 have:=YE (l:=n.agents) n.agents [] rfl
 rw [List.length_nil] at this
 rw [this]
 cases agentsB n.agents <;> simp
end Go.Proofs.YtckcfdggbbabfaaGreat.Ab
