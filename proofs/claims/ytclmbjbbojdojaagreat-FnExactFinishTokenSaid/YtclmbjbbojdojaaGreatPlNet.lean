/-
  Plain lemmas for the laws about models: loops over lists, bounded arithmetic. No program is in sight.
-/
import Derived.Test.YtclmbjbbojdojaaGreatAbY
import Derived.Test.YtclmbjbbojdojaaGreatMod
import Derived.Test.YtclmbjbbojdojaaGreatModU
namespace Go.Proofs.YtclmbjbbojdojaaGreat.Ab
set_option linter.unusedVariables false
set_option linter.unusedSimpArgs false
open Go.RowKit
theorem w64 {n} (h1: -9223372036854775808≤n) (h2:n≤9223372036854775807):IntKind.i64.wrap n=n:=lj h1 h2
abbrev Big:Nat:=4294967296
section
variable {α:Type} {l pre post:List α} {x:α}
theorem CD (h:l=pre++x::post):decide ((pre.length:Int)<(l.length:Int))=true:=by
 subst h; simp only [List.length_append,List.length_cons,decide_eq_true_eq]; omega
theorem DF (h:l=pre++[]):decide ((pre.length:Int)<(l.length:Int))=false:=by
 subst h; simp
theorem Ak (h:l=pre++x::post):at? l (pre.length:Int)=some x:=by
 subst h
 unfold at?
 rw [if_pos (by omega)]
 simp
theorem AT (h:l=pre++x::post) (hl:l.length≤Big):IntKind.i64.wrap ((pre.length:Int)+1)=((List.length (pre++[x]):Nat):Int):=by
 subst h
 simp only [List.length_append,List.length_cons,List.length_nil,Big] at hl ⊢
 rw [w64 (by omega) (by omega)]
 omega
theorem Ba (h:l=pre++x::post):l=(pre++[x])++post:=by rw [h]; simp
theorem EF {a b:List α} (h:a.length+b.length≤Big):Es a b=some (a++b):=by
 unfold Es; rw [if_pos (by unfold Big at h; omega)]
theorem NO {z:α} {n:Nat} (h:n≤Big):rep? (n:Int) z=some (List.replicate n z):=by
 unfold rep?; rw [if_pos (by unfold Big at h; omega)]; simp
theorem jU {z} {k}:jN (pre++List.replicate (k+1) z) (pre.length:Int) x=(pre++[x])++List.replicate k z:=by
 unfold jN
 simp [List.replicate_succ]
theorem Yz {z} {k}:A4 (pre++List.replicate (k+1) z) (pre.length:Int) x=some ((pre++[x])++List.replicate k z):=by
 unfold A4; rw [jU]
theorem gL {z} {k}:at? (pre++List.replicate (k+1) z) (pre.length:Int)=some z:=by
 unfold at?
 rw [if_pos (by omega)]
 simp
end
theorem AA {α β:Type} {a:α} {k:α→Option β}:Option.bind (some a) k=k a:=rfl
def szr (z left:Nat):Int:=if z≤left then ((left - z:Nat):Int) else -1
theorem bv {z left}:decide (szr z left<0)=decide (left<z):=by
 unfold szr
 by_cases h:z≤left
 ·rw [if_pos h]; simp; omega
 ·rw [if_neg h]; simp; omega
theorem gM {z left} (h:z≤left):szr z left=((left - z:Nat):Int):=if_pos h
theorem mN {z left} (h:left<z):szr z left= -1:=if_neg (by omega)
theorem bw {n left:Nat} (h1:left≤1048576) (h2:n≤9223372036854775807):IntKind.i64.wrap ((left:Int) - (n:Int))=(left:Int) - n:=w64 (by omega) (by omega)
theorem Ku (l:List Int) (left:Nat) (h1:left≤1048576) (h2:l.length≤9223372036854775807):Ft l left=some (szr l.length left):=by
 unfold Ft
 rw [bw h1 h2]
 by_cases h:l.length≤left
 ·rw [if_neg (by simp; omega),gM h]; congr 1; omega
 ·rw [if_pos (by simp; omega),mN (by omega)]
theorem VY (l:List Int) (hl:l.length≤Big):∀ (post pre:List Int) (n:Nat),l=pre++post→post.length<n→EH n l (pre++List.replicate post.length 0) (pre.length:Int)=some l:=by
 intro post
 induction post with
 |nil=>
  intro pre n h hn
  obtain⟨n,rfl⟩:∃m,n=m+1:=⟨n - 1,by omega⟩
  rw [EH,DF h]; simp [h]
 |cons x post ih=>
  intro pre n h hn
  obtain⟨n,rfl⟩:∃m,n=m+1:=⟨n - 1,by omega⟩
  rw [EH,if_pos (CD h),Ak h,AA,List.length_cons,gL,AA,Yz,AA,AT h hl]
  exact ih (pre++[x]) n (Ba h) (by simp at hn; omega)
theorem Kv (l:List Int) (hl:l.length≤Big):Fu l=some l:=by
 unfold Fu
 rw [NO hl,AA]
 exact VY l hl l [] fuel (by simp) (by rw [Ax]; unfold Big at hl; omega)
set_option maxHeartbeats 1000000
def szl {α:Type} (s:α→Nat):List α→Nat
 | [] =>0
 |x::l=>1+s x+szl s l
theorem Aq {α:Type} (s:α→Nat):∀l:List α,l.length≤szl s l
 | [] =>by simp
 |x::l=>by rw [szl,List.length_cons]; have:=Aq s l; omega
theorem BD {α:Type} {s:α→Nat} {x:α}:∀ {l:List α},x ∈ l→s x<szl s l
 |y::l,h=>by
  rw [szl]
  rcases List.mem_cons.1 h with rfl|h
  ·omega
  ·have:=BD (s:=s) h; omega
theorem F8 {k:Int→Option Int} {z left rest:Nat} {X:Option Int} (hX:X=some (szr z left)) (hk:z≤left→k ((left - z:Nat):Int)=some (szr rest (left - z))):
  (Option.bind X fun v=>if decide (v<0)=true then some (-1) else k v)=some (szr (z+rest) left):=by
 rw [hX,AA,bv]
 grind [szr]
theorem Qd {k:Int→Option Int} {z left rest:Nat} (h1:left≤1048576) (h2:z≤9223372036854775807) (hk:z≤left→k ((left - z:Nat):Int)=some (szr rest (left - z))):
  (if decide (IntKind.i64.wrap ((left:Int) - (z:Int))<0)=true then some (-1) else k (IntKind.i64.wrap ((left:Int) - (z:Int))))=some (szr (z+rest) left):=by
 rw [bw h1 h2]
 grind [szr]
theorem LA {left}:some ((left:Nat):Int)=some (szr 0 left):=by rfl
theorem gSz {α:Type} (L:Nat→Int→Int→Option Int) (g:α→Int→Option Int) (s:α→Nat) (l:List α) (hL:∀n p i,L (n+1) p i=(if (decide (i<(l.length:Int)))=true then ((at? l i).bind fun x=>((g x p).bind fun v=>(if (decide (v<0))=true then (some (-1)) else (L n v (IntKind.i64.wrap (i+1)))))) else (some p)))
  (left:Nat) (h1:left≤1048576) (hg:∀x ∈ l,∀k:Nat,k≤1048576→g x k=some (szr (s x) k)) (hl:l.length≤9223372036854775807):
  (if decide (IntKind.i64.wrap ((left:Int) - (l.length:Int))<0)=true then some (-1) else L fuel (IntKind.i64.wrap ((left:Int) - (l.length:Int))) 0)=some (szr (szl s l) left):=by
 have hsz:=Aq s l
 have:=Qd (k:=fun v=>L fuel v 0) (rest:=szl s l - l.length) h1 hl fun h=>?_
 ·rw [show l.length+(szl s l - l.length)=szl s l from by omega] at this
  omega
 ·have loop:∀ (post pre:List α) (n l3:Nat),l=pre++post→l3≤left→post.length<n→L n l3 (pre.length:Int)=some (szr (szl s post - post.length) l3):=by
   intro post
   induction post with
   |nil=>
    intro pre n l3 h _ hn
    obtain⟨n,rfl⟩:∃m,n=m+1:=⟨n - 1,by omega⟩
    rw [hL,DF h]
    rfl
   | cons x post ihp=>
    intro pre n l3 hh h4 hn
    obtain⟨n,rfl⟩:∃m,n=m+1:=⟨n - 1,by omega⟩
    have hx:x ∈ l:=by rw [hh]; simp
    have hp:=Aq s post
    rw [hL,if_pos (CD hh),Ak hh,AA]
    have e:=F8 (k:=fun v=>L n v (IntKind.i64.wrap ((pre.length:Int)+1))) (rest:=szl s post - post.length) (hg x hx l3 (by omega)) fun h5=>by
     rw [AT hh (by grind)]
     grind
    rw [szl,List.length_cons,show 1+s x+szl s post - (post.length+1)=s x+(szl s post - post.length) from by omega]
    exact e
  exact loop l [] fuel (left - l.length) (by simp) (by omega) (by rw [Ax]; omega)
theorem gTo {α:Type} (L:Nat→List α→Int→Option (List α)) (g:α→Option α) (z:α) (l:List α) (hL:∀n acc i,L (n+1) acc i=(if (decide (i<(l.length:Int)))=true then ((at? l i).bind fun x=>((g x).bind fun y=>((at? acc i).bind fun _=>((A4 acc i y).bind fun z=>(L n z (IntKind.i64.wrap (i+1))))))) else (some acc)))
  (hl:l.length≤Big) (hg:∀x ∈ l,g x=some x):((rep? (l.length:Int) z).bind fun acc=>L fuel acc 0)=some l:=by
 have loop:∀ (post pre:List α) (n:Nat),l=pre++post→post.length<n→L n (pre++List.replicate post.length z) (pre.length:Int)=some l:=by
  intro post
  induction post with
  |nil=>
   intro pre n h hn
   obtain⟨n,rfl⟩:∃m,n=m+1:=⟨n - 1,by omega⟩
   rw [hL,DF h]; simp [h]
  |cons x post ih=>
   intro pre n h hn
   obtain⟨n,rfl⟩:∃m,n=m+1:=⟨n - 1,by omega⟩
   rw [hL,if_pos (CD h),Ak h,AA,hg x (by rw [h]; simp),AA,List.length_cons,gL,AA,Yz,AA,AT h hl]
   grind
 rw [NO hl,AA]
 exact loop l [] fuel (by simp) (by rw [Ax]; grind)
def Bu (o:Option Bool) (p:Prop):Prop:=∃b,o=some b∧(b=true↔p)
theorem Bu.mk {b} {p:Prop} (h:b=true↔p):Bu (some b) p:=⟨b,rfl,h⟩
theorem Bu.iff {o} {p q:Prop} (h:Bu o p) (hpq:p↔q):Bu o q:=by
 grind
theorem Bu.true {o} {p:Prop} (h:Bu o p) (hp:p):o=some true:=by
 obtain⟨b,rfl,h1⟩:=h
 rw [h1.2 hp]
theorem C2 {b} {X} {p q:Prop} (h:b=true↔p) (hX:p→Bu X q):Bu (if (!b)=true then some false else X) (p∧q):=by
 cases b with
 |true=>grind
 |false=>exact⟨false,rfl,⟨fun k=>Bool.noConfusion k,fun k=>h.2 k.1⟩⟩
theorem aP {o} {k} {p r:Prop} (h:Bu o p) (hk:∀b,(b=true↔p)→Bu (k b) r):Bu (Option.bind o k) r:=by
 obtain⟨b,rfl,h1⟩:=h
 grind
theorem Af {o} {X} {p q:Prop} (h:Bu o p) (hX:p→Bu X q):Bu (Option.bind o fun b=>if (!b)=true then some false else X) (p∧q):=
 aP h fun b hb=>C2 hb hX
theorem F9:Bu (some true) True:=.mk (by simp)
theorem IS {p:Prop} [Decidable p] :decide p=true↔p:=decide_eq_true_iff
theorem jV {α β:Type} {l:List α} {m:List β}:decide ((l.length:Int)=(m.length:Int))=true↔l.length=m.length:=by
 rw [decide_eq_true_iff]; omega
theorem gEq {α:Type} (L:Nat→Int→Option Bool) (f:α→α→Option Bool) (l m:List α) (hL:∀n i,L (n+1) i=(if (decide (i<(l.length:Int)))=true then ((at? l i).bind fun x=>((at? m i).bind fun y=>((f x y).bind fun v=>(if (!v)=true then (some false) else (L n (IntKind.i64.wrap (i+1))))))) else (some true)))
  (hl:l.length≤Big) (hlen:l.length=m.length) (hf:∀x ∈ l,∀y ∈ m,Bu (f x y) (x=y)):Bu (L fuel 0) (l=m):=by
 have loop:∀ (post post' pre pre':List α) (n:Nat),l=pre++post→m=pre'++post'→pre.length=pre'.length→post.length<n→Bu (L n (pre.length:Int)) (post=post'):=by
  intro post
  induction post with
  |nil=>
   intro post' pre pre' n h h' hpp hn
   obtain⟨n,rfl⟩:∃m,n=m+1:=⟨n - 1,by omega⟩
   rw [hL,DF h]
   obtain rfl:post'=[] :=List.eq_nil_of_length_eq_zero (by rw [h,h'] at hlen; grind)
   exact .mk (by simp)
  | cons x post ih=>
   intro post' pre pre' n h h' hpp hn
   obtain⟨n,rfl⟩:∃m,n=m+1:=⟨n - 1,by omega⟩
   cases post' with
   |nil=>rw [h,h'] at hlen; grind
   |cons y post'=>
    rw [hL,if_pos (CD h),Ak h,AA,hpp,Ak h',AA,← hpp,AT h hl]
    refine(Af (hf x (by rw [h]; simp) y (by rw [h']; simp)) fun _=>ih post' (pre++[x]) (pre'++[y]) n (Ba h) (Ba h') (by grind) (by grind)).iff ?_
    simp
 exact loop l m [] [] fuel (by simp) (by simp) rfl (by rw [Ax]; grind)
theorem VZ {α:Type} (L:Nat→Int→Option Bool) (f:α→α→Option Bool) (l m:List α) (hL:∀n i,L (n+1) i=(if (decide (i<(l.length:Int)))=true then ((at? l i).bind fun x=>((at? m i).bind fun y=>((f x y).bind fun v=>(if (!v)=true then (some false) else (L n (IntKind.i64.wrap (i+1))))))) else (some true)))
  (hl:l.length≤Big) (hf:∀x ∈ l,∀y ∈ m,Bu (f x y) (x=y)):Bu (if (!decide ((l.length:Int)=(m.length:Int)))=true then some false else L fuel 0) (l=m):=
 (C2 jV fun h=>gEq L f l m hL hl h hf).iff ⟨fun h=>h.2,fun h=>⟨by rw [h],h⟩⟩
theorem IT (l m:List Int) (hl:l.length≤Big):Bu (Fv l m) (l=m):=by
 unfold Fv
 exact VZ (fun n i=>FD n l m i) (fun x y=>some (decide (x=y))) l m (fun n i=>by rw [FD]; rfl) hl fun x _ y _=>.mk IS
theorem XP (s:ByteArray):bY s s=true:=by grind [bY]
theorem mO {k:Int→Option Bool} {z left:Nat} {X:Option Int} (hX:X=some (szr z left)) (hk:z≤left→k ((left - z:Nat):Int)=some true):
  (Option.bind X fun v=>if decide (v<0)=true then some true else k v)=some true:=by
 rw [hX,AA,bv]
 grind [gM]
set_option maxRecDepth 20000
set_option maxHeartbeats 4000000
theorem Qe {α:Type} (L:Nat→List α→Int→(α→Option Bool)→Option Int) (hL:∀n l i f,L (n+1) l i f=(if (decide (i<(l.length:Int)))=true then ((at? l i).bind fun x=>((f x).bind fun b=>(if b=true then (some i) else (L n l (IntKind.i64.wrap (i+1)) f)))) else (some (-1))))
  (l:List α) (f:α→Option Bool) (p:α→Bool) (hl:l.length≤Big) (hf:∀x ∈ l,f x=some (p x)):∃i:Int,L fuel l 0 f=some i∧(0≤i↔l.any p=true)∧(l.any p=false→i= -1):=by
 have loop:∀ (post pre:List α) (n:Nat),l=pre++post→post.length<n→∃i:Int,L n l (pre.length:Int) f=some i∧(0≤i↔post.any p=true)∧(post.any p=false→i= -1):=by
  intro post
  induction post with
  |nil=>
   intro pre n h hn
   obtain⟨n,rfl⟩:∃m,n=m+1:=⟨n - 1,by omega⟩
   rw [hL,DF h]
   exact⟨-1,rfl,by simp,fun _=>rfl⟩
  | cons x post ih=>
   intro pre n h hn
   obtain⟨n,rfl⟩:∃m,n=m+1:=⟨n - 1,by omega⟩
   rw [hL,if_pos (CD h),Ak h,AA,hf x (by rw [h]; simp),AA]
   by_cases hp:p x=true
   ·rw [if_pos hp]
    exact⟨_,rfl,by simp [hp],by simp [hp]⟩
   ·rw [if_neg hp,AT h hl]
    obtain⟨i,h1,h2,h3⟩:=ih (pre++[x]) n (Ba h) (by simp at hn; omega)
    have hp':p x=false:=by simpa using hp
    exact⟨i,h1,by simpa [hp'] using h2,by simpa [hp'] using h3⟩
 exact loop l [] fuel (by simp) (by rw [Ax]; unfold Big at hl; omega)
theorem Y0 (l:List Int) (f:Int→Option Bool) (p:Int→Bool) (hl:l.length≤Big) (hf:∀x ∈ l,f x=some (p x)):BC l f=some (l.any p):=by
 obtain⟨i,h1,h2,-⟩:=Qe Ap (fun n l i f=>by rw [Ap]) l f p hl hf
 unfold BC F1
 rw [h1,AA]
 congr 1
 rw [Bool.eq_iff_iff,decide_eq_true_eq]; exact h2
def IU (n:Int):Bool:=decide (0≤n∧n≤23)
theorem Ee (n a b:Int):CK n a b=some (decide (a≤n∧n≤b)):=by
 unfold CK
 by_cases h:a≤n <;> simp [h]
theorem gN (n:Int):N8 n=some (decide (-2147483648≤n∧n≤2147483647)):=by
 unfold N8
 by_cases h: -2147483648≤n <;> simp [h]
theorem Va (n:Int):G5 n=some (decide (1≤n∧n≤6)):=by
 unfold G5
 by_cases h:1≤n <;> simp [h]
theorem Oj (n:Int):G4 n=some (IU n):=by
 unfold G4 IU
 by_cases h:0≤n
 ·simp [h]; omega
 ·simp [h]
theorem jW {l:List Int}:l.any (fun k=> !IU k)= !l.all IU:=by
 induction l with
 |nil=>rfl
 |cons x xs ih=>simp only [List.any_cons,List.all_cons,ih,Bool.not_and]
theorem kind_cases (k:Int):k=1∨k=2∨k=3∨k=4∨k=5∨k=6∨k=7∨k=8∨k=9∨k=10∨k=11∨k=12∨(k<1∨12<k):=by omega
def ports (k f:Int):Int:=
 if k=9 then (if 0≤f∧f≤3 then f+1 else 0) else if f≠0 then 0
 else if k=1∨k=5∨k=6∨k=12 then 1 else if k=8∨k=10∨k=11 then 2 else if k=2∨k=3∨k=4∨k=7 then 3 else 0
theorem Wm {k:Int} (h:k<1∨12<k):k≠1∧k≠2∧k≠3∧k≠4∧k≠5∧k≠6∧k≠7∧k≠8∧k≠9∧k≠10∧k≠11∧k≠12:=by omega
theorem dp (k f:Int):Js k f=some (ports k f):=by
 have hw:0≤f∧f≤3→IntKind.i64.wrap (1+f)=f+1:=fun h=>by rw [w64 (by omega) (by omega)]; omega
 by_cases hf:f=0
 ·subst hf
  rcases kind_cases k with h|h|h|h|h|h|h|h|h|h|h|h|h
  all_goals first|(subst h; rfl)|skip
  grind [Wm,Js,F5,G6,F4,ports]
 grind [Js,Ee,ports]
theorem N9 (k:Int):KL k=some (decide (1≤k∧k≤12)):=by
 unfold KL
 by_cases h:1≤k <;> simp [h]
theorem dq (k f:Int):Jr k f=some (ports k f):=by
 have hw:0≤f∧f≤3→IntKind.i64.wrap (f+1)=f+1:=fun h=>w64 (by omega) (by omega)
 by_cases hf:f=0
 ·subst hf
  rcases kind_cases k with h|h|h|h|h|h|h|h|h|h|h|h|h
  all_goals first|(subst h; rfl)|skip
  grind [Jr,F3,F2,ports,N9]
 grind [Jr,F3,ports,F2,N9]
def levB (k l:Int):Bool:=decide (1≤k∧k≤12)&&if k=1∨k=5∨k=6 then decide (l=0) else decide (0≤l∧l≤8)
theorem dr (k l:Int):Io k l=some (levB k l):=by
 rcases kind_cases k with h|h|h|h|h|h|h|h|h|h|h|h|h
 all_goals first|(subst h; simp [Io,KN,Bm,Lh,levB,Ee,AA]; done)|skip
 grind [Wm,Io,KN,Bm,Lh,levB,Ee]
theorem Y1 (k l:Int):Ht k l=some (levB k l):=by
 have hl:decide (l=0)=true∨decide (l=0)=false:=by cases decide (l=0) <;> simp
 rcases kind_cases k with h|h|h|h|h|h|h|h|h|h|h|h|h
 all_goals first|(subst h; by_cases h0:l=0 <;> by_cases h1:0≤l <;> simp [Ht,N9,MG,N7,levB,AA,h0,h1]; done)|skip
 grind [Ht,N9,levB]
def Wn (a:Agent):Bool:=
 if a.kind=6 then decide (a.data.length=0)&&decide (-2147483648≤a.value∧a.value≤2147483647)
 else if a.kind=7 then decide (a.data.length=0)&&decide (1≤a.value∧a.value≤6)
 else if a.kind=8 then decide (a.data.length=1)&&decide (1≤a.value∧a.value≤6)&&a.data.all fun d=>decide (-2147483648≤d∧d≤2147483647)
 else if a.kind=9 then decide (a.data.length=0)&&decide (0≤a.value∧a.value≤3)
 else if a.kind=12 then decide (a.data.length=0)&&IU a.value
 else if a.kind=10 then decide (a.value=0)&&decide (1≤a.data.length∧a.data.length≤4)&&a.data.all IU
 else if a.kind=11 then decide (a.value=0)&&decide (a.data.length=2)&&a.data.all IU
 else decide (a.value=0)&&decide (a.data.length=0)
theorem Wo (n:Int):KO n=some (IU n):=by
 unfold KO
 rw [Ee,AA]; rfl
theorem pq {α:Type} (L:Nat→Int→Option Bool) (f:α→Option Bool) (p:α→Bool) (l:List α) (hL:∀n i,L (n+1) i=(if (decide (i<(l.length:Int)))=true then ((at? l i).bind fun x=>((f x).bind fun v=>(if (!v)=true then (some false) else (L n (IntKind.i64.wrap (i+1)))))) else (some true)))
  (hl:l.length≤Big) (hf:∀x ∈ l,f x=some (p x)):L fuel 0=some (l.all p):=by
 have loop:∀ (post pre:List α) (n:Nat),l=pre++post→post.length<n→L n (pre.length:Int)=some (post.all p):=by
  intro post
  induction post with
  |nil=>
   intro pre n h hn
   obtain⟨n,rfl⟩:∃m,n=m+1:=⟨n - 1,by omega⟩
   rw [hL,DF h]; simp
  |cons x post ih=>
   intro pre n h hn
   obtain⟨n,rfl⟩:∃m,n=m+1:=⟨n - 1,by omega⟩
   rw [hL,if_pos (CD h),Ak h,AA,hf x (by rw [h]; simp),AA,AT h hl,List.all_cons]
   grind
 exact loop l [] fuel rfl (by rw [Ax]; grind)
theorem pr {α:Type} {l:List α}:decide ((l.length:Int)=0)=decide (l.length=0):=by grind
theorem pv {α:Type} {l:List α}:decide ((l.length:Int)=1)=decide (l.length=1):=by grind
theorem pw {α:Type} {l:List α}:decide ((l.length:Int)=2)=decide (l.length=2):=by grind
theorem kJ {α:Type} {l:List α}:decide (1≤(l.length:Int)∧(l.length:Int)≤4)=decide (1≤l.length∧l.length≤4):=by grind
theorem Y2 (a:Agent) (hd:a.data.length≤Big):DA fuel a 0=some (a.data.all IU):=
 pq (fun n i=>DA n a i) KO IU a.data (fun n i=>by rw [DA]) hd fun x _=>Wo x
theorem Y3 (a:Agent) (hd:a.data.length≤Big):IE a=some (Wn a):=by
 have h3:=Y2 a hd
 unfold IE Wn
 rcases kind_cases a.kind with h|h|h|h|h|h|h|h|h|h|h|h|h
 all_goals try simp only [h,GF,CZ,Ee,Wo,AA,h3,pr,pv,pw,kJ,eq_self,decide_true,reduceIte,Int.reduceEq,decide_false,Bool.false_eq_true]
 all_goals first|(by_cases h0:a.value=0 <;> by_cases h1:a.data.length=0 <;> simp [h0,h1]; done)|skip
 ·match hdd:a.data with
  | [] =>simp
  | [d] =>by_cases h1:1≤a.value∧a.value≤6 <;> simp [at?,h1]
  |d::e::l=>simp
 ·cases decide (a.value=0) <;> cases decide (1≤a.data.length∧a.data.length≤4) <;> simp
 ·cases decide (a.value=0) <;> cases decide (a.data.length=2) <;> simp
 grind
theorem gO {l:List Int}:l.any (fun k=> !IU k)= !l.all IU:=jW
theorem gP (l:List Int) (hl:l.length≤Big):BC l (fun y0=>Gk y0)=some (!l.all IU):=by
 rw [Y0 l _ (fun k=> !IU k) hl (fun x _=>by unfold Gk; rw [Oj,AA]),gO]
def agB (a:Agent):Bool:=decide (0<a.ports.length∧ports a.kind (if a.kind=9 then (a.ports.length:Int) - 1 else 0)=(a.ports.length:Int))&&levB a.kind a.level&&Wn a
theorem dt (a:Agent) (hp:a.ports.length≤Big) (hd:a.data.length≤Big):KH a=some (agB a):=by
 have hf:JH a=some (if a.kind=9 then (a.ports.length:Int) - 1 else 0):=by
  grind [JH,w64]
 unfold KH agB
 rw [hf,AA,dp,AA,dr,Y3 a hd]
 generalize ports a.kind _=p
 by_cases h:0<a.ports.length∧p=(a.ports.length:Int)
 ·obtain⟨h1,rfl⟩:=h
  have h2:(0:Int)<(a.ports.length:Int):=by omega
  cases levB a.kind a.level <;> simp [h1,h2,AA]
 ·by_cases h1:(0:Int)<p
  ·have h2:¬ ((a.ports.length:Int)=p):=by omega
   grind
  ·simp [h,h1]
theorem px (x y:Bool):A0 x y=some (x&&y):=by cases x <;> simp [A0]
theorem Y4 (a:Agent) (hd:a.data.length≤Big):C9 a false=some (Wn a):=by
 unfold C9 Wn
 rw [if_neg (by simp),gP a.data hd,AA]
 rcases kind_cases a.kind with h|h|h|h|h|h|h|h|h|h|h|h|h
 all_goals try simp only [h,px,gN,Va,Oj,AA,pr,pv,pw,eq_self,decide_true,reduceIte,Int.reduceEq,decide_false,Bool.false_eq_true,Bool.not_not]
 all_goals first|(by_cases h0:a.value=0 <;> by_cases h1:a.data.length=0 <;> simp [h0,h1]; done)|skip
 ·match hdd:a.data with
  | [] =>simp
  | [d] =>by_cases h1:1≤a.value∧a.value≤6 <;> simp [at?,h1]
  |d::e::l=>simp
 ·grind
 ·by_cases h1:1≤a.data.length <;> by_cases h2:a.data.length≤4
  ·have e1:(1:Int)≤(a.data.length:Int):=by omega
   have e2:(a.data.length:Int)≤4:=by omega
   grind
  ·have e2:¬ (a.data.length:Int)≤4:=by omega
   grind
  ·have e1:¬ (1:Int)≤(a.data.length:Int):=by omega
   grind
  omega
 ·cases decide (a.value=0) <;> cases decide (a.data.length=2) <;> simp
 grind
theorem du (a:Agent) (hp:a.ports.length≤Big) (hd:a.data.length≤Big):ID a=some (agB a):=by
 unfold ID agB
 have hf:KM a.kind (a.ports.length:Int)=some (if a.kind=9 then (a.ports.length:Int) - 1 else 0):=by
  grind [KM,w64]
 rw [hf,AA,dq,AA,Y1,AA]
 grind [ports,C9,decide_eq_false,Y4]
def Agent.Small (a:Agent):Prop:=a.ports.length≤Big∧a.data.length≤Big
theorem Jg {α:Type} {l:List α} {i:Int} (h:¬ (0≤i∧i<(l.length:Int))):at? l i=none:=by
 grind [at?]
theorem Rq {α:Type} {l:List α} {i:Int} (h:0≤i∧i<(l.length:Int)):∃x,at? l i=some x∧x ∈ l:=by
 simp_all [at?]
def Net.Small (n:Net):Prop:=szl (fun a=>a.ports.length) n.agents≤Big∧∀a ∈ n.agents,a.data.length≤Big
theorem Net.Small.agents {n:Net} (h:n.Small):n.agents.length≤Big∧∀a ∈ n.agents,a.Small:=
 ⟨Nat.le_trans (Aq (fun a=>a.ports.length) _) h.1,fun a ha=>⟨by have:=BD (s:=fun a:Agent=>a.ports.length) ha; have:=h.1; omega,h.2 a ha⟩⟩
end Go.Proofs.YtclmbjbbojdojaaGreat.Ab
