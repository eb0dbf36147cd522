/-
  Plain lemmas for the laws about models: loops over lists, bounded arithmetic. No program is in sight.
-/
import Derived.Test.YtoncbhomocgmcaaGreatDoorAbY
import Derived.Test.YtoncbhomocgmcaaGreatDoorMod
import Derived.Test.YtoncbhomocgmcaaGreatDoorModU
namespace Go.Proofs.YtoncbhomocgmcaaGreatDoor.Ab
set_option linter.unusedVariables false
set_option linter.unusedSimpArgs false
open Go.RowKit
theorem w64 {n} (h1: -9223372036854775808≤n) (h2:n≤9223372036854775807):IntKind.i64.wrap n=n:=bx h1 h2
abbrev Big:Nat:=4294967296
theorem Qf {n} (h:n≤4611686018427387904):n≤fuel:=by rw [BF]; exact h
section
variable {α:Type} {l pre post:List α} {x:α}
theorem DS (h:l=pre++x::post):decide ((pre.length:Int)<(l.length:Int))=true:=by
 subst h; simp only [List.length_append,List.length_cons,decide_eq_true_eq]; omega
theorem Dd (h:l=pre++[]):decide ((pre.length:Int)<(l.length:Int))=false:=by
 subst h; simp
theorem Ce (h:l=pre++x::post):at? l (pre.length:Int)=some x:=by
 subst h
 unfold at?
 rw [if_pos (by omega)]
 simp
theorem B5 (h:l=pre++x::post) (hl:l.length≤Big):IntKind.i64.wrap ((pre.length:Int)+1)=((List.length (pre++[x]):Nat):Int):=by
 subst h
 simp only [List.length_append,List.length_cons,List.length_nil,Big] at hl ⊢
 rw [w64 (by omega) (by omega)]
 omega
theorem Bd (h:l=pre++x::post):l=(pre++[x])++post:=by rw [h]; simp
theorem CC {a b:List α} (h:a.length+b.length≤Big):app? a b=some (a++b):=by
 unfold app?; rw [if_pos (by unfold Big at h; omega)]
theorem Tq {z:α} {n:Nat} (h:n≤Big):Qb (n:Int) z=some (List.replicate n z):=by
 unfold Qb; rw [if_pos (by unfold Big at h; omega)]; simp
theorem Z1 {z} {k}:Zu (pre++List.replicate (k+1) z) (pre.length:Int) x=(pre++[x])++List.replicate k z:=by
 unfold Zu
 simp [List.replicate_succ]
theorem SU {z} {k}:CL (pre++List.replicate (k+1) z) (pre.length:Int) x=some ((pre++[x])++List.replicate k z):=by
 unfold CL; rw [Z1]
theorem X7 {z} {k}:at? (pre++List.replicate (k+1) z) (pre.length:Int)=some z:=by
 unfold at?
 rw [if_pos (by omega)]
 simp
end
theorem AA {α β:Type} {a:α} {k:α→Option β}:Option.bind (some a) k=k a:=rfl
def szr (z left:Nat):Int:=if z≤left then ((left - z:Nat):Int) else -1
theorem Us {z left}:decide (szr z left<0)=decide (left<z):=by
 unfold szr
 by_cases h:z≤left
 ·rw [if_pos h]; simp; omega
 ·rw [if_neg h]; simp; omega
theorem X8 {z left} (h:z≤left):szr z left=((left - z:Nat):Int):=if_pos h
theorem cf {z left} (h:left<z):szr z left= -1:=if_neg (by omega)
theorem Ut {n left:Nat} (h1:left≤1048576) (h2:n≤9223372036854775807):IntKind.i64.wrap ((left:Int) - (n:Int))=(left:Int) - n:=w64 (by omega) (by omega)
theorem SV (l:List Int) (left:Nat) (h1:left≤1048576) (h2:l.length≤9223372036854775807):F5 l left=some (szr l.length left):=by
 unfold F5
 rw [Ut h1 h2]
 by_cases h:l.length≤left
 ·rw [if_neg (by simp; omega),X8 h]; congr 1; omega
 ·rw [if_pos (by simp; omega),cf (by omega)]
theorem Oj (l:List Int) (hl:l.length≤Big):∀ (post pre:List Int) (n:Nat),l=pre++post→post.length<n→CM n l (pre++List.replicate post.length 0) (pre.length:Int)=some l:=by
 intro post
 induction post with
 |nil=>
  intro pre n h hn
  obtain⟨n,rfl⟩:∃m,n=m+1:=⟨n - 1,by omega⟩
  rw [CM,Dd h]; simp [h]
 |cons x post ih=>
  intro pre n h hn
  obtain⟨n,rfl⟩:∃m,n=m+1:=⟨n - 1,by omega⟩
  rw [CM,if_pos (DS h),Ce h,AA,List.length_cons,X7,AA,SU,AA,B5 h hl]
  exact ih (pre++[x]) n (Bd h) (by simp at hn; omega)
theorem SW (l:List Int) (hl:l.length≤Big):F6 l=some l:=by
 unfold F6
 rw [Tq hl,AA]
 exact Oj l hl l [] fuel (by simp) (by rw [BF]; unfold Big at hl; omega)
theorem SM (l:List Int) (hl:l.length≤Big):Dm l l=some true:=by
 unfold Dm
 rw [if_neg (by simp)]
 have loop:∀ (post pre:List Int) (n:Nat),l=pre++post→post.length<n→BZ n l l (pre.length:Int)=some true:=by
  intro post
  induction post with
  |nil=>
   intro pre n h hn
   obtain⟨n,rfl⟩:∃m,n=m+1:=⟨n - 1,by omega⟩
   rw [BZ,Dd h]; rfl
  |cons x post ih=>
   intro pre n h hn
   obtain⟨n,rfl⟩:∃m,n=m+1:=⟨n - 1,by omega⟩
   rw [BZ,if_pos (DS h),Ce h,AA,AA,if_neg (by simp),B5 h hl]
   exact ih (pre++[x]) n (Bd h) (by simp at hn; omega)
 exact loop l [] fuel (by simp) (by rw [BF]; unfold Big at hl; omega)
set_option maxHeartbeats 1000000
def szl {α:Type} (s:α→Nat):List α→Nat
 | [] =>0
 |x::l=>1+s x+szl s l
theorem Hl {α:Type} (s:α→Nat):∀l:List α,l.length≤szl s l
 | [] =>by simp
 |x::l=>by rw [szl,List.length_cons]; have:=Hl s l; omega
theorem JF {α:Type} {s:α→Nat} {x:α}:∀ {l:List α},x ∈ l→s x<szl s l
 |y::l,h=>by
  rw [szl]
  rcases List.mem_cons.1 h with rfl|h
  ·omega
  ·have:=JF (s:=s) h; omega
theorem NA {k:Int→Option Int} {z left rest:Nat} {X:Option Int} (hX:X=some (szr z left)) (hk:z≤left→k ((left - z:Nat):Int)=some (szr rest (left - z))):
  (Option.bind X fun v=>if decide (v<0)=true then some (-1) else k v)=some (szr (z+rest) left):=by
 rw [hX,AA,Us]
 grind [szr]
theorem Uu {k:Int→Option Int} {z left rest:Nat} (h1:left≤1048576) (h2:z≤9223372036854775807) (hk:z≤left→k ((left - z:Nat):Int)=some (szr rest (left - z))):
  (if decide (IntKind.i64.wrap ((left:Int) - (z:Int))<0)=true then some (-1) else k (IntKind.i64.wrap ((left:Int) - (z:Int))))=some (szr (z+rest) left):=by
 rw [Ut h1 h2]
 grind [szr]
theorem Ts {left}:some ((left:Nat):Int)=some (szr 0 left):=by rfl
theorem gSz {α:Type} (L:Nat→Int→Int→Option Int) (g:α→Int→Option Int) (s:α→Nat) (l:List α) (hL:∀n p i,L (n+1) p i=(if (decide (i<(l.length:Int)))=true then ((at? l i).bind fun x=>((g x p).bind fun v=>(if (decide (v<0))=true then (some (-1)) else (L n v (IntKind.i64.wrap (i+1)))))) else (some p)))
  (left:Nat) (h1:left≤1048576) (hg:∀x ∈ l,∀k:Nat,k≤1048576→g x k=some (szr (s x) k)) (hl:l.length≤9223372036854775807):
  (if decide (IntKind.i64.wrap ((left:Int) - (l.length:Int))<0)=true then some (-1) else L fuel (IntKind.i64.wrap ((left:Int) - (l.length:Int))) 0)=some (szr (szl s l) left):=by
 have hsz:=Hl s l
 have:=Uu (k:=fun v=>L fuel v 0) (rest:=szl s l - l.length) h1 hl fun h=>?_
 ·rw [show l.length+(szl s l - l.length)=szl s l from by omega] at this
  omega
 ·have loop:∀ (post pre:List α) (n l3:Nat),l=pre++post→l3≤left→post.length<n→L n l3 (pre.length:Int)=some (szr (szl s post - post.length) l3):=by
   intro post
   induction post with
   |nil=>
    intro pre n l3 h _ hn
    obtain⟨n,rfl⟩:∃m,n=m+1:=⟨n - 1,by omega⟩
    rw [hL,Dd h]
    rfl
   | cons x post ihp=>
    intro pre n l3 hh h4 hn
    obtain⟨n,rfl⟩:∃m,n=m+1:=⟨n - 1,by omega⟩
    have hx:x ∈ l:=by rw [hh]; simp
    have hp:=Hl s post
    rw [hL,if_pos (DS hh),Ce hh,AA]
    have e:=NA (k:=fun v=>L n v (IntKind.i64.wrap ((pre.length:Int)+1))) (rest:=szl s post - post.length) (hg x hx l3 (by omega)) fun h5=>by
     rw [B5 hh (by grind)]
     grind
    rw [szl,List.length_cons,show 1+s x+szl s post - (post.length+1)=s x+(szl s post - post.length) from by omega]
    exact e
  exact loop l [] fuel (left - l.length) (by simp) (by omega) (by rw [BF]; omega)
theorem gTo {α:Type} (L:Nat→List α→Int→Option (List α)) (g:α→Option α) (z:α) (l:List α) (hL:∀n acc i,L (n+1) acc i=(if (decide (i<(l.length:Int)))=true then ((at? l i).bind fun x=>((g x).bind fun y=>((at? acc i).bind fun _=>((CL acc i y).bind fun z=>(L n z (IntKind.i64.wrap (i+1))))))) else (some acc)))
  (hl:l.length≤Big) (hg:∀x ∈ l,g x=some x):((Qb (l.length:Int) z).bind fun acc=>L fuel acc 0)=some l:=by
 have loop:∀ (post pre:List α) (n:Nat),l=pre++post→post.length<n→L n (pre++List.replicate post.length z) (pre.length:Int)=some l:=by
  intro post
  induction post with
  |nil=>
   intro pre n h hn
   obtain⟨n,rfl⟩:∃m,n=m+1:=⟨n - 1,by omega⟩
   rw [hL,Dd h]; simp [h]
  |cons x post ih=>
   intro pre n h hn
   obtain⟨n,rfl⟩:∃m,n=m+1:=⟨n - 1,by omega⟩
   rw [hL,if_pos (DS h),Ce h,AA,hg x (by rw [h]; simp),AA,List.length_cons,X7,AA,SU,AA,B5 h hl]
   grind
 rw [Tq hl,AA]
 exact loop l [] fuel (by simp) (by rw [BF]; grind)
def Bm (o:Option Bool) (p:Prop):Prop:=∃b,o=some b∧(b=true↔p)
theorem Bm.mk {b} {p:Prop} (h:b=true↔p):Bm (some b) p:=⟨b,rfl,h⟩
theorem Bm.iff {o} {p q:Prop} (h:Bm o p) (hpq:p↔q):Bm o q:=by
 grind
theorem Bm.true {o} {p:Prop} (h:Bm o p) (hp:p):o=some true:=by
 obtain⟨b,rfl,h1⟩:=h
 rw [h1.2 hp]
theorem EQ {b} {X} {p q:Prop} (h:b=true↔p) (hX:p→Bm X q):Bm (if (!b)=true then some false else X) (p∧q):=by
 cases b with
 |true=>grind
 |false=>exact⟨false,rfl,⟨fun k=>Bool.noConfusion k,fun k=>h.2 k.1⟩⟩
theorem Tt {o} {k} {p r:Prop} (h:Bm o p) (hk:∀b,(b=true↔p)→Bm (k b) r):Bm (Option.bind o k) r:=by
 obtain⟨b,rfl,h1⟩:=h
 grind
theorem Ek {o} {X} {p q:Prop} (h:Bm o p) (hX:p→Bm X q):Bm (Option.bind o fun b=>if (!b)=true then some false else X) (p∧q):=
 Tt h fun b hb=>EQ hb hX
theorem J2:Bm (some true) True:=.mk (by simp)
theorem Gb {p:Prop} [Decidable p] :decide p=true↔p:=decide_eq_true_iff
theorem Z2 {α β:Type} {l:List α} {m:List β}:decide ((l.length:Int)=(m.length:Int))=true↔l.length=m.length:=by
 rw [decide_eq_true_iff]; omega
theorem gEq {α:Type} (L:Nat→Int→Option Bool) (f:α→α→Option Bool) (l m:List α) (hL:∀n i,L (n+1) i=(if (decide (i<(l.length:Int)))=true then ((at? l i).bind fun x=>((at? m i).bind fun y=>((f x y).bind fun v=>(if (!v)=true then (some false) else (L n (IntKind.i64.wrap (i+1))))))) else (some true)))
  (hl:l.length≤Big) (hlen:l.length=m.length) (hf:∀x ∈ l,∀y ∈ m,Bm (f x y) (x=y)):Bm (L fuel 0) (l=m):=by
 have loop:∀ (post post' pre pre':List α) (n:Nat),l=pre++post→m=pre'++post'→pre.length=pre'.length→post.length<n→Bm (L n (pre.length:Int)) (post=post'):=by
  intro post
  induction post with
  |nil=>
   intro post' pre pre' n h h' hpp hn
   obtain⟨n,rfl⟩:∃m,n=m+1:=⟨n - 1,by omega⟩
   rw [hL,Dd h]
   obtain rfl:post'=[] :=List.eq_nil_of_length_eq_zero (by rw [h,h'] at hlen; grind)
   exact .mk (by simp)
  | cons x post ih=>
   intro post' pre pre' n h h' hpp hn
   obtain⟨n,rfl⟩:∃m,n=m+1:=⟨n - 1,by omega⟩
   cases post' with
   |nil=>rw [h,h'] at hlen; grind
   |cons y post'=>
    rw [hL,if_pos (DS h),Ce h,AA,hpp,Ce h',AA,← hpp,B5 h hl]
    refine(Ek (hf x (by rw [h]; simp) y (by rw [h']; simp)) fun _=>ih post' (pre++[x]) (pre'++[y]) n (Bd h) (Bd h') (by grind) (by grind)).iff ?_
    simp
 exact loop l m [] [] fuel (by simp) (by simp) rfl (by rw [BF]; grind)
theorem WD {α:Type} (L:Nat→Int→Option Bool) (f:α→α→Option Bool) (l m:List α) (hL:∀n i,L (n+1) i=(if (decide (i<(l.length:Int)))=true then ((at? l i).bind fun x=>((at? m i).bind fun y=>((f x y).bind fun v=>(if (!v)=true then (some false) else (L n (IntKind.i64.wrap (i+1))))))) else (some true)))
  (hl:l.length≤Big) (hf:∀x ∈ l,∀y ∈ m,Bm (f x y) (x=y)):Bm (if (!decide ((l.length:Int)=(m.length:Int)))=true then some false else L fuel 0) (l=m):=
 (EQ Z2 fun h=>gEq L f l m hL hl h hf).iff ⟨fun h=>h.2,fun h=>⟨by rw [h],h⟩⟩
theorem OJ (l m:List Int) (hl:l.length≤Big):Bm (Dm l m) (l=m):=by
 unfold Dm
 exact WD (fun n i=>BZ n l m i) (fun x y=>some (decide (x=y))) l m (fun n i=>by rw [BZ]; rfl) hl fun x _ y _=>.mk Gb
theorem K6 (s:ByteArray):Df s s=true:=by grind [Df]
theorem SX {a b}:Df a b=true↔a=b:=by
 unfold Df
 rw [beq_iff_eq,ByteArray.toList_eq,ByteArray.toList_eq]
 exact⟨fun h=>ByteArray.ext (Array.toList_inj.mp h),fun h=>by rw [h]⟩
theorem cg {k:Int→Option Bool} {z left:Nat} {X:Option Int} (hX:X=some (szr z left)) (hk:z≤left→k ((left - z:Nat):Int)=some true):
  (Option.bind X fun v=>if decide (v<0)=true then some true else k v)=some true:=by
 rw [hX,AA,Us]
 grind [X8]
set_option maxRecDepth 20000
set_option maxHeartbeats 4000000
theorem Hm {α:Type} (L:Nat→List α→Int→(α→Option Bool)→Option Int) (hL:∀n l i f,L (n+1) l i f=(if (decide (i<(l.length:Int)))=true then ((at? l i).bind fun x=>((f x).bind fun b=>(if b=true then (some i) else (L n l (IntKind.i64.wrap (i+1)) f)))) else (some (-1))))
  (l:List α) (f:α→Option Bool) (p:α→Bool) (hl:l.length≤Big) (hf:∀x ∈ l,f x=some (p x)):∃i:Int,L fuel l 0 f=some i∧(0≤i↔l.any p=true)∧(l.any p=false→i= -1):=by
 have loop:∀ (post pre:List α) (n:Nat),l=pre++post→post.length<n→∃i:Int,L n l (pre.length:Int) f=some i∧(0≤i↔post.any p=true)∧(post.any p=false→i= -1):=by
  intro post
  induction post with
  |nil=>
   intro pre n h hn
   obtain⟨n,rfl⟩:∃m,n=m+1:=⟨n - 1,by omega⟩
   rw [hL,Dd h]
   exact⟨-1,rfl,by simp,fun _=>rfl⟩
  | cons x post ih=>
   intro pre n h hn
   obtain⟨n,rfl⟩:∃m,n=m+1:=⟨n - 1,by omega⟩
   rw [hL,if_pos (DS h),Ce h,AA,hf x (by rw [h]; simp),AA]
   by_cases hp:p x=true
   ·rw [if_pos hp]
    exact⟨_,rfl,by simp [hp],by simp [hp]⟩
   ·rw [if_neg hp,B5 h hl]
    obtain⟨i,h1,h2,h3⟩:=ih (pre++[x]) n (Bd h) (by simp at hn; omega)
    have hp':p x=false:=by simpa using hp
    exact⟨i,h1,by simpa [hp'] using h2,by simpa [hp'] using h3⟩
 exact loop l [] fuel (by simp) (by rw [BF]; unfold Big at hl; omega)
theorem SY (l:List Int) (f:Int→Option Bool) (p:Int→Bool) (hl:l.length≤Big) (hf:∀x ∈ l,f x=some (p x)):BL l f=some (l.any p):=by
 obtain⟨i,h1,h2,-⟩:=Hm A6 (fun n l i f=>by rw [A6]) l f p hl hf
 unfold BL DP
 rw [h1,AA]
 congr 1
 rw [Bool.eq_iff_iff,decide_eq_true_eq]; exact h2
def El (n:Int):Bool:=decide (0≤n∧n≤23)
theorem FG (n a b:Int):Cf n a b=some (decide (a≤n∧n≤b)):=by
 unfold Cf
 by_cases h:a≤n <;> simp [h]
theorem X9 (n:Int):JE n=some (decide (-2147483648≤n∧n≤2147483647)):=by
 unfold JE
 by_cases h: -2147483648≤n <;> simp [h]
theorem Ol (n:Int):Dx n=some (decide (1≤n∧n≤6)):=by
 unfold Dx
 by_cases h:1≤n <;> simp [h]
theorem JR (n:Int):Dw n=some (El n):=by
 unfold Dw El
 by_cases h:0≤n
 ·simp [h]; omega
 ·simp [h]
theorem Z3 {l:List Int}:l.any (fun k=> !El k)= !l.all El:=by
 induction l with
 |nil=>rfl
 |cons x xs ih=>simp only [List.any_cons,List.all_cons,ih,Bool.not_and]
theorem kind_cases (k:Int):k=1∨k=2∨k=3∨k=4∨k=5∨k=6∨k=7∨k=8∨k=9∨k=10∨k=11∨k=12∨(k<1∨12<k):=by omega
def ports (k f:Int):Int:=
 if k=9 then (if 0≤f∧f≤3 then f+1 else 0) else if f≠0 then 0
 else if k=1∨k=5∨k=6∨k=12 then 1 else if k=8∨k=10∨k=11 then 2 else if k=2∨k=3∨k=4∨k=7 then 3 else 0
theorem P7 {k:Int} (h:k<1∨12<k):k≠1∧k≠2∧k≠3∧k≠4∧k≠5∧k≠6∧k≠7∧k≠8∧k≠9∧k≠10∧k≠11∧k≠12:=by omega
theorem WG (k f:Int):Fp k f=some (ports k f):=by
 have hw:0≤f∧f≤3→IntKind.i64.wrap (1+f)=f+1:=fun h=>by rw [w64 (by omega) (by omega)]; omega
 by_cases hf:f=0
 ·subst hf
  rcases kind_cases k with h|h|h|h|h|h|h|h|h|h|h|h|h
  all_goals first|(subst h; rfl)|skip
  grind [P7,Fp,DR,Dy,DQ,ports]
 grind [Fp,FG,ports]
theorem JG (k:Int):GG k=some (decide (1≤k∧k≤12)):=by
 unfold GG
 by_cases h:1≤k <;> simp [h]
theorem WH (k f:Int):Fo k f=some (ports k f):=by
 have hw:0≤f∧f≤3→IntKind.i64.wrap (f+1)=f+1:=fun h=>w64 (by omega) (by omega)
 by_cases hf:f=0
 ·subst hf
  rcases kind_cases k with h|h|h|h|h|h|h|h|h|h|h|h|h
  all_goals first|(subst h; rfl)|skip
  grind [Fo,DO,DN,ports,JG]
 grind [Fo,DO,ports,DN,JG]
def levB (k l:Int):Bool:=decide (1≤k∧k≤12)&&if k=1∨k=5∨k=6 then decide (l=0) else decide (0≤l∧l≤8)
theorem WI (k l:Int):E0 k l=some (levB k l):=by
 rcases kind_cases k with h|h|h|h|h|h|h|h|h|h|h|h|h
 all_goals first|(subst h; simp [E0,GI,A2,HF,levB,FG,AA]; done)|skip
 grind [P7,E0,GI,A2,HF,levB,FG]
theorem SZ (k l:Int):EP k l=some (levB k l):=by
 have hl:decide (l=0)=true∨decide (l=0)=false:=by cases decide (l=0) <;> simp
 rcases kind_cases k with h|h|h|h|h|h|h|h|h|h|h|h|h
 all_goals first|(subst h; by_cases h0:l=0 <;> by_cases h1:0≤l <;> simp [EP,JG,Hh,JD,levB,AA,h0,h1]; done)|skip
 grind [EP,JG,levB]
def P1 (a:Agent):Bool:=
 if a.kind=6 then decide (a.data.length=0)&&decide (-2147483648≤a.value∧a.value≤2147483647)
 else if a.kind=7 then decide (a.data.length=0)&&decide (1≤a.value∧a.value≤6)
 else if a.kind=8 then decide (a.data.length=1)&&decide (1≤a.value∧a.value≤6)&&a.data.all fun d=>decide (-2147483648≤d∧d≤2147483647)
 else if a.kind=9 then decide (a.data.length=0)&&decide (0≤a.value∧a.value≤3)
 else if a.kind=12 then decide (a.data.length=0)&&El a.value
 else if a.kind=10 then decide (a.value=0)&&decide (1≤a.data.length∧a.data.length≤4)&&a.data.all El
 else if a.kind=11 then decide (a.value=0)&&decide (a.data.length=2)&&a.data.all El
 else decide (a.value=0)&&decide (a.data.length=0)
theorem P8 (n:Int):GJ n=some (El n):=by
 unfold GJ
 rw [FG,AA]; rfl
theorem my {α:Type} (L:Nat→Int→Option Bool) (f:α→Option Bool) (p:α→Bool) (l:List α) (hL:∀n i,L (n+1) i=(if (decide (i<(l.length:Int)))=true then ((at? l i).bind fun x=>((f x).bind fun v=>(if (!v)=true then (some false) else (L n (IntKind.i64.wrap (i+1)))))) else (some true)))
  (hl:l.length≤Big) (hf:∀x ∈ l,f x=some (p x)):L fuel 0=some (l.all p):=by
 have loop:∀ (post pre:List α) (n:Nat),l=pre++post→post.length<n→L n (pre.length:Int)=some (post.all p):=by
  intro post
  induction post with
  |nil=>
   intro pre n h hn
   obtain⟨n,rfl⟩:∃m,n=m+1:=⟨n - 1,by omega⟩
   rw [hL,Dd h]; simp
  |cons x post ih=>
   intro pre n h hn
   obtain⟨n,rfl⟩:∃m,n=m+1:=⟨n - 1,by omega⟩
   rw [hL,if_pos (DS h),Ce h,AA,hf x (by rw [h]; simp),AA,B5 h hl,List.all_cons]
   grind
 exact loop l [] fuel rfl (by rw [BF]; grind)
theorem gd {α:Type} {l:List α}:decide ((l.length:Int)=0)=decide (l.length=0):=by grind
theorem gf {α:Type} {l:List α}:decide ((l.length:Int)=1)=decide (l.length=1):=by grind
theorem gg {α:Type} {l:List α}:decide ((l.length:Int)=2)=decide (l.length=2):=by grind
theorem gh {α:Type} {l:List α}:decide (1≤(l.length:Int)∧(l.length:Int)≤4)=decide (1≤l.length∧l.length≤4):=by grind
theorem Sa (a:Agent) (hd:a.data.length≤Big):Bi fuel a 0=some (a.data.all El):=
 my (fun n i=>Bi n a i) GJ El a.data (fun n i=>by rw [Bi]) hd fun x _=>P8 x
theorem Sb (a:Agent) (hd:a.data.length≤Big):Ej a=some (P1 a):=by
 have h3:=Sa a hd
 unfold Ej P1
 rcases kind_cases a.kind with h|h|h|h|h|h|h|h|h|h|h|h|h
 all_goals try simp only [h,DY,BP,FG,P8,AA,h3,gd,gf,gg,gh,eq_self,decide_true,reduceIte,Int.reduceEq,decide_false,Bool.false_eq_true]
 all_goals first|(by_cases h0:a.value=0 <;> by_cases h1:a.data.length=0 <;> simp [h0,h1]; done)|skip
 ·match hdd:a.data with
  | [] =>simp
  | [d] =>by_cases h1:1≤a.value∧a.value≤6 <;> simp [at?,h1]
  |d::e::l=>simp
 ·cases decide (a.value=0) <;> cases decide (1≤a.data.length∧a.data.length≤4) <;> simp
 ·cases decide (a.value=0) <;> cases decide (a.data.length=2) <;> simp
 grind
theorem YA {l:List Int}:l.any (fun k=> !El k)= !l.all El:=Z3
theorem YB (l:List Int) (hl:l.length≤Big):BL l (fun y0=>Dp y0)=some (!l.all El):=by
 rw [SY l _ (fun k=> !El k) hl (fun x _=>by unfold Dp; rw [JR,AA]),YA]
def agB (a:Agent):Bool:=decide (0<a.ports.length∧ports a.kind (if a.kind=9 then (a.ports.length:Int) - 1 else 0)=(a.ports.length:Int))&&levB a.kind a.level&&P1 a
theorem WJ (a:Agent) (hp:a.ports.length≤Big) (hd:a.data.length≤Big):GK a=some (agB a):=by
 have hf:FE a=some (if a.kind=9 then (a.ports.length:Int) - 1 else 0):=by
  grind [FE,w64]
 unfold GK agB
 rw [hf,AA,WG,AA,WI,Sb a hd]
 generalize ports a.kind _=p
 by_cases h:0<a.ports.length∧p=(a.ports.length:Int)
 ·obtain⟨h1,rfl⟩:=h
  have h2:(0:Int)<(a.ports.length:Int):=by omega
  cases levB a.kind a.level <;> simp [h1,h2,AA]
 ·by_cases h1:(0:Int)<p
  ·have h2:¬ ((a.ports.length:Int)=p):=by omega
   grind
  ·simp [h,h1]
theorem gi (x y:Bool):Ac x y=some (x&&y):=by cases x <;> simp [Ac]
theorem Sc (a:Agent) (hd:a.data.length≤Big):Bh a false=some (P1 a):=by
 unfold Bh P1
 rw [if_neg (by simp),YB a.data hd,AA]
 rcases kind_cases a.kind with h|h|h|h|h|h|h|h|h|h|h|h|h
 all_goals try simp only [h,gi,X9,Ol,JR,AA,gd,gf,gg,eq_self,decide_true,reduceIte,Int.reduceEq,decide_false,Bool.false_eq_true,Bool.not_not]
 all_goals first|(by_cases h0:a.value=0 <;> by_cases h1:a.data.length=0 <;> simp [h0,h1]; done)|skip
 ·match hdd:a.data with
  | [] =>simp
  | [d] =>by_cases h1:1≤a.value∧a.value≤6 <;> simp [at?,h1]
  |d::e::l=>simp
 ·grind
 ·by_cases h1:1≤a.data.length <;> by_cases h2:a.data.length≤4
  ·have e1:(1:Int)≤(a.data.length:Int):=by omega
   have e2:(a.data.length:Int)≤4:=by omega
   grind
  ·have e2:¬ (a.data.length:Int)≤4:=by omega
   grind
  ·have e1:¬ (1:Int)≤(a.data.length:Int):=by omega
   grind
  omega
 ·cases decide (a.value=0) <;> cases decide (a.data.length=2) <;> simp
 grind
theorem WK (a:Agent) (hp:a.ports.length≤Big) (hd:a.data.length≤Big):Eh a=some (agB a):=by
 unfold Eh agB
 have hf:GH a.kind (a.ports.length:Int)=some (if a.kind=9 then (a.ports.length:Int) - 1 else 0):=by
  grind [GH,w64]
 rw [hf,AA,WH,AA,SZ,AA]
 grind [ports,Bh,decide_eq_false,Sc]
def Qg:Nat→List Agent→Bool
 |_,[] =>true
 |i,x::l=>(agB x&&(decide (x.kind=1) == decide (i=0)))&&Qg (i+1) l
def agentsB (l:List Agent):Bool:=decide (1≤l.length∧l.length≤600)&&Qg 0 l
def Agent.Small (a:Agent):Prop:=a.ports.length≤Big∧a.data.length≤Big
theorem Sd {n:Nat}:decide ((n:Int)=0)=decide (n=0):=by grind
theorem Qi (l:List Agent) (hl:l.length≤Big) (hs:∀a ∈ l,a.Small):∀ (post pre:List Agent) (n:Nat),l=pre++post→2*post.length<n→Bc n l (pre.length:Int)=some (Qg pre.length post):=by
 intro post
 induction post with
 |nil=>
  intro pre n h hn
  obtain⟨n,rfl⟩:∃m,n=m+1:=⟨n - 1,by omega⟩
  rw [Bc,Dd h]; rfl
 |cons x post ih=>
  intro pre n h hn
  simp only [List.length_cons] at hn
  obtain⟨n,rfl⟩:∃m,n=m+2:=⟨n - 2,by omega⟩
  obtain⟨h1,h2⟩:=hs x (by rw [h]; simp)
  rw [Bc,if_pos (DS h),Ce h,AA,WJ x h1 h2,AA,AA,Cd,Cd,B5 h hl,ih (pre++[x]) n (Bd h) (by omega),Qg,Sd]
  grind
theorem Tu (l:List Agent) (hl:l.length≤Big) (hs:∀a ∈ l,a.Small):FF l=some (agentsB l):=by
 unfold FF agentsB
 rw [FG,AA]
 have:=Qi l hl hs l [] fuel rfl (by rw [BF]; grind)
 simp only [List.length_nil,Int.natCast_zero] at this
 rw [this]
 have e:decide (1≤(l.length:Int)∧(l.length:Int)≤600)=decide (1≤l.length∧l.length≤600):=by grind
 rw [e]
 cases decide (1≤l.length∧l.length≤600) <;> rfl
theorem Qj (l:List Agent) (hl:l.length≤Big) (hs:∀a ∈ l,a.Small):∀ (post pre:List Agent) (n:Nat),l=pre++post→2*post.length<n→Bb n l (pre.length:Int)=some (Qg pre.length post):=by
 intro post
 induction post with
 |nil=>
  intro pre n h hn
  obtain⟨n,rfl⟩:∃m,n=m+1:=⟨n - 1,by omega⟩
  rw [Bb,Dd h]; rfl
 |cons x post ih=>
  intro pre n h hn
  simp only [List.length_cons] at hn
  obtain⟨n,rfl⟩:∃m,n=m+2:=⟨n - 2,by omega⟩
  obtain⟨h1,h2⟩:=hs x (by rw [h]; simp)
  rw [Bb,if_pos (DS h),Ce h,AA,WK x h1 h2,AA,Cc,Cc,B5 h hl,ih (pre++[x]) n (Bd h) (by omega),Qg,Sd]
  grind
theorem Tv (l:List Agent) (hl:l.length≤Big) (hs:∀a ∈ l,a.Small):FC l=some (agentsB l):=by
 have h4:=Qj l hl hs l [] fuel rfl (by rw [BF]; grind)
 grind [FC,agentsB,Dq]
def FW (l:List Agent) (p:Port):Option Port:=(at? l p.agent).bind fun y=>at? y.ports p.slot
def P0 (l:List Agent) (i k:Nat) (p:Port):Bool:= !(decide (p.agent=i)&&decide (p.slot=k))&&match FW l p with
 |some q=>decide (q.agent=i)&&decide (q.slot=k)
 |none=>false
def FL (l:List Agent) (i:Nat):Nat→List Port→Bool
 |_,[] =>true
 |k,p::ps=>P0 l i k p&&FL l i (k+1) ps
def Dz (l:List Agent):Nat→List Agent→Bool
 |_,[] =>true
 |i,x::xs=>FL l i 0 x.ports&&Dz l (i+1) xs
def Net.valid (n:Net):Bool:=agentsB n.agents&&Dz n.agents 0 n.agents
theorem K7 {α:Type} {l:List α} {i:Int} (h:¬ (0≤i∧i<(l.length:Int))):at? l i=none:=by
 grind [at?]
theorem OG {α:Type} {l:List α} {i:Int} (h:0≤i∧i<(l.length:Int)):∃x,at? l i=some x∧x ∈ l:=by
 simp_all [at?]
theorem YC (l:List Agent) (p:Port) (hl:l.length≤Big) (hs:∀a ∈ l,a.Small):HG l p=some (FW l p).isSome :=by
 unfold HG FW
 rw [FG,AA,w64 (by omega) (by grind)]
 by_cases h:0≤p.agent∧p.agent<(l.length:Int)
 ·obtain⟨y,hy,hm⟩:=OG h
  rw [decide_eq_true ⟨h.1,by omega⟩,if_pos rfl,hy,AA,AA,FG,AA]
  have:=(hs y hm).1
  rw [w64 (by omega) (by grind)]
  by_cases h2:0≤p.slot∧p.slot<(y.ports.length:Int)
  ·obtain⟨q,hq,-⟩:=OG h2
   rw [decide_eq_true ⟨h2.1,by omega⟩,hq]; rfl
  grind [K7]
 grind [K7]
theorem Tw (l:List Agent) (p:Port):HE l p=some (FW l p).isSome :=by
 unfold HE FW
 by_cases h:0≤p.agent∧p.agent<(l.length:Int)
 ·obtain⟨y,hy,hm⟩:=OG h
  rw [decide_eq_true h.1,if_pos rfl,decide_eq_true h.2,if_pos rfl,hy,AA,AA]
  by_cases h2:0≤p.slot
  ·rw [decide_eq_true h2,if_pos rfl]
   by_cases h3:p.slot<(y.ports.length:Int)
   ·obtain⟨q,hq,-⟩:=OG ⟨h2,h3⟩
    rw [decide_eq_true h3,hq]; rfl
   grind [K7]
  grind [K7]
 grind [K7]
theorem Se (n:Net) (hl:n.agents.length≤Big) (hs:∀a ∈ n.agents,a.Small) (i:Nat) (x:Agent) (hx:x.Small) (R:Bool) (N:Nat) (hR:∀m,N≤m→Cy m n (IntKind.i64.wrap ((i:Int)+1))=some R):
  ∀ (post pre:List Port) (m:Nat),x.ports=pre++post→2*post.length+1+N≤m→DD m n (i:Int) x (pre.length:Int)=some (FL n.agents i pre.length post&&R):=by
 intro post
 induction post with
 |nil=>
  intro pre m h hm
  simp only [List.length_nil] at hm
  obtain⟨m,rfl⟩:∃k,m=k+1:=⟨m - 1,by omega⟩
  rw [DD,Dd h,if_neg (by simp),hR m (by omega),FL]; rfl
 | cons p post ih=>
  intro pre m h hm
  simp only [List.length_cons] at hm
  obtain⟨m,rfl⟩:∃k,m=k+2:=⟨m - 2,by omega⟩
  have h13:∀b,DE (m+1) n (i:Int) (pre.length:Int) x b=some (!b&&(FL n.agents i (pre.length+1) post&&R)):=fun b=>by
   rw [DE,B5 h hx.1,ih (pre++[p]) m (Bd h) (by omega),List.length_append,List.length_singleton]
   cases b <;> simp
  rw [DD,if_pos (DS h),Ce h,AA,h13,YC n.agents p hl hs,AA,FL,P0]
  cases (decide (p.agent=(i:Int))&&decide (p.slot=(pre.length:Int))) with
  |true=>simp
  | false=>
   rw [if_neg (by simp)]
   cases hp:FW n.agents p with
   |none=>simp
   |some q=>
    grind [FW,Option.bind_eq_some_iff]
theorem YD (n:Net) (hl:n.agents.length≤Big) (hs:∀a ∈ n.agents,a.Small):∀ (post pre:List Agent) (m:Nat),n.agents=pre++post→2*szl (fun a=>a.ports.length) post+1≤m→Cy m n (pre.length:Int)=some (Dz n.agents pre.length post):=by
 intro post
 induction post with
 |nil=>
  intro pre m h hm
  obtain⟨m,rfl⟩:∃k,m=k+1:=⟨m - 1,by omega⟩
  rw [Cy,Dd h]; rfl
 |cons x post ih=>
  intro pre m h hm
  simp only [szl] at hm
  obtain⟨m,rfl⟩:∃k,m=k+1:=⟨m - 1,by omega⟩
  rw [Cy,if_pos (DS h),Ce h,AA,Dz]
  refine Se n hl hs pre.length x (hs x (by rw [h]; simp)) _ (2*szl (fun a=>a.ports.length) post+1) (fun k hk=>?_) x.ports [] m rfl (by omega)
  rw [B5 h hl,ih (pre++[x]) k (Bd h) hk,List.length_append,List.length_singleton]
def Net.Small (n:Net):Prop:=szl (fun a=>a.ports.length) n.agents≤Big∧∀a ∈ n.agents,a.data.length≤Big
theorem Net.Small.agents {n:Net} (h:n.Small):n.agents.length≤Big∧∀a ∈ n.agents,a.Small:=
 ⟨Nat.le_trans (Hl (fun a=>a.ports.length) _) h.1,fun a ha=>⟨by have:=JF (s:=fun a:Agent=>a.ports.length) ha; have:=h.1; omega,h.2 a ha⟩⟩
theorem Z4 (n:Net) (h:n.Small):K0 n=some n.valid:=by
 obtain⟨hl,hs⟩:=h.agents
 unfold K0 Net.valid
 rw [Tu _ hl hs,AA]
 have:=YD n hl hs n.agents [] fuel rfl (by rw [BF]; have:=h.1; grind)
 simp only [List.length_nil,Int.natCast_zero] at this
 rw [this]
 cases agentsB n.agents <;> simp
def FM (i:Nat):Nat→List Port→List Port
 |_,[] =>[]
 |k,_::ps=>⟨(i:Int),(k:Int)⟩::FM i (k+1) ps
def DA:Nat→List Agent→List Port
 |_,[] =>[]
 |i,x::xs=>FM i 0 x.ports++DA (i+1) xs
theorem J3 (i:Nat):∀ (ps:List Port) (k:Nat),(FM i k ps).length =ps.length
 | [],_=>rfl
 |_::ps,k=>by rw [FM,List.length_cons,J3 i ps,List.length_cons]
theorem K8:∀ (l:List Agent) (i:Nat),(DA i l).length ≤szl (fun a=>a.ports.length) l
 | [],_=>by grind [DA]
 |x::l,i=>by
  have:=K8 l (i+1)
  grind [DA,szl,J3]
theorem Z5 (n:Net) (i:Nat) (x:Agent) (hx:x.Small) (Z:List Port) (N:Nat):
  ∀ (post pre:List Port) (acc:List Port) (m:Nat),x.ports=pre++post→acc.length+post.length≤Big→(∀m,N≤m→BO m n (acc++FM i pre.length post) (IntKind.i64.wrap ((i:Int)+1))=some Z)→post.length+1+N≤m→B4 m n (i:Int) x acc (pre.length:Int)=some Z:=by
 intro post
 induction post with
 |nil=>
  intro pre acc m h hacc hR hm
  simp only [List.length_nil] at hm
  obtain⟨m,rfl⟩:∃k,m=k+1:=⟨m - 1,by omega⟩
  rw [B4,Dd h,if_neg (by simp)]
  grind [FM]
 |cons p post ih=>
  intro pre acc m h hacc hR hm
  simp only [List.length_cons] at hm hacc
  obtain⟨m,rfl⟩:∃k,m=k+1:=⟨m - 1,by omega⟩
  rw [B4,if_pos (DS h),CC (by grind),AA,B5 h hx.1]
  grind [FM]
theorem Z6 (n:Net) (hl:n.agents.length≤Big) (hs:∀a ∈ n.agents,a.Small):∀ (post pre:List Agent) (acc:List Port) (m:Nat),n.agents=pre++post→acc.length+szl (fun a=>a.ports.length) post≤Big→2*szl (fun a=>a.ports.length) post+1≤m→BO m n acc (pre.length:Int)=some (acc++DA pre.length post):=by
 intro post
 induction post with
 |nil=>
  intro pre acc m h hacc hm
  obtain⟨m,rfl⟩:∃k,m=k+1:=⟨m - 1,by omega⟩
  rw [BO,Dd h]; simp [DA]
 |cons x post ih=>
  intro pre acc m h hacc hm
  simp only [szl] at hm hacc
  obtain⟨m,rfl⟩:∃k,m=k+1:=⟨m - 1,by omega⟩
  rw [BO,if_pos (DS h),Ce h,AA]
  refine Z5 n pre.length x (hs x (by rw [h]; simp)) _ (2*szl (fun a=>a.ports.length) post+1) x.ports [] acc m rfl (by omega) (fun k hk=>?_) (by omega)
  rw [B5 h hl,ih (pre++[x]) _ k (Bd h) (by grind [J3]) hk,List.length_append,List.length_singleton,DA,List.append_assoc]
  rfl
theorem Qk (n:Net) (h:n.Small):FD n=some (DA 0 n.agents):=by
 obtain⟨hl,hs⟩:=h.agents
 unfold FD
 have:=Z6 n hl hs n.agents [] [] fuel rfl (by have:=h.1; grind) (by rw [BF]; have:=h.1; grind)
 grind
def WL (l:List Agent) (p:Port):Bool:=match FW l p with
 |some q=> !P0 l p.agent.toNat p.slot.toNat q
 |none=>true
theorem Tx (n:Net) (i k:Nat) (q:Port) (hq:FW n.agents ⟨(i:Int),(k:Int)⟩=some q):Ei ⟨(i:Int),(k:Int)⟩ n=some (WL n.agents ⟨(i:Int),(k:Int)⟩):=by
 have hpeer:∀ (p r:Port),FW n.agents p=some r→CB n p=some r:=fun p r h=>by
  grind [FW,CB]
 grind [Ei,WL,Tw,P0,Int.toNat_natCast]
theorem Ql (l:List Port) (f:Port→Option Bool) (p:Port→Bool) (hl:l.length≤Big) (hf:∀x ∈ l,f x=some (p x)):BH l f=some (l.any p):=by
 obtain⟨i,h1,h2,-⟩:=Hm Ak (fun n l i f=>by rw [Ak]) l f p hl hf
 grind [BH,CI]
theorem Uv {l pre post:List Agent} {x:Agent} {ppre ppost:List Port} {p:Port} (h:l=pre++x::post) (hx:x.ports=ppre++p::ppost):FW l ⟨(pre.length:Int),(ppre.length:Int)⟩=some p:=by
 unfold FW
 rw [Ce h,Option.bind_some,Ce hx]
theorem P9 {l pre post:List Agent} {x:Agent} (h:l=pre++x::post):∀ (ps ppre:List Port),x.ports=ppre++ps→(FM pre.length ppre.length ps).any (WL l)= !FL l pre.length ppre.length ps
 | [],_,_=>by rfl
 |p::ps,ppre,hx=>by
  have:=P9 h ps (ppre++[p]) (Bd hx)
  rw [List.length_append,List.length_singleton] at this
  rw [FM,FL,List.any_cons,this,WL,Uv h hx]
  simp
theorem QA {l pre post:List Agent} {x:Agent} (h:l=pre++x::post):∀ (ps ppre:List Port),x.ports=ppre++ps→∀y ∈ FM pre.length ppre.length ps,∃ (i k:Nat) (q:Port),y=⟨(i:Int),(k:Int)⟩∧FW l ⟨(i:Int),(k:Int)⟩=some q
 | [],_,_,y,hy=>by grind [FM]
 |p::ps,ppre,hx,y,hy=>by
  rw [FM,List.mem_cons] at hy
  rcases hy with rfl|hy
  ·exact⟨_,_,p,rfl,Uv h hx⟩
  ·exact QA h ps (ppre++[p]) (Bd hx) y (by rw [List.length_append,List.length_singleton]; exact hy)
theorem Uw {l:List Agent}:∀ (post pre:List Agent),l=pre++post→(DA pre.length post).any (WL l)= !Dz l pre.length post
 | [],_,_=>by rfl
 |x::post,pre,h=>by
  have h1:=Uw post (pre++[x]) (Bd h)
  rw [List.length_append,List.length_singleton] at h1
  grind [P9,List.length_nil,DA,Dz]
theorem Ux {l:List Agent}:∀ (post pre:List Agent),l=pre++post→∀y ∈ DA pre.length post,∃ (i k:Nat) (q:Port),y=⟨(i:Int),(k:Int)⟩∧FW l ⟨(i:Int),(k:Int)⟩=some q
 | [],_,_,y,hy=>by grind [DA]
 |x::post,pre,h,y,hy=>by
  rw [DA,List.mem_append] at hy
  rcases hy with hy|hy
  ·exact QA h x.ports [] rfl y hy
  ·exact Ux post (pre++[x]) (Bd h) y (by rw [List.length_append,List.length_singleton]; exact hy)
theorem Uy (n:Net) (h:n.Small):DI n=some n.valid:=by
 obtain⟨hl,hs⟩:=h.agents
 unfold DI Net.valid
 rw [Tv _ hl hs,AA,Qk n h,AA,Ql _ _ (WL n.agents) (Nat.le_trans (K8 _ _) h.1) (fun y hy=>by
  obtain⟨i,k,q,rfl,hq⟩:=Ux n.agents [] rfl y hy
  grind [Tx]),AA]
 have:=Uw (l:=n.agents) n.agents [] rfl
 rw [List.length_nil] at this
 rw [this]
 cases agentsB n.agents <;> simp
end Go.Proofs.YtoncbhomocgmcaaGreatDoor.Ab
