/-
  Plain lemmas for the laws about models: loops over lists, bounded arithmetic. No program is in sight.
-/
import Derived.Test.YtclmbjbbojdojaaGreatAbY
import Derived.Test.YtclmbjbbojdojaaGreatMod
import Derived.Test.YtclmbjbbojdojaaGreatModU
namespace Go.Proofs.YtclmbjbbojdojaaGreat.Ab
set_option linter.unusedVariables false
set_option linter.unusedSimpArgs false
open Go.RowKit
theorem w64 {n} (h1: -9223372036854775808≤n) (h2:n≤9223372036854775807):IntKind.i64.wrap n=n:=dB h1 h2
abbrev Big:Nat:=4294967296
section
variable {α:Type} {l pre post:List α} {x:α}
theorem CY (h:l=pre++x::post):decide (((List.length pre:Nat):Int)<((List.length l:Nat):Int))=true:=by
 subst h; simp only [List.length_append,List.length_cons,decide_eq_true_eq]; omega
theorem DR (h:l=pre++[]):decide (((List.length pre:Nat):Int)<((List.length l:Nat):Int))=false:=by
 subst h; simp
theorem Bn (h:l=pre++x::post):at? l ((List.length pre:Nat):Int)=some x:=by
 subst h
 unfold at?
 rw [if_pos (by omega)]
 simp
theorem BC (h:l=pre++x::post) (hl:l.length≤Big):IntKind.i64.wrap (((List.length pre:Nat):Int)+1)=((List.length (pre++[x]):Nat):Int):=by
 subst h
 simp only [List.length_append,List.length_cons,List.length_nil,Big] at hl ⊢
 rw [w64 (by omega) (by omega)]
 omega
theorem A1 (h:l=pre++x::post):l=(pre++[x])++post:=by rw [h]; simp
theorem GD {a b:List α} (h:a.length+b.length≤Big):app? a b=some (a++b):=by
 unfold app?; rw [if_pos (by unfold Big at h; omega)]
theorem GV {z:α} {n:Nat} (h:n≤Big):rep? (n:Int) z=some (List.replicate n z):=by
 unfold rep?; rw [if_pos (by unfold Big at h; omega)]; simp
theorem a5 {z} {k}:aw (pre++List.replicate (k+1) z) ((List.length pre:Nat):Int) x=(pre++[x])++List.replicate k z:=by
 unfold aw
 simp [List.replicate_succ]
theorem T1 {z} {k}:Ah (pre++List.replicate (k+1) z) ((List.length pre:Nat):Int) x=some ((pre++[x])++List.replicate k z):=by
 unfold Ah; rw [a5]
theorem Yw {z} {k}:at? (pre++List.replicate (k+1) z) ((List.length pre:Nat):Int)=some z:=by
 unfold at?
 rw [if_pos (by omega)]
 simp
end
theorem AA {α β:Type} {a:α} {k:α→Option β}:Option.bind (some a) k=k a:=rfl
end Go.Proofs.YtclmbjbbojdojaaGreat.Ab
namespace Go.Proofs.YtclmbjbbojdojaaGreat.Ab
set_option linter.unusedVariables false
set_option linter.unusedSimpArgs false
open Go.RowKit
def szr (z left:Nat):Int:=if z≤left then ((left - z:Nat):Int) else -1
theorem V3 {z left}:decide (szr z left<0)=decide (left<z):=by
 unfold szr
 by_cases h:z≤left
 ·rw [if_pos h]; simp; omega
 ·rw [if_neg h]; simp; omega
theorem Yx {z left} (h:z≤left):szr z left=((left - z:Nat):Int):=if_pos h
theorem dT {z left} (h:left<z):szr z left= -1:=if_neg (by omega)
theorem V4 {n left:Nat} (h1:left≤1048576) (h2:n≤9223372036854775807):IntKind.i64.wrap ((left:Int) - (n:Int))=(left:Int) - n:=w64 (by omega) (by omega)
theorem Tx (l:List Int) (left:Nat) (h1:left≤1048576) (h2:l.length≤9223372036854775807):Ho l left=some (szr l.length left):=by
 unfold Ho
 rw [V4 h1 h2]
 by_cases h:l.length≤left
 ·rw [if_neg (by simp; omega),Yx h]; congr 1; omega
 ·rw [if_pos (by simp; omega),dT (by omega)]
theorem Qf (l:List Int) (hl:l.length≤Big):∀ (post pre:List Int) (n:Nat),l=pre++post→post.length<n→C9 n l (pre++List.replicate post.length 0) ((List.length pre:Nat):Int)=some l:=by
 intro post
 induction post with
 |nil=>
  intro pre n h hn
  obtain⟨n,rfl⟩:∃m,n=m+1:=⟨n - 1,by omega⟩
  rw [C9,DR h]; simp [h]
 |cons x post ih=>
  intro pre n h hn
  obtain⟨n,rfl⟩:∃m,n=m+1:=⟨n - 1,by omega⟩
  rw [C9,if_pos (CY h),Bn h,AA,List.length_cons,Yw,AA,T1,AA,BC h hl]
  exact ih (pre++[x]) n (A1 h) (by simp at hn; omega)
theorem OU (l:List Int) (hl:l.length≤Big):Dl l=some l:=by
 unfold Dl
 rw [GV hl,AA]
 exact Qf l hl l [] fuel (by simp) (by rw [B3]; unfold Big at hl; omega)
end Go.Proofs.YtclmbjbbojdojaaGreat.Ab
namespace Go.Proofs.YtclmbjbbojdojaaGreat.Ab
set_option linter.unusedVariables false
set_option maxHeartbeats 1000000
set_option linter.unusedSimpArgs false
open Go.RowKit
def szl {α:Type} (s:α→Nat):List α→Nat
 | [] =>0
 |x::l=>1+s x+szl s l
theorem Aw {α:Type} (s:α→Nat):∀l:List α,l.length≤szl s l
 | [] =>by simp
 |x::l=>by rw [szl,List.length_cons]; have:=Aw s l; omega
theorem A9 {α:Type} {s:α→Nat} {x:α}:∀ {l:List α},x ∈ l→s x<szl s l
 |y::l,h=>by
  rw [szl]
  rcases List.mem_cons.1 h with rfl|h
  ·omega
  ·have:=A9 (s:=s) h; omega
theorem O5 {k:Int→Option Int} {z left rest:Nat} {X:Option Int} (hX:X=some (szr z left)) (hk:z≤left→k ((left - z:Nat):Int)=some (szr rest (left - z))):
  (Option.bind X fun v=>if decide (v<0)=true then some (-1) else k v)=some (szr (z+rest) left):=by
 rw [hX,AA,V3]
 grind [szr]
theorem V2 {k:Int→Option Int} {z left rest:Nat} (h1:left≤1048576) (h2:z≤9223372036854775807) (hk:z≤left→k ((left - z:Nat):Int)=some (szr rest (left - z))):
  (if decide (IntKind.i64.wrap ((left:Int) - (z:Int))<0)=true then some (-1) else k (IntKind.i64.wrap ((left:Int) - (z:Int))))=some (szr (z+rest) left):=by
 rw [V4 h1 h2]
 grind [szr]
theorem U9 {left}:some ((left:Nat):Int)=some (szr 0 left):=by rfl
theorem gSz {α:Type} (L:Nat→Int→Int→Option Int) (g:α→Int→Option Int) (s:α→Nat) (l:List α) (hL:∀n p i,L (n+1) p i=(if (decide (i<((List.length l:Nat):Int)))=true then (Option.bind (at? l i) fun x=>(Option.bind (g x p) fun v=>(if (decide (v<0))=true then (some (-1)) else (L n v (IntKind.i64.wrap (i+1)))))) else (some p)))
  (left:Nat) (h1:left≤1048576) (hg:∀x ∈ l,∀k:Nat,k≤1048576→g x k=some (szr (s x) k)) (hl:l.length≤9223372036854775807):
  (if decide (IntKind.i64.wrap ((left:Int) - ((List.length l:Nat):Int))<0)=true then some (-1) else L fuel (IntKind.i64.wrap ((left:Int) - ((List.length l:Nat):Int))) 0)=some (szr (szl s l) left):=by
 have hsz:=Aw s l
 have:=V2 (k:=fun v=>L fuel v 0) (rest:=szl s l - l.length) h1 hl fun h=>?_
 ·rw [show l.length+(szl s l - l.length)=szl s l from by omega] at this
  omega
 ·have loop:∀ (post pre:List α) (n l3:Nat),l=pre++post→l3≤left→post.length<n→L n l3 ((List.length pre:Nat):Int)=some (szr (szl s post - post.length) l3):=by
   intro post
   induction post with
   |nil=>
    intro pre n l3 h _ hn
    obtain⟨n,rfl⟩:∃m,n=m+1:=⟨n - 1,by omega⟩
    rw [hL,DR h]
    rfl
   | cons x post ihp=>
    intro pre n l3 hh h4 hn
    obtain⟨n,rfl⟩:∃m,n=m+1:=⟨n - 1,by omega⟩
    have hx:x ∈ l:=by rw [hh]; simp
    have hp:=Aw s post
    rw [hL,if_pos (CY hh),Bn hh,AA]
    have e:=O5 (k:=fun v=>L n v (IntKind.i64.wrap (((List.length pre:Nat):Int)+1))) (rest:=szl s post - post.length) (hg x hx l3 (by omega)) fun h5=>by
     rw [BC hh (by grind)]
     grind
    rw [szl,List.length_cons,show 1+s x+szl s post - (post.length+1)=s x+(szl s post - post.length) from by omega]
    exact e
  exact loop l [] fuel (left - l.length) (by simp) (by omega) (by rw [B3]; omega)
theorem gTo {α:Type} (L:Nat→List α→Int→Option (List α)) (g:α→Option α) (z:α) (l:List α) (hL:∀n acc i,L (n+1) acc i=(if (decide (i<((List.length l:Nat):Int)))=true then (Option.bind (at? l i) fun x=>(Option.bind (g x) fun y=>(Option.bind (at? acc i) fun _=>(Option.bind (Ah acc i y) fun z=>(L n z (IntKind.i64.wrap (i+1))))))) else (some acc)))
  (hl:l.length≤Big) (hg:∀x ∈ l,g x=some x):(Option.bind (rep? ((List.length l:Nat):Int) z) fun acc=>L fuel acc 0)=some l:=by
 have loop:∀ (post pre:List α) (n:Nat),l=pre++post→post.length<n→L n (pre++List.replicate post.length z) ((List.length pre:Nat):Int)=some l:=by
  intro post
  induction post with
  |nil=>
   intro pre n h hn
   obtain⟨n,rfl⟩:∃m,n=m+1:=⟨n - 1,by omega⟩
   rw [hL,DR h]; simp [h]
  |cons x post ih=>
   intro pre n h hn
   obtain⟨n,rfl⟩:∃m,n=m+1:=⟨n - 1,by omega⟩
   rw [hL,if_pos (CY h),Bn h,AA,hg x (by rw [h]; simp),AA,List.length_cons,Yw,AA,T1,AA,BC h hl]
   grind
 rw [GV hl,AA]
 exact loop l [] fuel (by simp) (by rw [B3]; grind)
def Ar (o:Option Bool) (p:Prop):Prop:=∃b,o=some b∧(b=true↔p)
theorem Ar.mk {b} {p:Prop} (h:b=true↔p):Ar (some b) p:=⟨b,rfl,h⟩
theorem Ar.iff {o} {p q:Prop} (h:Ar o p) (hpq:p↔q):Ar o q:=by
 grind
theorem Ar.true {o} {p:Prop} (h:Ar o p) (hp:p):o=some true:=by
 obtain⟨b,rfl,h1⟩:=h
 rw [h1.2 hp]
theorem Bh {b} {X} {p q:Prop} (h:b=true↔p) (hX:p→Ar X q):Ar (if (!b)=true then some false else X) (p∧q):=by
 cases b with
 |true=>grind
 |false=>exact⟨false,rfl,⟨fun k=>Bool.noConfusion k,fun k=>h.2 k.1⟩⟩
theorem VE {o} {k} {p r:Prop} (h:Ar o p) (hk:∀b,(b=true↔p)→Ar (k b) r):Ar (Option.bind o k) r:=by
 obtain⟨b,rfl,h1⟩:=h
 grind
theorem AR {o} {X} {p q:Prop} (h:Ar o p) (hX:p→Ar X q):Ar (Option.bind o fun b=>if (!b)=true then some false else X) (p∧q):=
 VE h fun b hb=>Bh hb hX
theorem CG:Ar (some true) True:=.mk (by simp)
theorem EV {p:Prop} [Decidable p] :decide p=true↔p:=decide_eq_true_iff
theorem a6 {α β:Type} {l:List α} {m:List β}:decide (((List.length l:Nat):Int)=((List.length m:Nat):Int))=true↔l.length=m.length:=by
 rw [decide_eq_true_iff]; omega
theorem gEq {α:Type} (L:Nat→Int→Option Bool) (f:α→α→Option Bool) (l m:List α) (hL:∀n i,L (n+1) i=(if (decide (i<((List.length l:Nat):Int)))=true then (Option.bind (at? l i) fun x=>(Option.bind (at? m i) fun y=>(Option.bind (f x y) fun v=>(if (!v)=true then (some false) else (L n (IntKind.i64.wrap (i+1))))))) else (some true)))
  (hl:l.length≤Big) (hlen:l.length=m.length) (hf:∀x ∈ l,∀y ∈ m,Ar (f x y) (x=y)):Ar (L fuel 0) (l=m):=by
 have loop:∀ (post post' pre pre':List α) (n:Nat),l=pre++post→m=pre'++post'→pre.length=pre'.length→post.length<n→Ar (L n ((List.length pre:Nat):Int)) (post=post'):=by
  intro post
  induction post with
  |nil=>
   intro post' pre pre' n h h' hpp hn
   obtain⟨n,rfl⟩:∃m,n=m+1:=⟨n - 1,by omega⟩
   rw [hL,DR h]
   obtain rfl:post'=[] :=List.eq_nil_of_length_eq_zero (by rw [h,h'] at hlen; grind)
   exact .mk (by simp)
  | cons x post ih=>
   intro post' pre pre' n h h' hpp hn
   obtain⟨n,rfl⟩:∃m,n=m+1:=⟨n - 1,by omega⟩
   cases post' with
   |nil=>rw [h,h'] at hlen; grind
   |cons y post'=>
    rw [hL,if_pos (CY h),Bn h,AA,hpp,Bn h',AA,← hpp,BC h hl]
    refine(AR (hf x (by rw [h]; simp) y (by rw [h']; simp)) fun _=>ih post' (pre++[x]) (pre'++[y]) n (A1 h) (A1 h') (by grind) (by grind)).iff ?_
    simp
 exact loop l m [] [] fuel (by simp) (by simp) rfl (by rw [B3]; grind)
theorem Oc {α:Type} (L:Nat→Int→Option Bool) (f:α→α→Option Bool) (l m:List α) (hL:∀n i,L (n+1) i=(if (decide (i<((List.length l:Nat):Int)))=true then (Option.bind (at? l i) fun x=>(Option.bind (at? m i) fun y=>(Option.bind (f x y) fun v=>(if (!v)=true then (some false) else (L n (IntKind.i64.wrap (i+1))))))) else (some true)))
  (hl:l.length≤Big) (hf:∀x ∈ l,∀y ∈ m,Ar (f x y) (x=y)):Ar (if (!decide (((List.length l:Nat):Int)=((List.length m:Nat):Int)))=true then some false else L fuel 0) (l=m):=
 (Bh a6 fun h=>gEq L f l m hL hl h hf).iff ⟨fun h=>h.2,fun h=>⟨by rw [h],h⟩⟩
theorem ED (l m:List Int) (hl:l.length≤Big):Ar (Cs l m) (l=m):=by
 unfold Cs
 exact Oc (fun n i=>Dm n l m i) (fun x y=>some (decide (x=y))) l m (fun n i=>by rw [Dm]; rfl) hl fun x _ y _=>.mk EV
theorem SL (s:ByteArray):HC s s=true:=by grind [HC]
theorem dU {k:Int→Option Bool} {z left:Nat} {X:Option Int} (hX:X=some (szr z left)) (hk:z≤left→k ((left - z:Nat):Int)=some true):
  (Option.bind X fun v=>if decide (v<0)=true then some true else k v)=some true:=by
 rw [hX,AA,V3]
 grind [Yx]
end Go.Proofs.YtclmbjbbojdojaaGreat.Ab
namespace Go.Proofs.YtclmbjbbojdojaaGreat.Ab
set_option linter.unusedVariables false
set_option linter.unusedSimpArgs false
set_option maxRecDepth 20000
set_option maxHeartbeats 4000000
open Go.RowKit
theorem Jb {α:Type} (L:Nat→List α→Int→(α→Option Bool)→Option Int) (hL:∀n l i f,L (n+1) l i f=(if (decide (i<((List.length l:Nat):Int)))=true then (Option.bind (at? l i) fun x=>(Option.bind (f x) fun b=>(if b=true then (some i) else (L n l (IntKind.i64.wrap (i+1)) f)))) else (some (-1))))
  (l:List α) (f:α→Option Bool) (p:α→Bool) (hl:l.length≤Big) (hf:∀x ∈ l,f x=some (p x)):∃i:Int,L fuel l 0 f=some i∧(0≤i↔l.any p=true)∧(l.any p=false→i= -1):=by
 have loop:∀ (post pre:List α) (n:Nat),l=pre++post→post.length<n→∃i:Int,L n l ((List.length pre:Nat):Int) f=some i∧(0≤i↔post.any p=true)∧(post.any p=false→i= -1):=by
  intro post
  induction post with
  |nil=>
   intro pre n h hn
   obtain⟨n,rfl⟩:∃m,n=m+1:=⟨n - 1,by omega⟩
   rw [hL,DR h]
   exact⟨-1,rfl,by simp,fun _=>rfl⟩
  | cons x post ih=>
   intro pre n h hn
   obtain⟨n,rfl⟩:∃m,n=m+1:=⟨n - 1,by omega⟩
   rw [hL,if_pos (CY h),Bn h,AA,hf x (by rw [h]; simp),AA]
   by_cases hp:p x=true
   ·rw [if_pos hp]
    exact⟨_,rfl,by simp [hp],by simp [hp]⟩
   ·rw [if_neg hp,BC h hl]
    obtain⟨i,h1,h2,h3⟩:=ih (pre++[x]) n (A1 h) (by simp at hn; omega)
    have hp':p x=false:=by simpa using hp
    exact⟨i,h1,by simpa [hp'] using h2,by simpa [hp'] using h3⟩
 exact loop l [] fuel (by simp) (by rw [B3]; unfold Big at hl; omega)
theorem T2 (l:List Int) (f:Int→Option Bool) (p:Int→Bool) (hl:l.length≤Big) (hf:∀x ∈ l,f x=some (p x)):Ay l f=some (l.any p):=by
 obtain⟨i,h1,h2,-⟩:=Jb Aq (fun n l i f=>by rw [Aq]) l f p hl hf
 unfold Ay EN
 rw [h1,AA]
 congr 1
 rw [Bool.eq_iff_iff,decide_eq_true_eq]; exact h2
def GE (n:Int):Bool:=decide (0≤n∧n≤23)
theorem FW (n a b:Int):Cp n a b=some (decide (a≤n∧n≤b)):=by
 unfold Cp
 by_cases h:a≤n <;> simp [h]
theorem Yy (n:Int):K7 n=some (decide (-2147483648≤n∧n≤2147483647)):=by
 unfold K7
 by_cases h: -2147483648≤n <;> simp [h]
theorem Qg (n:Int):FA n=some (decide (1≤n∧n≤6)):=by
 unfold FA
 by_cases h:1≤n <;> simp [h]
theorem LW (n:Int):E9 n=some (GE n):=by
 unfold E9 GE
 by_cases h:0≤n
 ·simp [h]; omega
 ·simp [h]
theorem a7 {l:List Int}:l.any (fun k=> !GE k)= !l.all GE:=by
 induction l with
 |nil=>rfl
 |cons x xs ih=>simp only [List.any_cons,List.all_cons,ih,Bool.not_and]
end Go.Proofs.YtclmbjbbojdojaaGreat.Ab
namespace Go.Proofs.YtclmbjbbojdojaaGreat.Ab
set_option linter.unusedVariables false
set_option maxHeartbeats 1000000
set_option linter.unusedSimpArgs false
open Go.RowKit
theorem kind_cases (k:Int):k=1∨k=2∨k=3∨k=4∨k=5∨k=6∨k=7∨k=8∨k=9∨k=10∨k=11∨k=12∨(k<1∨12<k):=by omega
def ports (k f:Int):Int:=
 if k=9 then (if 0≤f∧f≤3 then f+1 else 0) else if f≠0 then 0
 else if k=1∨k=5∨k=6∨k=12 then 1 else if k=8∨k=10∨k=11 then 2 else if k=2∨k=3∨k=4∨k=7 then 3 else 0
theorem Ri {k:Int} (h:k<1∨12<k):k≠1∧k≠2∧k≠3∧k≠4∧k≠5∧k≠6∧k≠7∧k≠8∧k≠9∧k≠10∧k≠11∧k≠12:=by omega
theorem XI (k f:Int):HU k f=some (ports k f):=by
 have hw:0≤f∧f≤3→IntKind.i64.wrap (1+f)=f+1:=fun h=>by rw [w64 (by omega) (by omega)]; omega
 by_cases hf:f=0
 ·subst hf
  rcases kind_cases k with h|h|h|h|h|h|h|h|h|h|h|h|h
  all_goals first|(subst h; rfl)|skip
  grind [Ri,HU,ER,FB,EQ,ports]
 grind [HU,FW,ports]
theorem K8 (k:Int):Hw k=some (decide (1≤k∧k≤12)):=by
 unfold Hw
 by_cases h:1≤k <;> simp [h]
theorem XJ (k f:Int):HT k f=some (ports k f):=by
 have hw:0≤f∧f≤3→IntKind.i64.wrap (f+1)=f+1:=fun h=>w64 (by omega) (by omega)
 by_cases hf:f=0
 ·subst hf
  rcases kind_cases k with h|h|h|h|h|h|h|h|h|h|h|h|h
  all_goals first|(subst h; rfl)|skip
  grind [HT,EP,EO,ports,K8]
 grind [HT,EP,ports,EO,K8]
def levB (k l:Int):Bool:=decide (1≤k∧k≤12)&&if k=1∨k=5∨k=6 then decide (l=0) else decide (0≤l∧l≤8)
theorem XK (k l:Int):GS k l=some (levB k l):=by
 rcases kind_cases k with h|h|h|h|h|h|h|h|h|h|h|h|h
 all_goals first|(subst h; simp [GS,Hy,BE,Iq,levB,FW,AA]; done)|skip
 grind [Ri,GS,Hy,BE,Iq,levB,FW]
theorem T3 (k l:Int):Fr k l=some (levB k l):=by
 have hl:decide (l=0)=true∨decide (l=0)=false:=by cases decide (l=0) <;> simp
 rcases kind_cases k with h|h|h|h|h|h|h|h|h|h|h|h|h
 all_goals first|(subst h; by_cases h0:l=0 <;> by_cases h1:0≤l <;> simp [Fr,K8,JW,K6,levB,AA,h0,h1]; done)|skip
 grind [Fr,K8,levB]
def QA (a:Agent):Bool:=
 if a.kind=6 then decide (a.data.length=0)&&decide (-2147483648≤a.value∧a.value≤2147483647)
 else if a.kind=7 then decide (a.data.length=0)&&decide (1≤a.value∧a.value≤6)
 else if a.kind=8 then decide (a.data.length=1)&&decide (1≤a.value∧a.value≤6)&&a.data.all fun d=>decide (-2147483648≤d∧d≤2147483647)
 else if a.kind=9 then decide (a.data.length=0)&&decide (0≤a.value∧a.value≤3)
 else if a.kind=12 then decide (a.data.length=0)&&GE a.value
 else if a.kind=10 then decide (a.value=0)&&decide (1≤a.data.length∧a.data.length≤4)&&a.data.all GE
 else if a.kind=11 then decide (a.value=0)&&decide (a.data.length=2)&&a.data.all GE
 else decide (a.value=0)&&decide (a.data.length=0)
theorem Rj (n:Int):Hz n=some (GE n):=by
 unfold Hz
 rw [FW,AA]; rfl
theorem lM {α:Type} (L:Nat→Int→Option Bool) (f:α→Option Bool) (p:α→Bool) (l:List α) (hL:∀n i,L (n+1) i=(if (decide (i<((List.length l:Nat):Int)))=true then (Option.bind (at? l i) fun x=>(Option.bind (f x) fun v=>(if (!v)=true then (some false) else (L n (IntKind.i64.wrap (i+1)))))) else (some true)))
  (hl:l.length≤Big) (hf:∀x ∈ l,f x=some (p x)):L fuel 0=some (l.all p):=by
 have loop:∀ (post pre:List α) (n:Nat),l=pre++post→post.length<n→L n ((List.length pre:Nat):Int)=some (post.all p):=by
  intro post
  induction post with
  |nil=>
   intro pre n h hn
   obtain⟨n,rfl⟩:∃m,n=m+1:=⟨n - 1,by omega⟩
   rw [hL,DR h]; simp
  |cons x post ih=>
   intro pre n h hn
   obtain⟨n,rfl⟩:∃m,n=m+1:=⟨n - 1,by omega⟩
   rw [hL,if_pos (CY h),Bn h,AA,hf x (by rw [h]; simp),AA,BC h hl,List.all_cons]
   grind
 exact loop l [] fuel rfl (by rw [B3]; grind)
theorem g7 {α:Type} {l:List α}:decide (((List.length l:Nat):Int)=0)=decide (l.length=0):=by grind
theorem len1 {α:Type} {l:List α}:decide (((List.length l:Nat):Int)=1)=decide (l.length=1):=by grind
theorem g8 {α:Type} {l:List α}:decide (((List.length l:Nat):Int)=2)=decide (l.length=2):=by grind
theorem g9 {α:Type} {l:List α}:decide (1≤((List.length l:Nat):Int)∧((List.length l:Nat):Int)≤4)=decide (1≤l.length∧l.length≤4):=by grind
theorem T4 (a:Agent) (hd:a.data.length≤Big):CO fuel a 0=some (a.data.all GE):=
 lM (fun n i=>CO n a i) Hz GE a.data (fun n i=>by rw [CO]) hd fun x _=>Rj x
theorem T5 (a:Agent) (hd:a.data.length≤Big):GA a=some (QA a):=by
 have h3:=T4 a hd
 unfold GA QA
 rcases kind_cases a.kind with h|h|h|h|h|h|h|h|h|h|h|h|h
 all_goals try simp only [h,EY,Bq,FW,Rj,AA,h3,g7,len1,g8,g9,eq_self,decide_true,reduceIte,Int.reduceEq,decide_false,Bool.false_eq_true]
 all_goals first|(by_cases h0:a.value=0 <;> by_cases h1:a.data.length=0 <;> simp [h0,h1]; done)|skip
 ·match hdd:a.data with
  | [] =>simp
  | [d] =>by_cases h1:1≤a.value∧a.value≤6 <;> simp [at?,h1]
  |d::e::l=>simp
 ·cases decide (a.value=0) <;> cases decide (1≤a.data.length∧a.data.length≤4) <;> simp
 ·cases decide (a.value=0) <;> cases decide (a.data.length=2) <;> simp
 grind
theorem Yz {l:List Int}:l.any (fun k=> !GE k)= !l.all GE:=a7
theorem Y0 (l:List Int) (hl:l.length≤Big):Ay l (fun y0=>Ey y0)=some (!l.all GE):=by
 rw [T2 l _ (fun k=> !GE k) hl (fun x _=>by unfold Ey; rw [LW,AA]),Yz]
def agB (a:Agent):Bool:=decide (0<a.ports.length∧ports a.kind (if a.kind=9 then (a.ports.length:Int) - 1 else 0)=(a.ports.length:Int))&&levB a.kind a.level&&QA a
theorem XL (a:Agent) (hp:a.ports.length≤Big) (hd:a.data.length≤Big):H0 a=some (agB a):=by
 have hf:Gp a=some (if a.kind=9 then (a.ports.length:Int) - 1 else 0):=by
  grind [Gp,w64]
 unfold H0 agB
 rw [hf,AA,XI,AA,XK,T5 a hd]
 generalize ports a.kind _=p
 by_cases h:0<a.ports.length∧p=(a.ports.length:Int)
 ·obtain⟨h1,rfl⟩:=h
  have h2:(0:Int)<(a.ports.length:Int):=by omega
  cases levB a.kind a.level <;> simp [h1,h2,AA]
 ·by_cases h1:(0:Int)<p
  ·have h2:¬ ((a.ports.length:Int)=p):=by omega
   grind
  ·simp [h,h1]
theorem hD (x y:Bool):Aj x y=some (x&&y):=by cases x <;> simp [Aj]
theorem T6 (a:Agent) (hd:a.data.length≤Big):CN a false=some (QA a):=by
 unfold CN QA
 rw [if_neg (by simp),Y0 a.data hd,AA]
 rcases kind_cases a.kind with h|h|h|h|h|h|h|h|h|h|h|h|h
 all_goals try simp only [h,hD,Yy,Qg,LW,AA,g7,len1,g8,eq_self,decide_true,reduceIte,Int.reduceEq,decide_false,Bool.false_eq_true,Bool.not_not]
 all_goals first|(by_cases h0:a.value=0 <;> by_cases h1:a.data.length=0 <;> simp [h0,h1]; done)|skip
 ·match hdd:a.data with
  | [] =>simp
  | [d] =>by_cases h1:1≤a.value∧a.value≤6 <;> simp [at?,h1]
  |d::e::l=>simp
 ·grind
 ·by_cases h1:1≤a.data.length <;> by_cases h2:a.data.length≤4
  ·have e1:(1:Int)≤(a.data.length:Int):=by omega
   have e2:(a.data.length:Int)≤4:=by omega
   grind
  ·have e2:¬ (a.data.length:Int)≤4:=by omega
   grind
  ·have e1:¬ (1:Int)≤(a.data.length:Int):=by omega
   grind
  omega
 ·cases decide (a.value=0) <;> cases decide (a.data.length=2) <;> simp
 grind
theorem Rk (a:Agent) (hp:a.ports.length≤Big) (hd:a.data.length≤Big):E7 a=some (agB a):=by
 unfold E7 agB
 have hf:Hx a.kind ((List.length a.ports:Nat):Int)=some (if a.kind=9 then (a.ports.length:Int) - 1 else 0):=by
  grind [Hx,w64]
 rw [hf,AA,XJ,AA,T3,AA]
 grind [ports,CN,decide_eq_false,T6]
def SM:Nat→List Agent→Bool
 |_,[] =>true
 |i,x::l=>(agB x&&(decide (x.kind=1) == decide (i=0)))&&SM (i+1) l
def agentsB (l:List Agent):Bool:=decide (1≤l.length∧l.length≤600)&&SM 0 l
def Agent.Small (a:Agent):Prop:=a.ports.length≤Big∧a.data.length≤Big
theorem T7 {n:Nat}:decide ((n:Int)=0)=decide (n=0):=by grind
theorem SN (l:List Agent) (hl:l.length≤Big) (hs:∀a ∈ l,a.Small):∀ (post pre:List Agent) (n:Nat),l=pre++post→2*post.length<n→CE n l ((List.length pre:Nat):Int)=some (SM pre.length post):=by
 intro post
 induction post with
 |nil=>
  intro pre n h hn
  obtain⟨n,rfl⟩:∃m,n=m+1:=⟨n - 1,by omega⟩
  rw [CE,DR h]; rfl
 |cons x post ih=>
  intro pre n h hn
  simp only [List.length_cons] at hn
  obtain⟨n,rfl⟩:∃m,n=m+2:=⟨n - 2,by omega⟩
  obtain⟨h1,h2⟩:=hs x (by rw [h]; simp)
  rw [CE,if_pos (CY h),Bn h,AA,XL x h1 h2,AA,AA,DN,DN,BC h hl,ih (pre++[x]) n (A1 h) (by omega),SM,T7]
  grind
theorem VF (l:List Agent) (hl:l.length≤Big) (hs:∀a ∈ l,a.Small):Gq l=some (agentsB l):=by
 unfold Gq agentsB
 rw [FW,AA]
 have:=SN l hl hs l [] fuel rfl (by rw [B3]; grind)
 simp only [List.length_nil,Int.natCast_zero] at this
 rw [this]
 have e:decide (1≤((List.length l:Nat):Int)∧((List.length l:Nat):Int)≤600)=decide (1≤l.length∧l.length≤600):=by grind
 rw [e]
 cases decide (1≤l.length∧l.length≤600) <;> rfl
theorem SO (l:List Agent) (hl:l.length≤Big) (hs:∀a ∈ l,a.Small):∀ (post pre:List Agent) (n:Nat),l=pre++post→2*post.length<n→CD n l ((List.length pre:Nat):Int)=some (SM pre.length post):=by
 intro post
 induction post with
 |nil=>
  intro pre n h hn
  obtain⟨n,rfl⟩:∃m,n=m+1:=⟨n - 1,by omega⟩
  rw [CD,DR h]; rfl
 |cons x post ih=>
  intro pre n h hn
  simp only [List.length_cons] at hn
  obtain⟨n,rfl⟩:∃m,n=m+2:=⟨n - 2,by omega⟩
  obtain⟨h1,h2⟩:=hs x (by rw [h]; simp)
  rw [CD,if_pos (CY h),Bn h,AA,Rk x h1 h2,AA,DM,DM,BC h hl,ih (pre++[x]) n (A1 h) (by omega),SM,T7]
  grind
theorem VG (l:List Agent) (hl:l.length≤Big) (hs:∀a ∈ l,a.Small):Gn l=some (agentsB l):=by
 have h4:=SO l hl hs l [] fuel rfl (by rw [B3]; grind)
 grind [Gn,agentsB,Ez]
def Dv (l:List Agent) (p:Port):Option Port:=(at? l p.agent).bind fun y=>at? y.ports p.slot
def T8 (l:List Agent) (i k:Nat) (p:Port):Bool:= !(decide (p.agent=i)&&decide (p.slot=k))&&match Dv l p with
 |some q=>decide (q.agent=i)&&decide (q.slot=k)
 |none=>false
def Ka (l:List Agent) (i:Nat):Nat→List Port→Bool
 |_,[] =>true
 |k,p::ps=>T8 l i k p&&Ka l i (k+1) ps
def GW (l:List Agent):Nat→List Agent→Bool
 |_,[] =>true
 |i,x::xs=>Ka l i 0 x.ports&&GW l (i+1) xs
def Net.valid (n:Net):Bool:=agentsB n.agents&&GW n.agents 0 n.agents
theorem M5 {α:Type} {l:List α} {i:Int} (h:¬ (0≤i∧i<(l.length:Int))):at? l i=none:=by
 grind [at?]
theorem SP {α:Type} {l:List α} {i:Int} (h:0≤i∧i<(l.length:Int)):∃x,at? l i=some x∧x ∈ l:=by
 simp_all [at?]
theorem Y1 (l:List Agent) (p:Port) (hl:l.length≤Big) (hs:∀a ∈ l,a.Small):Ir l p=some (Dv l p).isSome :=by
 unfold Ir Dv
 rw [FW,AA,w64 (by omega) (by grind)]
 by_cases h:0≤p.agent∧p.agent<(l.length:Int)
 ·obtain⟨y,hy,hm⟩:=SP h
  rw [decide_eq_true ⟨h.1,by omega⟩,if_pos rfl,hy,AA,AA,FW,AA]
  have:=(hs y hm).1
  rw [w64 (by omega) (by grind)]
  by_cases h2:0≤p.slot∧p.slot<(y.ports.length:Int)
  ·obtain⟨q,hq,-⟩:=SP h2
   rw [decide_eq_true ⟨h2.1,by omega⟩,hq]; rfl
  grind [M5]
 grind [M5]
theorem VH (l:List Agent) (p:Port):Ip l p=some (Dv l p).isSome :=by
 unfold Ip Dv
 by_cases h:0≤p.agent∧p.agent<(l.length:Int)
 ·obtain⟨y,hy,hm⟩:=SP h
  rw [decide_eq_true h.1,if_pos rfl,decide_eq_true h.2,if_pos rfl,hy,AA,AA]
  by_cases h2:0≤p.slot
  ·rw [decide_eq_true h2,if_pos rfl]
   by_cases h3:p.slot<(y.ports.length:Int)
   ·obtain⟨q,hq,-⟩:=SP ⟨h2,h3⟩
    rw [decide_eq_true h3,hq]; rfl
   grind [M5]
  grind [M5]
 grind [M5]
theorem T9 (n:Net) (hl:n.agents.length≤Big) (hs:∀a ∈ n.agents,a.Small) (i:Nat) (x:Agent) (hx:x.Small) (R:Bool) (N:Nat) (hR:∀m,N≤m→Dp m n (IntKind.i64.wrap ((i:Int)+1))=some R):
  ∀ (post pre:List Port) (m:Nat),x.ports=pre++post→2*post.length+1+N≤m→EI m n (i:Int) x ((List.length pre:Nat):Int)=some (Ka n.agents i pre.length post&&R):=by
 intro post
 induction post with
 |nil=>
  intro pre m h hm
  simp only [List.length_nil] at hm
  obtain⟨m,rfl⟩:∃k,m=k+1:=⟨m - 1,by omega⟩
  rw [EI,DR h,if_neg (by simp),hR m (by omega),Ka]; rfl
 | cons p post ih=>
  intro pre m h hm
  simp only [List.length_cons] at hm
  obtain⟨m,rfl⟩:∃k,m=k+2:=⟨m - 2,by omega⟩
  have h13:∀b,EJ (m+1) n (i:Int) ((List.length pre:Nat):Int) x b=some (!b&&(Ka n.agents i (pre.length+1) post&&R)):=fun b=>by
   rw [EJ,BC h hx.1,ih (pre++[p]) m (A1 h) (by omega),List.length_append,List.length_singleton]
   cases b <;> simp
  rw [EI,if_pos (CY h),Bn h,AA,h13,Y1 n.agents p hl hs,AA,Ka,T8]
  cases (decide (p.agent=(i:Int))&&decide (p.slot=((List.length pre:Nat):Int))) with
  |true=>simp
  | false=>
   rw [if_neg (by simp)]
   cases hp:Dv n.agents p with
   |none=>simp
   |some q=>
    grind [Dv,Option.bind_eq_some_iff]
theorem Y2 (n:Net) (hl:n.agents.length≤Big) (hs:∀a ∈ n.agents,a.Small):∀ (post pre:List Agent) (m:Nat),n.agents=pre++post→2*szl (fun a=>a.ports.length) post+1≤m→Dp m n ((List.length pre:Nat):Int)=some (GW n.agents pre.length post):=by
 intro post
 induction post with
 |nil=>
  intro pre m h hm
  obtain⟨m,rfl⟩:∃k,m=k+1:=⟨m - 1,by omega⟩
  rw [Dp,DR h]; rfl
 |cons x post ih=>
  intro pre m h hm
  simp only [szl] at hm
  obtain⟨m,rfl⟩:∃k,m=k+1:=⟨m - 1,by omega⟩
  rw [Dp,if_pos (CY h),Bn h,AA,GW]
  refine T9 n hl hs pre.length x (hs x (by rw [h]; simp)) _ (2*szl (fun a=>a.ports.length) post+1) (fun k hk=>?_) x.ports [] m rfl (by omega)
  rw [BC h hl,ih (pre++[x]) k (A1 h) hk,List.length_append,List.length_singleton]
def Net.Small (n:Net):Prop:=szl (fun a=>a.ports.length) n.agents≤Big∧∀a ∈ n.agents,a.data.length≤Big
theorem Net.Small.agents {n:Net} (h:n.Small):n.agents.length≤Big∧∀a ∈ n.agents,a.Small:=
 ⟨Nat.le_trans (Aw (fun a=>a.ports.length) _) h.1,fun a ha=>⟨by have:=A9 (s:=fun a:Agent=>a.ports.length) ha; have:=h.1; omega,h.2 a ha⟩⟩
theorem a8 (n:Net) (h:n.Small):M2 n=some n.valid:=by
 obtain⟨hl,hs⟩:=h.agents
 unfold M2 Net.valid
 rw [VF _ hl hs,AA]
 have:=Y2 n hl hs n.agents [] fuel rfl (by rw [B3]; have:=h.1; grind)
 simp only [List.length_nil,Int.natCast_zero] at this
 rw [this]
 cases agentsB n.agents <;> simp
def GF (i:Nat):Nat→List Port→List Port
 |_,[] =>[]
 |k,_::ps=>⟨(i:Int),(k:Int)⟩::GF i (k+1) ps
def B2:Nat→List Agent→List Port
 |_,[] =>[]
 |i,x::xs=>GF i 0 x.ports++B2 (i+1) xs
theorem L4 (i:Nat):∀ (ps:List Port) (k:Nat),(GF i k ps).length =ps.length
 | [],_=>rfl
 |_::ps,k=>by rw [GF,List.length_cons,L4 i ps,List.length_cons]
theorem Jc:∀ (l:List Agent) (i:Nat),(B2 i l).length ≤szl (fun a=>a.ports.length) l
 | [],_=>by grind [B2]
 |x::l,i=>by
  have:=Jc l (i+1)
  grind [B2,szl,L4]
theorem a9 (n:Net) (i:Nat) (x:Agent) (hx:x.Small) (Z:List Port) (N:Nat):
  ∀ (post pre:List Port) (acc:List Port) (m:Nat),x.ports=pre++post→acc.length+post.length≤Big→(∀m,N≤m→Bk m n (acc++GF i pre.length post) (IntKind.i64.wrap ((i:Int)+1))=some Z)→post.length+1+N≤m→Cm m n (i:Int) x acc ((List.length pre:Nat):Int)=some Z:=by
 intro post
 induction post with
 |nil=>
  intro pre acc m h hacc hR hm
  simp only [List.length_nil] at hm
  obtain⟨m,rfl⟩:∃k,m=k+1:=⟨m - 1,by omega⟩
  rw [Cm,DR h,if_neg (by simp)]
  grind [GF]
 |cons p post ih=>
  intro pre acc m h hacc hR hm
  simp only [List.length_cons] at hm hacc
  obtain⟨m,rfl⟩:∃k,m=k+1:=⟨m - 1,by omega⟩
  rw [Cm,if_pos (CY h),GD (by grind),AA,BC h hx.1]
  grind [GF]
theorem bA (n:Net) (hl:n.agents.length≤Big) (hs:∀a ∈ n.agents,a.Small):∀ (post pre:List Agent) (acc:List Port) (m:Nat),n.agents=pre++post→acc.length+szl (fun a=>a.ports.length) post≤Big→2*szl (fun a=>a.ports.length) post+1≤m→Bk m n acc ((List.length pre:Nat):Int)=some (acc++B2 pre.length post):=by
 intro post
 induction post with
 |nil=>
  intro pre acc m h hacc hm
  obtain⟨m,rfl⟩:∃k,m=k+1:=⟨m - 1,by omega⟩
  rw [Bk,DR h]; simp [B2]
 |cons x post ih=>
  intro pre acc m h hacc hm
  simp only [szl] at hm hacc
  obtain⟨m,rfl⟩:∃k,m=k+1:=⟨m - 1,by omega⟩
  rw [Bk,if_pos (CY h),Bn h,AA]
  refine a9 n pre.length x (hs x (by rw [h]; simp)) _ (2*szl (fun a=>a.ports.length) post+1) x.ports [] acc m rfl (by omega) (fun k hk=>?_) (by omega)
  rw [BC h hl,ih (pre++[x]) _ k (A1 h) (by grind [L4]) hk,List.length_append,List.length_singleton,B2,List.append_assoc]
  rfl
theorem M6 (n:Net) (h:n.Small):Ex n=some (B2 0 n.agents):=by
 obtain⟨hl,hs⟩:=h.agents
 unfold Ex
 have:=bA n hl hs n.agents [] [] fuel rfl (by have:=h.1; grind) (by rw [B3]; have:=h.1; grind)
 grind
def badB (l:List Agent) (p:Port):Bool:=match Dv l p with
 |some q=> !T8 l p.agent.toNat p.slot.toNat q
 |none=>true
theorem VI (n:Net) (i k:Nat) (q:Port) (hq:Dv n.agents ⟨(i:Int),(k:Int)⟩=some q):F9 ⟨(i:Int),(k:Int)⟩ n=some (badB n.agents ⟨(i:Int),(k:Int)⟩):=by
 have hpeer:∀ (p r:Port),Dv n.agents p=some r→EM n p=some r:=fun p r h=>by
  grind [Dv,EM]
 grind [F9,badB,VH,T8,Int.toNat_natCast]
theorem SQ (l:List Port) (f:Port→Option Bool) (p:Port→Bool) (hl:l.length≤Big) (hf:∀x ∈ l,f x=some (p x)):BW l f=some (l.any p):=by
 obtain⟨i,h1,h2,-⟩:=Jb As (fun n l i f=>by rw [As]) l f p hl hf
 grind [BW,C8]
theorem SR {l pre post:List Agent} {x:Agent} {ppre ppost:List Port} {p:Port} (h:l=pre++x::post) (hx:x.ports=ppre++p::ppost):Dv l ⟨((List.length pre:Nat):Int),((List.length ppre:Nat):Int)⟩=some p:=by
 unfold Dv
 rw [Bn h,Option.bind_some,Bn hx]
theorem Rl {l pre post:List Agent} {x:Agent} (h:l=pre++x::post):∀ (ps ppre:List Port),x.ports=ppre++ps→(GF pre.length ppre.length ps).any (badB l)= !Ka l pre.length ppre.length ps
 | [],_,_=>by rfl
 |p::ps,ppre,hx=>by
  have:=Rl h ps (ppre++[p]) (A1 hx)
  rw [List.length_append,List.length_singleton] at this
  rw [GF,Ka,List.any_cons,this,badB,SR h hx]
  simp
theorem Rm {l pre post:List Agent} {x:Agent} (h:l=pre++x::post):∀ (ps ppre:List Port),x.ports=ppre++ps→∀y ∈ GF pre.length ppre.length ps,∃ (i k:Nat) (q:Port),y=⟨(i:Int),(k:Int)⟩∧Dv l ⟨(i:Int),(k:Int)⟩=some q
 | [],_,_,y,hy=>by grind [GF]
 |p::ps,ppre,hx,y,hy=>by
  rw [GF,List.mem_cons] at hy
  rcases hy with rfl|hy
  ·exact⟨_,_,p,rfl,SR h hx⟩
  ·exact Rm h ps (ppre++[p]) (A1 hx) y (by rw [List.length_append,List.length_singleton]; exact hy)
theorem SS {l:List Agent}:∀ (post pre:List Agent),l=pre++post→(B2 pre.length post).any (badB l)= !GW l pre.length post
 | [],_,_=>by rfl
 |x::post,pre,h=>by
  have h1:=SS post (pre++[x]) (A1 h)
  rw [List.length_append,List.length_singleton] at h1
  grind [Rl,List.length_nil,B2,GW]
theorem ST {l:List Agent}:∀ (post pre:List Agent),l=pre++post→∀y ∈ B2 pre.length post,∃ (i k:Nat) (q:Port),y=⟨(i:Int),(k:Int)⟩∧Dv l ⟨(i:Int),(k:Int)⟩=some q
 | [],_,_,y,hy=>by grind [B2]
 |x::post,pre,h,y,hy=>by
  rw [B2,List.mem_append] at hy
  rcases hy with hy|hy
  ·exact Rm h x.ports [] rfl y hy
  ·exact ST post (pre++[x]) (A1 h) y (by rw [List.length_append,List.length_singleton]; exact hy)
theorem bB (n:Net) (h:n.Small):Hv n=some n.valid:=by
 obtain⟨hl,hs⟩:=h.agents
 unfold Hv Net.valid
 rw [VG _ hl hs,AA,M6 n h,AA,SQ _ _ (badB n.agents) (Nat.le_trans (Jc _ _) h.1) (fun y hy=>by
  obtain⟨i,k,q,rfl,hq⟩:=ST n.agents [] rfl y hy
  grind [VI]),AA]
 have:=SS (l:=n.agents) n.agents [] rfl
 rw [List.length_nil] at this
 rw [this]
 cases agentsB n.agents <;> simp
end Go.Proofs.YtclmbjbbojdojaaGreat.Ab
