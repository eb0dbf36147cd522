/-
  Plain lemmas for the laws about models: loops over lists, bounded arithmetic. No program is in sight.
-/
import Derived.Test.YteckcjgpnegkjaaGreatDoorAbY
import Derived.Test.YteckcjgpnegkjaaGreatDoorMod
import Derived.Test.YteckcjgpnegkjaaGreatDoorModU
namespace Go.Proofs.YteckcjgpnegkjaaGreatDoor.Ab
set_option linter.unusedVariables false
set_option linter.unusedSimpArgs false
open Go.RowKit
theorem w64 {n} (h1: -9223372036854775808≤n) (h2:n≤9223372036854775807):IntKind.i64.wrap n=n:=iX h1 h2
abbrev Big:Nat:=4294967296
theorem YC {n} (h:n≤4611686018427387904):n≤fuel:=by rw [Af]; exact h
section
variable {α:Type} {l pre post:List α} {x:α}
theorem CB (h:l=pre++x::post):decide ((pre.length:Int)<(l.length:Int))=true:=by
 subst h; simp only [List.length_append,List.length_cons,decide_eq_true_eq]; omega
theorem CY (h:l=pre++[]):decide ((pre.length:Int)<(l.length:Int))=false:=by
 subst h; simp
theorem BI (h:l=pre++x::post):at? l (pre.length:Int)=some x:=by
 subst h
 unfold at?
 rw [if_pos (by omega)]
 simp
theorem A8 (h:l=pre++x::post) (hl:l.length≤Big):IntKind.i64.wrap ((pre.length:Int)+1)=((List.length (pre++[x]):Nat):Int):=by
 subst h
 simp only [List.length_append,List.length_cons,List.length_nil,Big] at hl ⊢
 rw [w64 (by omega) (by omega)]
 omega
theorem Ai (h:l=pre++x::post):l=(pre++[x])++post:=by rw [h]; simp
theorem CO {a b:List α} (h:a.length+b.length≤Big):app? a b=some (a++b):=by
 unfold app?; rw [if_pos (by unfold Big at h; omega)]
theorem Q8 {z:α} {n:Nat} (h:n≤Big):rep? (n:Int) z=some (List.replicate n z):=by
 unfold rep?; rw [if_pos (by unfold Big at h; omega)]; simp
theorem fF {z} {k}:VK (pre++List.replicate (k+1) z) (pre.length:Int) x=(pre++[x])++List.replicate k z:=by
 unfold VK
 simp [List.replicate_succ]
theorem VO {z} {k}:C0 (pre++List.replicate (k+1) z) (pre.length:Int) x=some ((pre++[x])++List.replicate k z):=by
 unfold C0; rw [fF]
theorem cI {z} {k}:at? (pre++List.replicate (k+1) z) (pre.length:Int)=some z:=by
 unfold at?
 rw [if_pos (by omega)]
 simp
end
theorem AA {α β:Type} {a:α} {k:α→Option β}:Option.bind (some a) k=k a:=rfl
def szr (z left:Nat):Int:=if z≤left then ((left - z:Nat):Int) else -1
theorem YD {z left}:decide (szr z left<0)=decide (left<z):=by
 unfold szr
 by_cases h:z≤left
 ·rw [if_pos h]; simp; omega
 ·rw [if_neg h]; simp; omega
theorem cJ {z left} (h:z≤left):szr z left=((left - z:Nat):Int):=if_pos h
theorem iu {z left} (h:left<z):szr z left= -1:=if_neg (by omega)
theorem YE {n left:Nat} (h1:left≤1048576) (h2:n≤9223372036854775807):IntKind.i64.wrap ((left:Int) - (n:Int))=(left:Int) - n:=w64 (by omega) (by omega)
theorem VP (l:List Int) (left:Nat) (h1:left≤1048576) (h2:l.length≤9223372036854775807):IT l left=some (szr l.length left):=by
 unfold IT
 rw [YE h1 h2]
 by_cases h:l.length≤left
 ·rw [if_neg (by simp; omega),cJ h]; congr 1; omega
 ·rw [if_pos (by simp; omega),iu (by omega)]
theorem Rs (l:List Int) (hl:l.length≤Big):∀ (post pre:List Int) (n:Nat),l=pre++post→post.length<n→C8 n l (pre++List.replicate post.length 0) (pre.length:Int)=some l:=by
 intro post
 induction post with
 |nil=>
  intro pre n h hn
  obtain⟨n,rfl⟩:∃m,n=m+1:=⟨n - 1,by omega⟩
  rw [C8,CY h]; simp [h]
 |cons x post ih=>
  intro pre n h hn
  obtain⟨n,rfl⟩:∃m,n=m+1:=⟨n - 1,by omega⟩
  rw [C8,if_pos (CB h),BI h,AA,List.length_cons,cI,AA,VO,AA,A8 h hl]
  exact ih (pre++[x]) n (Ai h) (by simp at hn; omega)
theorem VQ (l:List Int) (hl:l.length≤Big):IU l=some l:=by
 unfold IU
 rw [Q8 hl,AA]
 exact Rs l hl l [] fuel (by simp) (by rw [Af]; unfold Big at hl; omega)
set_option maxHeartbeats 1000000
def szl {α:Type} (s:α→Nat):List α→Nat
 | [] =>0
 |x::l=>1+s x+szl s l
theorem Ho {α:Type} (s:α→Nat):∀l:List α,l.length≤szl s l
 | [] =>by simp
 |x::l=>by rw [szl,List.length_cons]; have:=Ho s l; omega
theorem I9 {α:Type} {s:α→Nat} {x:α}:∀ {l:List α},x ∈ l→s x<szl s l
 |y::l,h=>by
  rw [szl]
  rcases List.mem_cons.1 h with rfl|h
  ·omega
  ·have:=I9 (s:=s) h; omega
theorem P8 {k:Int→Option Int} {z left rest:Nat} {X:Option Int} (hX:X=some (szr z left)) (hk:z≤left→k ((left - z:Nat):Int)=some (szr rest (left - z))):
  (Option.bind X fun v=>if decide (v<0)=true then some (-1) else k v)=some (szr (z+rest) left):=by
 rw [hX,AA,YD]
 grind [szr]
theorem YF {k:Int→Option Int} {z left rest:Nat} (h1:left≤1048576) (h2:z≤9223372036854775807) (hk:z≤left→k ((left - z:Nat):Int)=some (szr rest (left - z))):
  (if decide (IntKind.i64.wrap ((left:Int) - (z:Int))<0)=true then some (-1) else k (IntKind.i64.wrap ((left:Int) - (z:Int))))=some (szr (z+rest) left):=by
 rw [YE h1 h2]
 grind [szr]
theorem W8 {left}:some ((left:Nat):Int)=some (szr 0 left):=by rfl
theorem gSz {α:Type} (L:Nat→Int→Int→Option Int) (g:α→Int→Option Int) (s:α→Nat) (l:List α) (hL:∀n p i,L (n+1) p i=(if (decide (i<(l.length:Int)))=true then ((at? l i).bind fun x=>((g x p).bind fun v=>(if (decide (v<0))=true then (some (-1)) else (L n v (IntKind.i64.wrap (i+1)))))) else (some p)))
  (left:Nat) (h1:left≤1048576) (hg:∀x ∈ l,∀k:Nat,k≤1048576→g x k=some (szr (s x) k)) (hl:l.length≤9223372036854775807):
  (if decide (IntKind.i64.wrap ((left:Int) - (l.length:Int))<0)=true then some (-1) else L fuel (IntKind.i64.wrap ((left:Int) - (l.length:Int))) 0)=some (szr (szl s l) left):=by
 have hsz:=Ho s l
 have:=YF (k:=fun v=>L fuel v 0) (rest:=szl s l - l.length) h1 hl fun h=>?_
 ·rw [show l.length+(szl s l - l.length)=szl s l from by omega] at this
  omega
 ·have loop:∀ (post pre:List α) (n l3:Nat),l=pre++post→l3≤left→post.length<n→L n l3 (pre.length:Int)=some (szr (szl s post - post.length) l3):=by
   intro post
   induction post with
   |nil=>
    intro pre n l3 h _ hn
    obtain⟨n,rfl⟩:∃m,n=m+1:=⟨n - 1,by omega⟩
    rw [hL,CY h]
    rfl
   | cons x post ihp=>
    intro pre n l3 hh h4 hn
    obtain⟨n,rfl⟩:∃m,n=m+1:=⟨n - 1,by omega⟩
    have hx:x ∈ l:=by rw [hh]; simp
    have hp:=Ho s post
    rw [hL,if_pos (CB hh),BI hh,AA]
    have e:=P8 (k:=fun v=>L n v (IntKind.i64.wrap ((pre.length:Int)+1))) (rest:=szl s post - post.length) (hg x hx l3 (by omega)) fun h5=>by
     rw [A8 hh (by grind)]
     grind
    rw [szl,List.length_cons,show 1+s x+szl s post - (post.length+1)=s x+(szl s post - post.length) from by omega]
    exact e
  exact loop l [] fuel (left - l.length) (by simp) (by omega) (by rw [Af]; omega)
theorem gTo {α:Type} (L:Nat→List α→Int→Option (List α)) (g:α→Option α) (z:α) (l:List α) (hL:∀n acc i,L (n+1) acc i=(if (decide (i<(l.length:Int)))=true then ((at? l i).bind fun x=>((g x).bind fun y=>((at? acc i).bind fun _=>((C0 acc i y).bind fun z=>(L n z (IntKind.i64.wrap (i+1))))))) else (some acc)))
  (hl:l.length≤Big) (hg:∀x ∈ l,g x=some x):((rep? (l.length:Int) z).bind fun acc=>L fuel acc 0)=some l:=by
 have loop:∀ (post pre:List α) (n:Nat),l=pre++post→post.length<n→L n (pre++List.replicate post.length z) (pre.length:Int)=some l:=by
  intro post
  induction post with
  |nil=>
   intro pre n h hn
   obtain⟨n,rfl⟩:∃m,n=m+1:=⟨n - 1,by omega⟩
   rw [hL,CY h]; simp [h]
  |cons x post ih=>
   intro pre n h hn
   obtain⟨n,rfl⟩:∃m,n=m+1:=⟨n - 1,by omega⟩
   rw [hL,if_pos (CB h),BI h,AA,hg x (by rw [h]; simp),AA,List.length_cons,cI,AA,VO,AA,A8 h hl]
   grind
 rw [Q8 hl,AA]
 exact loop l [] fuel (by simp) (by rw [Af]; grind)
def DW (o:Option Bool) (p:Prop):Prop:=∃b,o=some b∧(b=true↔p)
theorem DW.mk {b} {p:Prop} (h:b=true↔p):DW (some b) p:=⟨b,rfl,h⟩
theorem DW.iff {o} {p q:Prop} (h:DW o p) (hpq:p↔q):DW o q:=by
 grind
theorem DW.true {o} {p:Prop} (h:DW o p) (hp:p):o=some true:=by
 obtain⟨b,rfl,h1⟩:=h
 rw [h1.2 hp]
theorem Gs {b} {X} {p q:Prop} (h:b=true↔p) (hX:p→DW X q):DW (if (!b)=true then some false else X) (p∧q):=by
 cases b with
 |true=>grind
 |false=>exact⟨false,rfl,⟨fun k=>Bool.noConfusion k,fun k=>h.2 k.1⟩⟩
theorem W9 {o} {k} {p r:Prop} (h:DW o p) (hk:∀b,(b=true↔p)→DW (k b) r):DW (Option.bind o k) r:=by
 obtain⟨b,rfl,h1⟩:=h
 grind
theorem GW {o} {X} {p q:Prop} (h:DW o p) (hX:p→DW X q):DW (Option.bind o fun b=>if (!b)=true then some false else X) (p∧q):=
 W9 h fun b hb=>Gs hb hX
theorem NG:DW (some true) True:=.mk (by simp)
theorem MG {p:Prop} [Decidable p] :decide p=true↔p:=decide_eq_true_iff
theorem fG {α β:Type} {l:List α} {m:List β}:decide ((l.length:Int)=(m.length:Int))=true↔l.length=m.length:=by
 rw [decide_eq_true_iff]; omega
theorem gEq {α:Type} (L:Nat→Int→Option Bool) (f:α→α→Option Bool) (l m:List α) (hL:∀n i,L (n+1) i=(if (decide (i<(l.length:Int)))=true then ((at? l i).bind fun x=>((at? m i).bind fun y=>((f x y).bind fun v=>(if (!v)=true then (some false) else (L n (IntKind.i64.wrap (i+1))))))) else (some true)))
  (hl:l.length≤Big) (hlen:l.length=m.length) (hf:∀x ∈ l,∀y ∈ m,DW (f x y) (x=y)):DW (L fuel 0) (l=m):=by
 have loop:∀ (post post' pre pre':List α) (n:Nat),l=pre++post→m=pre'++post'→pre.length=pre'.length→post.length<n→DW (L n (pre.length:Int)) (post=post'):=by
  intro post
  induction post with
  |nil=>
   intro post' pre pre' n h h' hpp hn
   obtain⟨n,rfl⟩:∃m,n=m+1:=⟨n - 1,by omega⟩
   rw [hL,CY h]
   obtain rfl:post'=[] :=List.eq_nil_of_length_eq_zero (by rw [h,h'] at hlen; grind)
   exact .mk (by simp)
  | cons x post ih=>
   intro post' pre pre' n h h' hpp hn
   obtain⟨n,rfl⟩:∃m,n=m+1:=⟨n - 1,by omega⟩
   cases post' with
   |nil=>rw [h,h'] at hlen; grind
   |cons y post'=>
    rw [hL,if_pos (CB h),BI h,AA,hpp,BI h',AA,← hpp,A8 h hl]
    refine(GW (hf x (by rw [h]; simp) y (by rw [h']; simp)) fun _=>ih post' (pre++[x]) (pre'++[y]) n (Ai h) (Ai h') (by grind) (by grind)).iff ?_
    simp
 exact loop l m [] [] fuel (by simp) (by simp) rfl (by rw [Af]; grind)
theorem fH {α:Type} (L:Nat→Int→Option Bool) (f:α→α→Option Bool) (l m:List α) (hL:∀n i,L (n+1) i=(if (decide (i<(l.length:Int)))=true then ((at? l i).bind fun x=>((at? m i).bind fun y=>((f x y).bind fun v=>(if (!v)=true then (some false) else (L n (IntKind.i64.wrap (i+1))))))) else (some true)))
  (hl:l.length≤Big) (hf:∀x ∈ l,∀y ∈ m,DW (f x y) (x=y)):DW (if (!decide ((l.length:Int)=(m.length:Int)))=true then some false else L fuel 0) (l=m):=
 (Gs fG fun h=>gEq L f l m hL hl h hf).iff ⟨fun h=>h.2,fun h=>⟨by rw [h],h⟩⟩
theorem Q9 (l m:List Int) (hl:l.length≤Big):DW (IV l m) (l=m):=by
 unfold IV
 exact fH (fun n i=>Dp n l m i) (fun x y=>some (decide (x=y))) l m (fun n i=>by rw [Dp]; rfl) hl fun x _ y _=>.mk MG
theorem TZ (s:ByteArray):Gx s s=true:=by grind [Gx]
theorem cK {k:Int→Option Bool} {z left:Nat} {X:Option Int} (hX:X=some (szr z left)) (hk:z≤left→k ((left - z:Nat):Int)=some true):
  (Option.bind X fun v=>if decide (v<0)=true then some true else k v)=some true:=by
 rw [hX,AA,YD]
 grind [cJ]
set_option maxRecDepth 20000
set_option maxHeartbeats 4000000
theorem KQ {α:Type} (L:Nat→List α→Int→(α→Option Bool)→Option Int) (hL:∀n l i f,L (n+1) l i f=(if (decide (i<(l.length:Int)))=true then ((at? l i).bind fun x=>((f x).bind fun b=>(if b=true then (some i) else (L n l (IntKind.i64.wrap (i+1)) f)))) else (some (-1))))
  (l:List α) (f:α→Option Bool) (p:α→Bool) (hl:l.length≤Big) (hf:∀x ∈ l,f x=some (p x)):∃i:Int,L fuel l 0 f=some i∧(0≤i↔l.any p=true)∧(l.any p=false→i= -1):=by
 have loop:∀ (post pre:List α) (n:Nat),l=pre++post→post.length<n→∃i:Int,L n l (pre.length:Int) f=some i∧(0≤i↔post.any p=true)∧(post.any p=false→i= -1):=by
  intro post
  induction post with
  |nil=>
   intro pre n h hn
   obtain⟨n,rfl⟩:∃m,n=m+1:=⟨n - 1,by omega⟩
   rw [hL,CY h]
   exact⟨-1,rfl,by simp,fun _=>rfl⟩
  | cons x post ih=>
   intro pre n h hn
   obtain⟨n,rfl⟩:∃m,n=m+1:=⟨n - 1,by omega⟩
   rw [hL,if_pos (CB h),BI h,AA,hf x (by rw [h]; simp),AA]
   by_cases hp:p x=true
   ·rw [if_pos hp]
    exact⟨_,rfl,by simp [hp],by simp [hp]⟩
   ·rw [if_neg hp,A8 h hl]
    obtain⟨i,h1,h2,h3⟩:=ih (pre++[x]) n (Ai h) (by simp at hn; omega)
    have hp':p x=false:=by simpa using hp
    exact⟨i,h1,by simpa [hp'] using h2,by simpa [hp'] using h3⟩
 exact loop l [] fuel (by simp) (by rw [Af]; unfold Big at hl; omega)
theorem PY (l:List Int) (f:Int→Option Bool) (p:Int→Bool) (hl:l.length≤Big) (hf:∀x ∈ l,f x=some (p x)):Ba l f=some (l.any p):=by
 obtain⟨i,h1,h2,-⟩:=KQ Bb (fun n l i f=>by rw [Bb]) l f p hl hf
 unfold Ba EV
 rw [h1,AA]
 congr 1
 rw [Bool.eq_iff_iff,decide_eq_true_eq]; exact h2
def Fu (n:Int):Bool:=decide (0≤n∧n≤23)
theorem FH (n a b:Int):CJ n a b=some (decide (a≤n∧n≤b)):=by
 unfold CJ
 by_cases h:a≤n <;> simp [h]
theorem cL (n:Int):MF n=some (decide (-2147483648≤n∧n≤2147483647)):=by
 unfold MF
 by_cases h: -2147483648≤n <;> simp [h]
theorem Rt (n:Int):FR n=some (decide (1≤n∧n≤6)):=by
 unfold FR
 by_cases h:1≤n <;> simp [h]
theorem Mg (n:Int):FQ n=some (Fu n):=by
 unfold FQ Fu
 by_cases h:0≤n
 ·simp [h]; omega
 ·simp [h]
theorem fI {l:List Int}:l.any (fun k=> !Fu k)= !l.all Fu:=by
 induction l with
 |nil=>rfl
 |cons x xs ih=>simp only [List.any_cons,List.all_cons,ih,Bool.not_and]
theorem kind_cases (k:Int):k=1∨k=2∨k=3∨k=4∨k=5∨k=6∨k=7∨k=8∨k=9∨k=10∨k=11∨k=12∨(k<1∨12<k):=by omega
def ports (k f:Int):Int:=
 if k=9 then (if 0≤f∧f≤3 then f+1 else 0) else if f≠0 then 0
 else if k=1∨k=5∨k=6∨k=12 then 1 else if k=8∨k=10∨k=11 then 2 else if k=2∨k=3∨k=4∨k=7 then 3 else 0
theorem Ov {k:Int} (h:k<1∨12<k):k≠1∧k≠2∧k≠3∧k≠4∧k≠5∧k≠6∧k≠7∧k≠8∧k≠9∧k≠10∧k≠11∧k≠12:=by omega
theorem ZX (k f:Int):IB k f=some (ports k f):=by
 have hw:0≤f∧f≤3→IntKind.i64.wrap (1+f)=f+1:=fun h=>by rw [w64 (by omega) (by omega)]; omega
 by_cases hf:f=0
 ·subst hf
  rcases kind_cases k with h|h|h|h|h|h|h|h|h|h|h|h|h
  all_goals first|(subst h; rfl)|skip
  grind [Ov,IB,EZ,FS,EY,ports]
 grind [IB,FH,ports]
theorem IC (k:Int):Ic k=some (decide (1≤k∧k≤12)):=by
 unfold Ic
 by_cases h:1≤k <;> simp [h]
theorem ZY (k f:Int):IA k f=some (ports k f):=by
 have hw:0≤f∧f≤3→IntKind.i64.wrap (f+1)=f+1:=fun h=>w64 (by omega) (by omega)
 by_cases hf:f=0
 ·subst hf
  rcases kind_cases k with h|h|h|h|h|h|h|h|h|h|h|h|h
  all_goals first|(subst h; rfl)|skip
  grind [IA,EX,EW,ports,IC]
 grind [IA,EX,ports,EW,IC]
def levB (k l:Int):Bool:=decide (1≤k∧k≤12)&&if k=1∨k=5∨k=6 then decide (l=0) else decide (0≤l∧l≤8)
theorem MH (k l:Int):EQ k l=some (levB k l):=by
 rcases kind_cases k with h|h|h|h|h|h|h|h|h|h|h|h|h
 all_goals first|(subst h; simp [EQ,Dr,BF,Jq,levB,FH,AA]; done)|skip
 grind [Ov,EQ,Dr,BF,Jq,levB,FH]
theorem JA (k l:Int):De k l=some (levB k l):=by
 have hl:decide (l=0)=true∨decide (l=0)=false:=by cases decide (l=0) <;> simp
 rcases kind_cases k with h|h|h|h|h|h|h|h|h|h|h|h|h
 all_goals first|(subst h; by_cases h0:l=0 <;> by_cases h1:0≤l <;> simp [De,IC,EO,Gn,levB,AA,h0,h1]; done)|skip
 grind [De,IC,levB]
def GX (a:Agent):Bool:=
 if a.kind=6 then decide (a.data.length=0)&&decide (-2147483648≤a.value∧a.value≤2147483647)
 else if a.kind=7 then decide (a.data.length=0)&&decide (1≤a.value∧a.value≤6)
 else if a.kind=8 then decide (a.data.length=1)&&decide (1≤a.value∧a.value≤6)&&a.data.all fun d=>decide (-2147483648≤d∧d≤2147483647)
 else if a.kind=9 then decide (a.data.length=0)&&decide (0≤a.value∧a.value≤3)
 else if a.kind=12 then decide (a.data.length=0)&&Fu a.value
 else if a.kind=10 then decide (a.value=0)&&decide (1≤a.data.length∧a.data.length≤4)&&a.data.all Fu
 else if a.kind=11 then decide (a.value=0)&&decide (a.data.length=2)&&a.data.all Fu
 else decide (a.value=0)&&decide (a.data.length=0)
theorem Ss (n:Int):Ie n=some (Fu n):=by
 unfold Ie
 rw [FH,AA]; rfl
theorem mn {α:Type} (L:Nat→Int→Option Bool) (f:α→Option Bool) (p:α→Bool) (l:List α) (hL:∀n i,L (n+1) i=(if (decide (i<(l.length:Int)))=true then ((at? l i).bind fun x=>((f x).bind fun v=>(if (!v)=true then (some false) else (L n (IntKind.i64.wrap (i+1)))))) else (some true)))
  (hl:l.length≤Big) (hf:∀x ∈ l,f x=some (p x)):L fuel 0=some (l.all p):=by
 have loop:∀ (post pre:List α) (n:Nat),l=pre++post→post.length<n→L n (pre.length:Int)=some (post.all p):=by
  intro post
  induction post with
  |nil=>
   intro pre n h hn
   obtain⟨n,rfl⟩:∃m,n=m+1:=⟨n - 1,by omega⟩
   rw [hL,CY h]; simp
  |cons x post ih=>
   intro pre n h hn
   obtain⟨n,rfl⟩:∃m,n=m+1:=⟨n - 1,by omega⟩
   rw [hL,if_pos (CB h),BI h,AA,hf x (by rw [h]; simp),AA,A8 h hl,List.all_cons]
   grind
 exact loop l [] fuel rfl (by rw [Af]; grind)
theorem len0 {α:Type} {l:List α}:decide ((l.length:Int)=0)=decide (l.length=0):=by grind
theorem mo {α:Type} {l:List α}:decide ((l.length:Int)=1)=decide (l.length=1):=by grind
theorem mq {α:Type} {l:List α}:decide ((l.length:Int)=2)=decide (l.length=2):=by grind
theorem mr {α:Type} {l:List α}:decide (1≤(l.length:Int)∧(l.length:Int)≤4)=decide (1≤l.length∧l.length≤4):=by grind
theorem VS (a:Agent) (hd:a.data.length≤Big):CX fuel a 0=some (a.data.all Fu):=
 mn (fun n i=>CX n a i) Ie Fu a.data (fun n i=>by rw [CX]) hd fun x _=>Ss x
theorem VT (a:Agent) (hd:a.data.length≤Big):GV a=some (GX a):=by
 have h3:=VS a hd
 unfold GV GX
 rcases kind_cases a.kind with h|h|h|h|h|h|h|h|h|h|h|h|h
 all_goals try simp only [h,Ej,B8,FH,Ss,AA,h3,len0,mo,mq,mr,eq_self,decide_true,reduceIte,Int.reduceEq,decide_false,Bool.false_eq_true]
 all_goals first|(by_cases h0:a.value=0 <;> by_cases h1:a.data.length=0 <;> simp [h0,h1]; done)|skip
 ·match hdd:a.data with
  | [] =>simp
  | [d] =>by_cases h1:1≤a.value∧a.value≤6 <;> simp [at?,h1]
  |d::e::l=>simp
 ·cases decide (a.value=0) <;> cases decide (1≤a.data.length∧a.data.length≤4) <;> simp
 ·cases decide (a.value=0) <;> cases decide (a.data.length=2) <;> simp
 grind
theorem cM {l:List Int}:l.any (fun k=> !Fu k)= !l.all Fu:=fI
theorem cN (l:List Int) (hl:l.length≤Big):Ba l (fun y0=>FF y0)=some (!l.all Fu):=by
 rw [PY l _ (fun k=> !Fu k) hl (fun x _=>by unfold FF; rw [Mg,AA]),cM]
def agB (a:Agent):Bool:=decide (0<a.ports.length∧ports a.kind (if a.kind=9 then (a.ports.length:Int) - 1 else 0)=(a.ports.length:Int))&&levB a.kind a.level&&GX a
theorem ZZ (a:Agent) (hp:a.ports.length≤Big) (hd:a.data.length≤Big):If a=some (agB a):=by
 have hf:DB a=some (if a.kind=9 then (a.ports.length:Int) - 1 else 0):=by
  grind [DB,w64]
 unfold If agB
 rw [hf,AA,ZX,AA,MH,VT a hd]
 generalize ports a.kind _=p
 by_cases h:0<a.ports.length∧p=(a.ports.length:Int)
 ·obtain⟨h1,rfl⟩:=h
  have h2:(0:Int)<(a.ports.length:Int):=by omega
  cases levB a.kind a.level <;> simp [h1,h2,AA]
 ·by_cases h1:(0:Int)<p
  ·have h2:¬ ((a.ports.length:Int)=p):=by omega
   grind
  ·simp [h,h1]
theorem ms (x y:Bool):As x y=some (x&&y):=by cases x <;> simp [As]
theorem VU (a:Agent) (hd:a.data.length≤Big):CW a false=some (GX a):=by
 unfold CW GX
 rw [if_neg (by simp),cN a.data hd,AA]
 rcases kind_cases a.kind with h|h|h|h|h|h|h|h|h|h|h|h|h
 all_goals try simp only [h,ms,cL,Rt,Mg,AA,len0,mo,mq,eq_self,decide_true,reduceIte,Int.reduceEq,decide_false,Bool.false_eq_true,Bool.not_not]
 all_goals first|(by_cases h0:a.value=0 <;> by_cases h1:a.data.length=0 <;> simp [h0,h1]; done)|skip
 ·match hdd:a.data with
  | [] =>simp
  | [d] =>by_cases h1:1≤a.value∧a.value≤6 <;> simp [at?,h1]
  |d::e::l=>simp
 ·grind
 ·by_cases h1:1≤a.data.length <;> by_cases h2:a.data.length≤4
  ·have e1:(1:Int)≤(a.data.length:Int):=by omega
   have e2:(a.data.length:Int)≤4:=by omega
   grind
  ·have e2:¬ (a.data.length:Int)≤4:=by omega
   grind
  ·have e1:¬ (1:Int)≤(a.data.length:Int):=by omega
   grind
  omega
 ·cases decide (a.value=0) <;> cases decide (a.data.length=2) <;> simp
 grind
theorem Za (a:Agent) (hp:a.ports.length≤Big) (hd:a.data.length≤Big):GT a=some (agB a):=by
 unfold GT agB
 have hf:Id a.kind (a.ports.length:Int)=some (if a.kind=9 then (a.ports.length:Int) - 1 else 0):=by
  grind [Id,w64]
 rw [hf,AA,ZY,AA,JA,AA]
 grind [ports,CW,decide_eq_false,VU]
def Ta:Nat→List Agent→Bool
 |_,[] =>true
 |i,x::l=>(agB x&&(decide (x.kind=1) == decide (i=0)))&&Ta (i+1) l
def agentsB (l:List Agent):Bool:=decide (1≤l.length∧l.length≤600)&&Ta 0 l
def Agent.Small (a:Agent):Prop:=a.ports.length≤Big∧a.data.length≤Big
theorem VV {n:Nat}:decide ((n:Int)=0)=decide (n=0):=by grind
theorem Tb (l:List Agent) (hl:l.length≤Big) (hs:∀a ∈ l,a.Small):∀ (post pre:List Agent) (n:Nat),l=pre++post→2*post.length<n→CN n l (pre.length:Int)=some (Ta pre.length post):=by
 intro post
 induction post with
 |nil=>
  intro pre n h hn
  obtain⟨n,rfl⟩:∃m,n=m+1:=⟨n - 1,by omega⟩
  rw [CN,CY h]; rfl
 |cons x post ih=>
  intro pre n h hn
  simp only [List.length_cons] at hn
  obtain⟨n,rfl⟩:∃m,n=m+2:=⟨n - 2,by omega⟩
  obtain⟨h1,h2⟩:=hs x (by rw [h]; simp)
  rw [CN,if_pos (CB h),BI h,AA,ZZ x h1 h2,AA,AA,DR,DR,A8 h hl,ih (pre++[x]) n (Ai h) (by omega),Ta,VV]
  grind
theorem XA (l:List Agent) (hl:l.length≤Big) (hs:∀a ∈ l,a.Small):HP l=some (agentsB l):=by
 unfold HP agentsB
 rw [FH,AA]
 have:=Tb l hl hs l [] fuel rfl (by rw [Af]; grind)
 simp only [List.length_nil,Int.natCast_zero] at this
 rw [this]
 have e:decide (1≤(l.length:Int)∧(l.length:Int)≤600)=decide (1≤l.length∧l.length≤600):=by grind
 rw [e]
 cases decide (1≤l.length∧l.length≤600) <;> rfl
theorem Tc (l:List Agent) (hl:l.length≤Big) (hs:∀a ∈ l,a.Small):∀ (post pre:List Agent) (n:Nat),l=pre++post→2*post.length<n→CM n l (pre.length:Int)=some (Ta pre.length post):=by
 intro post
 induction post with
 |nil=>
  intro pre n h hn
  obtain⟨n,rfl⟩:∃m,n=m+1:=⟨n - 1,by omega⟩
  rw [CM,CY h]; rfl
 |cons x post ih=>
  intro pre n h hn
  simp only [List.length_cons] at hn
  obtain⟨n,rfl⟩:∃m,n=m+2:=⟨n - 2,by omega⟩
  obtain⟨h1,h2⟩:=hs x (by rw [h]; simp)
  rw [CM,if_pos (CB h),BI h,AA,Za x h1 h2,AA,DQ,DQ,A8 h hl,ih (pre++[x]) n (Ai h) (by omega),Ta,VV]
  grind
theorem XB (l:List Agent) (hl:l.length≤Big) (hs:∀a ∈ l,a.Small):HN l=some (agentsB l):=by
 have h4:=Tc l hl hs l [] fuel rfl (by rw [Af]; grind)
 grind [HN,agentsB,FG]
def FW (l:List Agent) (p:Port):Option Port:=(at? l p.agent).bind fun y=>at? y.ports p.slot
def Su (l:List Agent) (i k:Nat) (p:Port):Bool:= !(decide (p.agent=i)&&decide (p.slot=k))&&match FW l p with
 |some q=>decide (q.agent=i)&&decide (q.slot=k)
 |none=>false
def HV (l:List Agent) (i:Nat):Nat→List Port→Bool
 |_,[] =>true
 |k,p::ps=>Su l i k p&&HV l i (k+1) ps
def FT (l:List Agent):Nat→List Agent→Bool
 |_,[] =>true
 |i,x::xs=>HV l i 0 x.ports&&FT l (i+1) xs
def Net.valid (n:Net):Bool:=agentsB n.agents&&FT n.agents 0 n.agents
theorem KR {α:Type} {l:List α} {i:Int} (h:¬ (0≤i∧i<(l.length:Int))):at? l i=none:=by
 grind [at?]
theorem EA {α:Type} {l:List α} {i:Int} (h:0≤i∧i<(l.length:Int)):∃x,at? l i=some x∧x ∈ l:=by
 simp_all [at?]
theorem cO (l:List Agent) (p:Port) (hl:l.length≤Big) (hs:∀a ∈ l,a.Small):Jr l p=some (FW l p).isSome :=by
 unfold Jr FW
 rw [FH,AA,w64 (by omega) (by grind)]
 by_cases h:0≤p.agent∧p.agent<(l.length:Int)
 ·obtain⟨y,hy,hm⟩:=EA h
  rw [decide_eq_true ⟨h.1,by omega⟩,if_pos rfl,hy,AA,AA,FH,AA]
  have:=(hs y hm).1
  rw [w64 (by omega) (by grind)]
  by_cases h2:0≤p.slot∧p.slot<(y.ports.length:Int)
  ·obtain⟨q,hq,-⟩:=EA h2
   rw [decide_eq_true ⟨h2.1,by omega⟩,hq]; rfl
  grind [KR]
 grind [KR]
theorem XC (l:List Agent) (p:Port):Jp l p=some (FW l p).isSome :=by
 unfold Jp FW
 by_cases h:0≤p.agent∧p.agent<(l.length:Int)
 ·obtain⟨y,hy,hm⟩:=EA h
  rw [decide_eq_true h.1,if_pos rfl,decide_eq_true h.2,if_pos rfl,hy,AA,AA]
  by_cases h2:0≤p.slot
  ·rw [decide_eq_true h2,if_pos rfl]
   by_cases h3:p.slot<(y.ports.length:Int)
   ·obtain⟨q,hq,-⟩:=EA ⟨h2,h3⟩
    rw [decide_eq_true h3,hq]; rfl
   grind [KR]
  grind [KR]
 grind [KR]
theorem VW (n:Net) (hl:n.agents.length≤Big) (hs:∀a ∈ n.agents,a.Small) (i:Nat) (x:Agent) (hx:x.Small) (R:Bool) (N:Nat) (hR:∀m,N≤m→Dy m n (IntKind.i64.wrap ((i:Int)+1))=some R):
  ∀ (post pre:List Port) (m:Nat),x.ports=pre++post→2*post.length+1+N≤m→EJ m n (i:Int) x (pre.length:Int)=some (HV n.agents i pre.length post&&R):=by
 intro post
 induction post with
 |nil=>
  intro pre m h hm
  simp only [List.length_nil] at hm
  obtain⟨m,rfl⟩:∃k,m=k+1:=⟨m - 1,by omega⟩
  rw [EJ,CY h,if_neg (by simp),hR m (by omega),HV]; rfl
 | cons p post ih=>
  intro pre m h hm
  simp only [List.length_cons] at hm
  obtain⟨m,rfl⟩:∃k,m=k+2:=⟨m - 2,by omega⟩
  have h13:∀b,EK (m+1) n (i:Int) (pre.length:Int) x b=some (!b&&(HV n.agents i (pre.length+1) post&&R)):=fun b=>by
   rw [EK,A8 h hx.1,ih (pre++[p]) m (Ai h) (by omega),List.length_append,List.length_singleton]
   cases b <;> simp
  rw [EJ,if_pos (CB h),BI h,AA,h13,cO n.agents p hl hs,AA,HV,Su]
  cases (decide (p.agent=(i:Int))&&decide (p.slot=(pre.length:Int))) with
  |true=>simp
  | false=>
   rw [if_neg (by simp)]
   cases hp:FW n.agents p with
   |none=>simp
   |some q=>
    grind [FW,Option.bind_eq_some_iff]
theorem cP (n:Net) (hl:n.agents.length≤Big) (hs:∀a ∈ n.agents,a.Small):∀ (post pre:List Agent) (m:Nat),n.agents=pre++post→2*szl (fun a=>a.ports.length) post+1≤m→Dy m n (pre.length:Int)=some (FT n.agents pre.length post):=by
 intro post
 induction post with
 |nil=>
  intro pre m h hm
  obtain⟨m,rfl⟩:∃k,m=k+1:=⟨m - 1,by omega⟩
  rw [Dy,CY h]; rfl
 |cons x post ih=>
  intro pre m h hm
  simp only [szl] at hm
  obtain⟨m,rfl⟩:∃k,m=k+1:=⟨m - 1,by omega⟩
  rw [Dy,if_pos (CB h),BI h,AA,FT]
  refine VW n hl hs pre.length x (hs x (by rw [h]; simp)) _ (2*szl (fun a=>a.ports.length) post+1) (fun k hk=>?_) x.ports [] m rfl (by omega)
  rw [A8 h hl,ih (pre++[x]) k (Ai h) hk,List.length_append,List.length_singleton]
def Net.Small (n:Net):Prop:=szl (fun a=>a.ports.length) n.agents≤Big∧∀a ∈ n.agents,a.data.length≤Big
theorem Net.Small.agents {n:Net} (h:n.Small):n.agents.length≤Big∧∀a ∈ n.agents,a.Small:=
 ⟨Nat.le_trans (Ho (fun a=>a.ports.length) _) h.1,fun a ha=>⟨by have:=I9 (s:=fun a:Agent=>a.ports.length) ha; have:=h.1; omega,h.2 a ha⟩⟩
theorem YG (n:Net) (h:n.Small):KO n=some n.valid:=by
 obtain⟨hl,hs⟩:=h.agents
 unfold KO Net.valid
 rw [XA _ hl hs,AA]
 have:=cP n hl hs n.agents [] fuel rfl (by rw [Af]; have:=h.1; grind)
 simp only [List.length_nil,Int.natCast_zero] at this
 rw [this]
 cases agentsB n.agents <;> simp
def HW (i:Nat):Nat→List Port→List Port
 |_,[] =>[]
 |k,_::ps=>⟨(i:Int),(k:Int)⟩::HW i (k+1) ps
def EB:Nat→List Agent→List Port
 |_,[] =>[]
 |i,x::xs=>HW i 0 x.ports++EB (i+1) xs
theorem NH (i:Nat):∀ (ps:List Port) (k:Nat),(HW i k ps).length =ps.length
 | [],_=>rfl
 |_::ps,k=>by rw [HW,List.length_cons,NH i ps,List.length_cons]
theorem N0:∀ (l:List Agent) (i:Nat),(EB i l).length ≤szl (fun a=>a.ports.length) l
 | [],_=>by grind [EB]
 |x::l,i=>by
  have:=N0 l (i+1)
  grind [EB,szl,NH]
theorem fJ (n:Net) (i:Nat) (x:Agent) (hx:x.Small) (Z:List Port) (N:Nat):
  ∀ (post pre:List Port) (acc:List Port) (m:Nat),x.ports=pre++post→acc.length+post.length≤Big→(∀m,N≤m→B0 m n (acc++HW i pre.length post) (IntKind.i64.wrap ((i:Int)+1))=some Z)→post.length+1+N≤m→Co m n (i:Int) x acc (pre.length:Int)=some Z:=by
 intro post
 induction post with
 |nil=>
  intro pre acc m h hacc hR hm
  simp only [List.length_nil] at hm
  obtain⟨m,rfl⟩:∃k,m=k+1:=⟨m - 1,by omega⟩
  rw [Co,CY h,if_neg (by simp)]
  grind [HW]
 |cons p post ih=>
  intro pre acc m h hacc hR hm
  simp only [List.length_cons] at hm hacc
  obtain⟨m,rfl⟩:∃k,m=k+1:=⟨m - 1,by omega⟩
  rw [Co,if_pos (CB h),CO (by grind),AA,A8 h hx.1]
  grind [HW]
theorem fK (n:Net) (hl:n.agents.length≤Big) (hs:∀a ∈ n.agents,a.Small):∀ (post pre:List Agent) (acc:List Port) (m:Nat),n.agents=pre++post→acc.length+szl (fun a=>a.ports.length) post≤Big→2*szl (fun a=>a.ports.length) post+1≤m→B0 m n acc (pre.length:Int)=some (acc++EB pre.length post):=by
 intro post
 induction post with
 |nil=>
  intro pre acc m h hacc hm
  obtain⟨m,rfl⟩:∃k,m=k+1:=⟨m - 1,by omega⟩
  rw [B0,CY h]; simp [EB]
 |cons x post ih=>
  intro pre acc m h hacc hm
  simp only [szl] at hm hacc
  obtain⟨m,rfl⟩:∃k,m=k+1:=⟨m - 1,by omega⟩
  rw [B0,if_pos (CB h),BI h,AA]
  refine fJ n pre.length x (hs x (by rw [h]; simp)) _ (2*szl (fun a=>a.ports.length) post+1) x.ports [] acc m rfl (by omega) (fun k hk=>?_) (by omega)
  rw [A8 h hl,ih (pre++[x]) _ k (Ai h) (by grind [NH]) hk,List.length_append,List.length_singleton,EB,List.append_assoc]
  rfl
theorem Td (n:Net) (h:n.Small):HO n=some (EB 0 n.agents):=by
 obtain⟨hl,hs⟩:=h.agents
 unfold HO
 have:=fK n hl hs n.agents [] [] fuel rfl (by have:=h.1; grind) (by rw [Af]; have:=h.1; grind)
 grind
def Zb (l:List Agent) (p:Port):Bool:=match FW l p with
 |some q=> !Su l p.agent.toNat p.slot.toNat q
 |none=>true
theorem XD (n:Net) (i k:Nat) (q:Port) (hq:FW n.agents ⟨(i:Int),(k:Int)⟩=some q):GU ⟨(i:Int),(k:Int)⟩ n=some (Zb n.agents ⟨(i:Int),(k:Int)⟩):=by
 have hpeer:∀ (p r:Port),FW n.agents p=some r→Ct n p=some r:=fun p r h=>by
  grind [FW,Ct]
 grind [GU,Zb,XC,Su,Int.toNat_natCast]
theorem Te (l:List Port) (f:Port→Option Bool) (p:Port→Bool) (hl:l.length≤Big) (hf:∀x ∈ l,f x=some (p x)):Bm l f=some (l.any p):=by
 obtain⟨i,h1,h2,-⟩:=KQ A9 (fun n l i f=>by rw [A9]) l f p hl hf
 grind [Bm,C6]
theorem YH {l pre post:List Agent} {x:Agent} {ppre ppost:List Port} {p:Port} (h:l=pre++x::post) (hx:x.ports=ppre++p::ppost):FW l ⟨(pre.length:Int),(ppre.length:Int)⟩=some p:=by
 unfold FW
 rw [BI h,Option.bind_some,BI hx]
theorem Sv {l pre post:List Agent} {x:Agent} (h:l=pre++x::post):∀ (ps ppre:List Port),x.ports=ppre++ps→(HW pre.length ppre.length ps).any (Zb l)= !HV l pre.length ppre.length ps
 | [],_,_=>by rfl
 |p::ps,ppre,hx=>by
  have:=Sv h ps (ppre++[p]) (Ai hx)
  rw [List.length_append,List.length_singleton] at this
  rw [HW,HV,List.any_cons,this,Zb,YH h hx]
  simp
theorem Sw {l pre post:List Agent} {x:Agent} (h:l=pre++x::post):∀ (ps ppre:List Port),x.ports=ppre++ps→∀y ∈ HW pre.length ppre.length ps,∃ (i k:Nat) (q:Port),y=⟨(i:Int),(k:Int)⟩∧FW l ⟨(i:Int),(k:Int)⟩=some q
 | [],_,_,y,hy=>by grind [HW]
 |p::ps,ppre,hx,y,hy=>by
  rw [HW,List.mem_cons] at hy
  rcases hy with rfl|hy
  ·exact⟨_,_,p,rfl,YH h hx⟩
  ·exact Sw h ps (ppre++[p]) (Ai hx) y (by rw [List.length_append,List.length_singleton]; exact hy)
theorem YI {l:List Agent}:∀ (post pre:List Agent),l=pre++post→(EB pre.length post).any (Zb l)= !FT l pre.length post
 | [],_,_=>by rfl
 |x::post,pre,h=>by
  have h1:=YI post (pre++[x]) (Ai h)
  rw [List.length_append,List.length_singleton] at h1
  grind [Sv,List.length_nil,EB,FT]
theorem YJ {l:List Agent}:∀ (post pre:List Agent),l=pre++post→∀y ∈ EB pre.length post,∃ (i k:Nat) (q:Port),y=⟨(i:Int),(k:Int)⟩∧FW l ⟨(i:Int),(k:Int)⟩=some q
 | [],_,_,y,hy=>by grind [EB]
 |x::post,pre,h,y,hy=>by
  rw [EB,List.mem_append] at hy
  rcases hy with hy|hy
  ·exact Sw h x.ports [] rfl y hy
  ·exact YJ post (pre++[x]) (Ai h) y (by rw [List.length_append,List.length_singleton]; exact hy)
theorem YK (n:Net) (h:n.Small):Gr n=some n.valid:=by
 obtain⟨hl,hs⟩:=h.agents
 unfold Gr Net.valid
 rw [XB _ hl hs,AA,Td n h,AA,Te _ _ (Zb n.agents) (Nat.le_trans (N0 _ _) h.1) (fun y hy=>by
  obtain⟨i,k,q,rfl,hq⟩:=YJ n.agents [] rfl y hy
  grind [XD]),AA]
 have:=YI (l:=n.agents) n.agents [] rfl
 rw [List.length_nil] at this
 rw [this]
 cases agentsB n.agents <;> simp
end Go.Proofs.YteckcjgpnegkjaaGreatDoor.Ab
