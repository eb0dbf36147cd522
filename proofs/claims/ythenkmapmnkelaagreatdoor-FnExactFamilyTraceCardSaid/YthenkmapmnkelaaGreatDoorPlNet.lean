/- Plain lemmas for the laws about models. -/
import Derived.Test.YthenkmapmnkelaaGreatDoorAbY
import Derived.Test.YthenkmapmnkelaaGreatDoorMod
import Derived.Test.YthenkmapmnkelaaGreatDoorModU
namespace Go.Proofs.YthenkmapmnkelaaGreatDoor.Ab
set_option linter.unusedVariables false
set_option linter.unusedSimpArgs false
open Go.RowKit
theorem w64 {n} (h1: -9223372036854775808≤n) (h2:n≤9223372036854775807):IntKind.i64.wrap n=n:=nR h1 h2
abbrev Big:Nat:=4294967296
theorem cj {n} (h:n≤4611686018427387904):n≤fuel:=by rw [AY]; exact h
section
variable {α:Type} {l pre post:List α} {x:α}
theorem Cb (h:l=pre++x::post):decide ((pre.length:Int)<(l.length:Int))=true:=by
 subst h; simp only [List.length_append,List.length_cons,decide_eq_true_eq]; omega
theorem C0 (h:l=pre++[]):decide ((pre.length:Int)<(l.length:Int))=false:=by
 subst h; simp
theorem BZ (h:l=pre++x::post):at? l (pre.length:Int)=some x:=by
 subst h
 unfold at?
 rw [if_pos (by omega)]
 simp
theorem BP (h:l=pre++x::post) (hl:l.length≤Big):IntKind.i64.wrap ((pre.length:Int)+1)=((List.length (pre++[x]):Nat):Int):=by
 subst h
 simp only [List.length_append,List.length_cons,List.length_nil,Big] at hl ⊢
 rw [w64 (by omega) (by omega)]
 omega
theorem As (h:l=pre++x::post):l=(pre++[x])++post:=by rw [h]; simp
theorem A8 {a b:List α} (h:a.length+b.length≤Big):app? a b=some (a++b):=by
 unfold app?; rw [if_pos (by unfold Big at h; omega)]
theorem Q3 {z:α} {n:Nat} (h:n≤Big):Pm (n:Int) z=some (List.replicate n z):=by
 unfold Pm; rw [if_pos (by unfold Big at h; omega)]; simp
theorem lR {z} {k}:aV (pre++List.replicate (k+1) z) (pre.length:Int) x=(pre++[x])++List.replicate k z:=by
 unfold aV
 simp [List.replicate_succ]
theorem Y8 {z} {k}:Br (pre++List.replicate (k+1) z) (pre.length:Int) x=some ((pre++[x])++List.replicate k z):=by
 unfold Br; rw [lR]
theorem ii {z} {k}:at? (pre++List.replicate (k+1) z) (pre.length:Int)=some z:=by
 unfold at?
 rw [if_pos (by omega)]
 simp
end
theorem AA {α β:Type} {a:α} {k:α→Option β}:Option.bind (some a) k=k a:=rfl
def szr (z left:Nat):Int:=if z≤left then ((left - z:Nat):Int) else -1
theorem ck {z left}:decide (szr z left<0)=decide (left<z):=by
 unfold szr
 by_cases h:z≤left
 ·rw [if_pos h]; simp; omega
 ·rw [if_neg h]; simp; omega
theorem ik {z left} (h:z≤left):szr z left=((left - z:Nat):Int):=if_pos h
theorem oE {z left} (h:left<z):szr z left= -1:=if_neg (by omega)
theorem cm {n left:Nat} (h1:left≤1048576) (h2:n≤9223372036854775807):IntKind.i64.wrap ((left:Int) - (n:Int))=(left:Int) - n:=w64 (by omega) (by omega)
theorem Y9 (l:List Int) (left:Nat) (h1:left≤1048576) (h2:l.length≤9223372036854775807):JP l left=some (szr l.length left):=by
 unfold JP
 rw [cm h1 h2]
 by_cases h:l.length≤left
 ·rw [if_neg (by simp; omega),ik h]; congr 1; omega
 ·rw [if_pos (by simp; omega),oE (by omega)]
theorem U5 (l:List Int) (hl:l.length≤Big):∀ (post pre:List Int) (n:Nat),l=pre++post→post.length<n→Di n l (pre++List.replicate post.length 0) (pre.length:Int)=some l:=by
 intro post
 induction post with
 |nil=>
  intro pre n h j
  obtain⟨n,rfl⟩:∃m,n=m+1:=⟨n - 1,by omega⟩
  rw [Di,C0 h]; simp [h]
 |cons x post ih=>
  intro pre n h j
  obtain⟨n,rfl⟩:∃m,n=m+1:=⟨n - 1,by omega⟩
  rw [Di,if_pos (Cb h),BZ h,AA,List.length_cons,ii,AA,Y8,AA,BP h hl]
  exact ih (pre++[x]) n (As h) (by simp at j; omega)
theorem R2 (l:List Int) (hl:l.length≤Big):Ea l=some l:=by
 unfold Ea
 rw [Q3 hl,AA]
 exact U5 l hl l [] fuel (by simp) (by rw [AY]; unfold Big at hl; omega)
set_option maxHeartbeats 1000000
def szl {α:Type} (s:α→Nat):List α→Nat
 | [] =>0
 |x::l=>1+s x+szl s l
theorem G9 {α:Type} (s:α→Nat):∀l:List α,l.length≤szl s l
 | [] =>by simp
 |x::l=>by rw [szl,List.length_cons]; have:=G9 s l; omega
theorem H3 {α:Type} {s:α→Nat} {x:α}:∀ {l:List α},x ∈ l→s x<szl s l
 |y::l,h=>by
  rw [szl]
  rcases List.mem_cons.1 h with rfl|h
  ·omega
  ·have:=H3 (s:=s) h; omega
theorem S3 {k:Int→Option Int} {z left rest:Nat} {X:Option Int} (hX:X=some (szr z left)) (hk:z≤left→k ((left - z:Nat):Int)=some (szr rest (left - z))):
  (Option.bind X fun v=>if decide (v<0)=true then some (-1) else k v)=some (szr (z+rest) left):=by
 rw [hX,AA,ck]
 grind [szr]
theorem cn {k:Int→Option Int} {z left rest:Nat} (h1:left≤1048576) (h2:z≤9223372036854775807) (hk:z≤left→k ((left - z:Nat):Int)=some (szr rest (left - z))):
  (if decide (IntKind.i64.wrap ((left:Int) - (z:Int))<0)=true then some (-1) else k (IntKind.i64.wrap ((left:Int) - (z:Int))))=some (szr (z+rest) left):=by
 rw [cm h1 h2]
 grind [szr]
theorem ar {left}:some ((left:Nat):Int)=some (szr 0 left):=by rfl
theorem gSz {α:Type} (L:Nat→Int→Int→Option Int) (g:α→Int→Option Int) (s:α→Nat) (l:List α) (hL:∀n p i,L (n+1) p i=(if (decide (i<(l.length:Int)))=true then ((at? l i).bind fun x=>((g x p).bind fun v=>(if (decide (v<0))=true then (some (-1)) else (L n v (IntKind.i64.wrap (i+1)))))) else (some p)))
  (left:Nat) (h1:left≤1048576) (hg:∀x ∈ l,∀k:Nat,k≤1048576→g x k=some (szr (s x) k)) (hl:l.length≤9223372036854775807):
  (if decide (IntKind.i64.wrap ((left:Int) - (l.length:Int))<0)=true then some (-1) else L fuel (IntKind.i64.wrap ((left:Int) - (l.length:Int))) 0)=some (szr (szl s l) left):=by
 have C:=G9 s l
 have:=cn (k:=fun v=>L fuel v 0) (rest:=szl s l - l.length) h1 hl fun h=>?_
 ·rw [show l.length+(szl s l - l.length)=szl s l from by omega] at this
  omega
 ·have loop:∀ (post pre:List α) (n j:Nat),l=pre++post→j≤left→post.length<n→L n j (pre.length:Int)=some (szr (szl s post - post.length) j):=by
   intro post
   induction post with
   |nil=>
    intro pre n j h _ u
    obtain⟨n,rfl⟩:∃m,n=m+1:=⟨n - 1,by omega⟩
    rw [hL,C0 h]
    rfl
   | cons x post ihp=>
    intro pre n j q G u
    obtain⟨n,rfl⟩:∃m,n=m+1:=⟨n - 1,by omega⟩
    have hx:x ∈ l:=by rw [q]; simp
    have hp:=G9 s post
    rw [hL,if_pos (Cb q),BZ q,AA]
    have e:=S3 (k:=fun v=>L n v (IntKind.i64.wrap ((pre.length:Int)+1))) (rest:=szl s post - post.length) (hg x hx j (by omega)) fun F=>by
     rw [BP q (by grind)]
     grind
    rw [szl,List.length_cons,show 1+s x+szl s post - (post.length+1)=s x+(szl s post - post.length) from by omega]
    exact e
  exact loop l [] fuel (left - l.length) (by simp) (by omega) (by rw [AY]; omega)
theorem gTo {α:Type} (L:Nat→List α→Int→Option (List α)) (g:α→Option α) (z:α) (l:List α) (hL:∀n acc i,L (n+1) acc i=(if (decide (i<(l.length:Int)))=true then ((at? l i).bind fun x=>((g x).bind fun y=>((at? acc i).bind fun _=>((Br acc i y).bind fun z=>(L n z (IntKind.i64.wrap (i+1))))))) else (some acc)))
  (hl:l.length≤Big) (hg:∀x ∈ l,g x=some x):((Pm (l.length:Int) z).bind fun acc=>L fuel acc 0)=some l:=by
 have loop:∀ (post pre:List α) (n:Nat),l=pre++post→post.length<n→L n (pre++List.replicate post.length z) (pre.length:Int)=some l:=by
  intro post
  induction post with
  |nil=>
   intro pre n h j
   obtain⟨n,rfl⟩:∃m,n=m+1:=⟨n - 1,by omega⟩
   rw [hL,C0 h]; simp [h]
  |cons x post ih=>
   intro pre n h j
   obtain⟨n,rfl⟩:∃m,n=m+1:=⟨n - 1,by omega⟩
   rw [hL,if_pos (Cb h),BZ h,AA,hg x (by rw [h]; simp),AA,List.length_cons,ii,AA,Y8,AA,BP h hl]
   grind
 rw [Q3 hl,AA]
 exact loop l [] fuel (by simp) (by rw [AY]; grind)
def C1 (o:Option Bool) (p:Prop):Prop:=∃b,o=some b∧(b=true↔p)
theorem C1.mk {b} {p:Prop} (h:b=true↔p):C1 (some b) p:=⟨b,rfl,h⟩
theorem C1.iff {o} {p q:Prop} (h:C1 o p) (hpq:p↔q):C1 o q:=by
 grind
theorem C1.true {o} {p:Prop} (h:C1 o p) (hp:p):o=some true:=by
 obtain⟨b,rfl,h1⟩:=h
 rw [h1.2 hp]
theorem Gz {b} {X} {p q:Prop} (h:b=true↔p) (hX:p→C1 X q):C1 (if (!b)=true then some false else X) (p∧q):=by
 cases b with
 |true=>grind
 |false=>exact⟨false,rfl,⟨fun k=>Bool.noConfusion k,fun k=>h.2 k.1⟩⟩
theorem au {o} {k} {p r:Prop} (h:C1 o p) (hk:∀b,(b=true↔p)→C1 (k b) r):C1 (Option.bind o k) r:=by
 obtain⟨b,rfl,h1⟩:=h
 grind
theorem Hc {o} {X} {p q:Prop} (h:C1 o p) (hX:p→C1 X q):C1 (Option.bind o fun b=>if (!b)=true then some false else X) (p∧q):=
 au h fun b j=>Gz j hX
theorem Of:C1 (some true) True:=.mk (by simp)
theorem J5 {p:Prop} [Decidable p] :decide p=true↔p:=decide_eq_true_iff
theorem lS {α β:Type} {l:List α} {m:List β}:decide ((l.length:Int)=(m.length:Int))=true↔l.length=m.length:=by
 rw [decide_eq_true_iff]; omega
theorem gEq {α:Type} (L:Nat→Int→Option Bool) (f:α→α→Option Bool) (l m:List α) (hL:∀n i,L (n+1) i=(if (decide (i<(l.length:Int)))=true then ((at? l i).bind fun x=>((at? m i).bind fun y=>((f x y).bind fun v=>(if (!v)=true then (some false) else (L n (IntKind.i64.wrap (i+1))))))) else (some true)))
  (hl:l.length≤Big) (hlen:l.length=m.length) (hf:∀x ∈ l,∀y ∈ m,C1 (f x y) (x=y)):C1 (L fuel 0) (l=m):=by
 have loop:∀ (post j pre p:List α) (n:Nat),l=pre++post→m=p++j→pre.length=p.length→post.length<n→C1 (L n (pre.length:Int)) (post=j):=by
  intro post
  induction post with
  |nil=>
   intro j pre p n h u q C
   obtain⟨n,rfl⟩:∃m,n=m+1:=⟨n - 1,by omega⟩
   rw [hL,C0 h]
   obtain rfl:j=[] :=List.eq_nil_of_length_eq_zero (by rw [h,u] at hlen; grind)
   exact .mk (by simp)
  | cons x post ih=>
   intro j pre p n h u q C
   obtain⟨n,rfl⟩:∃m,n=m+1:=⟨n - 1,by omega⟩
   cases j with
   |nil=>rw [h,u] at hlen; grind
   |cons y j=>
    rw [hL,if_pos (Cb h),BZ h,AA,q,BZ u,AA,← q,BP h hl]
    refine(Hc (hf x (by rw [h]; simp) y (by rw [u]; simp)) fun _=>ih j (pre++[x]) (p++[y]) n (As h) (As u) (by grind) (by grind)).iff ?_
    simp
 exact loop l m [] [] fuel (by simp) (by simp) rfl (by rw [AY]; grind)
theorem em {α:Type} (L:Nat→Int→Option Bool) (f:α→α→Option Bool) (l m:List α) (hL:∀n i,L (n+1) i=(if (decide (i<(l.length:Int)))=true then ((at? l i).bind fun x=>((at? m i).bind fun y=>((f x y).bind fun v=>(if (!v)=true then (some false) else (L n (IntKind.i64.wrap (i+1))))))) else (some true)))
  (hl:l.length≤Big) (hf:∀x ∈ l,∀y ∈ m,C1 (f x y) (x=y)):C1 (if (!decide ((l.length:Int)=(m.length:Int)))=true then some false else L fuel 0) (l=m):=
 (Gz lS fun h=>gEq L f l m hL hl h hf).iff ⟨fun h=>h.2,fun h=>⟨by rw [h],h⟩⟩
theorem JO (l m:List Int) (hl:l.length≤Big):C1 (D0 l m) (l=m):=by
 unfold D0
 exact em (fun n i=>Eb n l m i) (fun x y=>some (decide (x=y))) l m (fun n i=>by rw [Eb]; rfl) hl fun x _ y _=>.mk J5
theorem W4 (s:ByteArray):cJ s s=true:=by grind [cJ]
theorem iP {k:Int→Option Bool} {z left:Nat} {X:Option Int} (hX:X=some (szr z left)) (hk:z≤left→k ((left - z:Nat):Int)=some true):
  (Option.bind X fun v=>if decide (v<0)=true then some true else k v)=some true:=by
 rw [hX,AA,ck]
 grind [ik]
set_option maxRecDepth 20000
set_option maxHeartbeats 4000000
theorem Lg {α:Type} (L:Nat→List α→Int→(α→Option Bool)→Option Int) (hL:∀n l i f,L (n+1) l i f=(if (decide (i<(l.length:Int)))=true then ((at? l i).bind fun x=>((f x).bind fun b=>(if b=true then (some i) else (L n l (IntKind.i64.wrap (i+1)) f)))) else (some (-1))))
  (l:List α) (f:α→Option Bool) (p:α→Bool) (hl:l.length≤Big) (hf:∀x ∈ l,f x=some (p x)):∃i:Int,L fuel l 0 f=some i∧(0≤i↔l.any p=true)∧(l.any p=false→i= -1):=by
 have loop:∀ (post pre:List α) (n:Nat),l=pre++post→post.length<n→∃i:Int,L n l (pre.length:Int) f=some i∧(0≤i↔post.any p=true)∧(post.any p=false→i= -1):=by
  intro post
  induction post with
  |nil=>
   intro pre n h q
   obtain⟨n,rfl⟩:∃m,n=m+1:=⟨n - 1,by omega⟩
   rw [hL,C0 h]
   exact⟨-1,rfl,by simp,fun _=>rfl⟩
  | cons x post ih=>
   intro pre n h q
   obtain⟨n,rfl⟩:∃m,n=m+1:=⟨n - 1,by omega⟩
   rw [hL,if_pos (Cb h),BZ h,AA,hf x (by rw [h]; simp),AA]
   by_cases hp:p x=true
   ·rw [if_pos hp]
    exact⟨_,rfl,by simp [hp],by simp [hp]⟩
   ·rw [if_neg hp,BP h hl]
    obtain⟨i,h1,h2,h3⟩:=ih (pre++[x]) n (As h) (by simp at q; omega)
    have j:p x=false:=by simpa using hp
    exact⟨i,h1,by simpa [j] using h2,by simpa [j] using h3⟩
 exact loop l [] fuel (by simp) (by rw [AY]; unfold Big at hl; omega)
theorem R0 (l:List Int) (f:Int→Option Bool) (p:Int→Bool) (hl:l.length≤Big) (hf:∀x ∈ l,f x=some (p x)):Bg l f=some (l.any p):=by
 obtain⟨i,h1,h2,-⟩:=Lg Bi (fun n l i f=>by rw [Bi]) l f p hl hf
 unfold Bg FK
 rw [h1,AA]
 congr 1
 rw [Bool.eq_iff_iff,decide_eq_true_eq]; exact h2
def Gn (n:Int):Bool:=decide (0≤n∧n≤23)
theorem FT (n a b:Int):CU n a b=some (decide (a≤n∧n≤b)):=by
 unfold CU
 by_cases h:a≤n <;> simp [h]
theorem il (n:Int):Ni n=some (decide (-2147483648≤n∧n≤2147483647)):=by
 unfold Ni
 by_cases h: -2147483648≤n <;> simp [h]
theorem U6 (n:Int):GM n=some (decide (1≤n∧n≤6)):=by
 unfold GM
 by_cases h:1≤n <;> simp [h]
theorem N6 (n:Int):GL n=some (Gn n):=by
 unfold GL Gn
 by_cases h:0≤n
 ·simp [h]; omega
 ·simp [h]
theorem lT {l:List Int}:l.any (fun k=> !Gn k)= !l.all Gn:=by
 induction l with
 |nil=>rfl
 |cons x xs ih=>simp only [List.any_cons,List.all_cons,ih,Bool.not_and]
theorem kind_cases (k:Int):k=1∨k=2∨k=3∨k=4∨k=5∨k=6∨k=7∨k=8∨k=9∨k=10∨k=11∨k=12∨(k<1∨12<k):=by omega
def ports (k f:Int):Int:=
 if k=9 then (if 0≤f∧f≤3 then f+1 else 0) else if f≠0 then 0
 else if k=1∨k=5∨k=6∨k=12 then 1 else if k=8∨k=10∨k=11 then 2 else if k=2∨k=3∨k=4∨k=7 then 3 else 0
theorem Q5 {k:Int} (h:k<1∨12<k):k≠1∧k≠2∧k≠3∧k≠4∧k≠5∧k≠6∧k≠7∧k≠8∧k≠9∧k≠10∧k≠11∧k≠12:=by omega
theorem e9 (k f:Int):I3 k f=some (ports k f):=by
 have j:0≤f∧f≤3→IntKind.i64.wrap (1+f)=f+1:=fun h=>by rw [w64 (by omega) (by omega)]; omega
 by_cases hf:f=0
 ·subst hf
  rcases kind_cases k with h|h|h|h|h|h|h|h|h|h|h|h|h
  all_goals first|(subst h; rfl)|skip
  grind [Q5,I3,FO,GN,FN,ports]
 grind [I3,FT,ports]
theorem I5 (k:Int):JW k=some (decide (1≤k∧k≤12)):=by
 unfold JW
 by_cases h:1≤k <;> simp [h]
theorem fA (k f:Int):I2 k f=some (ports k f):=by
 have j:0≤f∧f≤3→IntKind.i64.wrap (f+1)=f+1:=fun h=>w64 (by omega) (by omega)
 by_cases hf:f=0
 ·subst hf
  rcases kind_cases k with h|h|h|h|h|h|h|h|h|h|h|h|h
  all_goals first|(subst h; rfl)|skip
  grind [I2,FM,FL,ports,I5]
 grind [I2,FM,ports,FL,I5]
def levB (k l:Int):Bool:=decide (1≤k∧k≤12)&&if k=1∨k=5∨k=6 then decide (l=0) else decide (0≤l∧l≤8)
theorem Nl (k l:Int):FF k l=some (levB k l):=by
 rcases kind_cases k with h|h|h|h|h|h|h|h|h|h|h|h|h
 all_goals first|(subst h; simp [FF,Ee,BF,Kz,levB,FT,AA]; done)|skip
 grind [Q5,FF,Ee,BF,Kz,levB,FT]
theorem J7 (k l:Int):EN k l=some (levB k l):=by
 have j:decide (l=0)=true∨decide (l=0)=false:=by cases decide (l=0) <;> simp
 rcases kind_cases k with h|h|h|h|h|h|h|h|h|h|h|h|h
 all_goals first|(subst h; by_cases h0:l=0 <;> by_cases h1:0≤l <;> simp [EN,I5,FD,Hv,levB,AA,h0,h1]; done)|skip
 grind [EN,I5,levB]
def Gy (a:Agent):Bool:=
 if a.kind=6 then decide (a.data.length=0)&&decide (-2147483648≤a.value∧a.value≤2147483647)
 else if a.kind=7 then decide (a.data.length=0)&&decide (1≤a.value∧a.value≤6)
 else if a.kind=8 then decide (a.data.length=1)&&decide (1≤a.value∧a.value≤6)&&a.data.all fun d=>decide (-2147483648≤d∧d≤2147483647)
 else if a.kind=9 then decide (a.data.length=0)&&decide (0≤a.value∧a.value≤3)
 else if a.kind=12 then decide (a.data.length=0)&&Gn a.value
 else if a.kind=10 then decide (a.value=0)&&decide (1≤a.data.length∧a.data.length≤4)&&a.data.all Gn
 else if a.kind=11 then decide (a.value=0)&&decide (a.data.length=2)&&a.data.all Gn
 else decide (a.value=0)&&decide (a.data.length=0)
theorem WR (n:Int):JY n=some (Gn n):=by
 unfold JY
 rw [FT,AA]; rfl
theorem n7 {α:Type} (L:Nat→Int→Option Bool) (f:α→Option Bool) (p:α→Bool) (l:List α) (hL:∀n i,L (n+1) i=(if (decide (i<(l.length:Int)))=true then ((at? l i).bind fun x=>((f x).bind fun v=>(if (!v)=true then (some false) else (L n (IntKind.i64.wrap (i+1)))))) else (some true)))
  (hl:l.length≤Big) (hf:∀x ∈ l,f x=some (p x)):L fuel 0=some (l.all p):=by
 have loop:∀ (post pre:List α) (n:Nat),l=pre++post→post.length<n→L n (pre.length:Int)=some (post.all p):=by
  intro post
  induction post with
  |nil=>
   intro pre n h j
   obtain⟨n,rfl⟩:∃m,n=m+1:=⟨n - 1,by omega⟩
   rw [hL,C0 h]; simp
  |cons x post ih=>
   intro pre n h j
   obtain⟨n,rfl⟩:∃m,n=m+1:=⟨n - 1,by omega⟩
   rw [hL,if_pos (Cb h),BZ h,AA,hf x (by rw [h]; simp),AA,BP h hl,List.all_cons]
   grind
 exact loop l [] fuel rfl (by rw [AY]; grind)
theorem len0 {α:Type} {l:List α}:decide ((l.length:Int)=0)=decide (l.length=0):=by grind
theorem rx {α:Type} {l:List α}:decide ((l.length:Int)=1)=decide (l.length=1):=by grind
theorem len2 {α:Type} {l:List α}:decide ((l.length:Int)=2)=decide (l.length=2):=by grind
theorem ry {α:Type} {l:List α}:decide (1≤(l.length:Int)∧(l.length:Int)≤4)=decide (1≤l.length∧l.length≤4):=by grind
theorem ZA (a:Agent) (hd:a.data.length≤Big):Cm fuel a 0=some (a.data.all Gn):=
 n7 (fun n i=>Cm n a i) JY Gn a.data (fun n i=>by rw [Cm]) hd fun x _=>WR x
theorem ZB (a:Agent) (hd:a.data.length≤Big):Ha a=some (Gy a):=by
 have h3:=ZA a hd
 unfold Ha Gy
 rcases kind_cases a.kind with h|h|h|h|h|h|h|h|h|h|h|h|h
 all_goals try simp only [h,Fb,CJ,FT,WR,AA,h3,len0,rx,len2,ry,eq_self,decide_true,reduceIte,Int.reduceEq,decide_false,Bool.false_eq_true]
 all_goals first|(by_cases h0:a.value=0 <;> by_cases h1:a.data.length=0 <;> simp [h0,h1]; done)|skip
 ·match hdd:a.data with
  | [] =>simp
  | [d] =>by_cases h1:1≤a.value∧a.value≤6 <;> simp [at?,h1]
  |d::e::l=>simp
 ·cases decide (a.value=0) <;> cases decide (1≤a.data.length∧a.data.length≤4) <;> simp
 ·cases decide (a.value=0) <;> cases decide (a.data.length=2) <;> simp
 grind
theorem im {l:List Int}:l.any (fun k=> !Gn k)= !l.all Gn:=lT
theorem io (l:List Int) (hl:l.length≤Big):Bg l (fun j=>GC j)=some (!l.all Gn):=by
 rw [R0 l _ (fun k=> !Gn k) hl (fun x _=>by unfold GC; rw [N6,AA]),im]
def agB (a:Agent):Bool:=decide (0<a.ports.length∧ports a.kind (if a.kind=9 then (a.ports.length:Int) - 1 else 0)=(a.ports.length:Int))&&levB a.kind a.level&&Gy a
theorem fB (a:Agent) (hp:a.ports.length≤Big) (hd:a.data.length≤Big):JZ a=some (agB a):=by
 have j:Dm a=some (if a.kind=9 then (a.ports.length:Int) - 1 else 0):=by
  grind [Dm,w64]
 unfold JZ agB
 rw [j,AA,e9,AA,Nl,ZB a hd]
 generalize ports a.kind _=p
 by_cases h:0<a.ports.length∧p=(a.ports.length:Int)
 ·obtain⟨h1,rfl⟩:=h
  have h2:(0:Int)<(a.ports.length:Int):=by omega
  cases levB a.kind a.level <;> simp [h1,h2,AA]
 ·by_cases h1:(0:Int)<p
  ·have h2:¬ ((a.ports.length:Int)=p):=by omega
   grind
  ·simp [h,h1]
theorem rz (x y:Bool):Ap x y=some (x&&y):=by cases x <;> simp [Ap]
theorem ZC (a:Agent) (hd:a.data.length≤Big):Cl a false=some (Gy a):=by
 unfold Cl Gy
 rw [if_neg (by simp),io a.data hd,AA]
 rcases kind_cases a.kind with h|h|h|h|h|h|h|h|h|h|h|h|h
 all_goals try simp only [h,rz,il,U6,N6,AA,len0,rx,len2,eq_self,decide_true,reduceIte,Int.reduceEq,decide_false,Bool.false_eq_true,Bool.not_not]
 all_goals first|(by_cases h0:a.value=0 <;> by_cases h1:a.data.length=0 <;> simp [h0,h1]; done)|skip
 ·match hdd:a.data with
  | [] =>simp
  | [d] =>by_cases h1:1≤a.value∧a.value≤6 <;> simp [at?,h1]
  |d::e::l=>simp
 ·grind
 ·by_cases h1:1≤a.data.length <;> by_cases h2:a.data.length≤4
  ·have j:(1:Int)≤(a.data.length:Int):=by omega
   have p:(a.data.length:Int)≤4:=by omega
   grind
  ·have p:¬ (a.data.length:Int)≤4:=by omega
   grind
  ·have j:¬ (1:Int)≤(a.data.length:Int):=by omega
   grind
  omega
 ·cases decide (a.value=0) <;> cases decide (a.data.length=2) <;> simp
 grind
theorem fC (a:Agent) (hp:a.ports.length≤Big) (hd:a.data.length≤Big):HY a=some (agB a):=by
 unfold HY agB
 have j:JX a.kind (a.ports.length:Int)=some (if a.kind=9 then (a.ports.length:Int) - 1 else 0):=by
  grind [JX,w64]
 rw [j,AA,fA,AA,J7,AA]
 grind [ports,Cl,decide_eq_false,ZC]
def agsB:Nat→List Agent→Bool
 |_,[] =>true
 |i,x::l=>(agB x&&(decide (x.kind=1) == decide (i=0)))&&agsB (i+1) l
def agentsB (l:List Agent):Bool:=decide (1≤l.length∧l.length≤600)&&agsB 0 l
def Agent.Small (a:Agent):Prop:=a.ports.length≤Big∧a.data.length≤Big
theorem ZD {n:Nat}:decide ((n:Int)=0)=decide (n=0):=by grind
theorem XC (l:List Agent) (hl:l.length≤Big) (hs:∀a ∈ l,a.Small):∀ (post pre:List Agent) (n:Nat),l=pre++post→2*post.length<n→CZ n l (pre.length:Int)=some (agsB pre.length post):=by
 intro post
 induction post with
 |nil=>
  intro pre n h j
  obtain⟨n,rfl⟩:∃m,n=m+1:=⟨n - 1,by omega⟩
  rw [CZ,C0 h]; rfl
 |cons x post ih=>
  intro pre n h j
  simp only [List.length_cons] at j
  obtain⟨n,rfl⟩:∃m,n=m+2:=⟨n - 2,by omega⟩
  obtain⟨h1,h2⟩:=hs x (by rw [h]; simp)
  rw [CZ,if_pos (Cb h),BZ h,AA,fB x h1 h2,AA,AA,EE,EE,BP h hl,ih (pre++[x]) n (As h) (by omega),agsB,ZD]
  grind
theorem aw (l:List Agent) (hl:l.length≤Big) (hs:∀a ∈ l,a.Small):IS l=some (agentsB l):=by
 unfold IS agentsB
 rw [FT,AA]
 have:=XC l hl hs l [] fuel rfl (by rw [AY]; grind)
 simp only [List.length_nil,Int.natCast_zero] at this
 rw [this]
 have e:decide (1≤(l.length:Int)∧(l.length:Int)≤600)=decide (1≤l.length∧l.length≤600):=by grind
 rw [e]
 cases decide (1≤l.length∧l.length≤600) <;> rfl
theorem XD (l:List Agent) (hl:l.length≤Big) (hs:∀a ∈ l,a.Small):∀ (post pre:List Agent) (n:Nat),l=pre++post→2*post.length<n→CY n l (pre.length:Int)=some (agsB pre.length post):=by
 intro post
 induction post with
 |nil=>
  intro pre n h j
  obtain⟨n,rfl⟩:∃m,n=m+1:=⟨n - 1,by omega⟩
  rw [CY,C0 h]; rfl
 |cons x post ih=>
  intro pre n h j
  simp only [List.length_cons] at j
  obtain⟨n,rfl⟩:∃m,n=m+2:=⟨n - 2,by omega⟩
  obtain⟨h1,h2⟩:=hs x (by rw [h]; simp)
  rw [CY,if_pos (Cb h),BZ h,AA,fC x h1 h2,AA,ED,ED,BP h hl,ih (pre++[x]) n (As h) (by omega),agsB,ZD]
  grind
theorem ax (l:List Agent) (hl:l.length≤Big) (hs:∀a ∈ l,a.Small):IQ l=some (agentsB l):=by
 have j:=XD l hl hs l [] fuel rfl (by rw [AY]; grind)
 grind [IQ,agentsB,GD]
def Fu (l:List Agent) (p:Port):Option Port:=(at? l p.agent).bind fun y=>at? y.ports p.slot
def Mn (l:List Agent) (i k:Nat) (p:Port):Bool:= !(decide (p.agent=i)&&decide (p.slot=k))&&match Fu l p with
 |some q=>decide (q.agent=i)&&decide (q.slot=k)
 |none=>false
def Et (l:List Agent) (i:Nat):Nat→List Port→Bool
 |_,[] =>true
 |k,p::ps=>Mn l i k p&&Et l i (k+1) ps
def Cr (l:List Agent):Nat→List Agent→Bool
 |_,[] =>true
 |i,x::xs=>Et l i 0 x.ports&&Cr l (i+1) xs
def Net.valid (n:Net):Bool:=agentsB n.agents&&Cr n.agents 0 n.agents
theorem Li {α:Type} {l:List α} {i:Int} (h:¬ (0≤i∧i<(l.length:Int))):at? l i=none:=by
 grind [at?]
theorem EZ {α:Type} {l:List α} {i:Int} (h:0≤i∧i<(l.length:Int)):∃x,at? l i=some x∧x ∈ l:=by
 simp_all [at?]
theorem ip (l:List Agent) (p:Port) (hl:l.length≤Big) (hs:∀a ∈ l,a.Small):K0 l p=some (Fu l p).isSome :=by
 unfold K0 Fu
 rw [FT,AA,w64 (by omega) (by grind)]
 by_cases h:0≤p.agent∧p.agent<(l.length:Int)
 ·obtain⟨y,hy,hm⟩:=EZ h
  rw [decide_eq_true ⟨h.1,by omega⟩,if_pos rfl,hy,AA,AA,FT,AA]
  have:=(hs y hm).1
  rw [w64 (by omega) (by grind)]
  by_cases h2:0≤p.slot∧p.slot<(y.ports.length:Int)
  ·obtain⟨q,j,-⟩:=EZ h2
   rw [decide_eq_true ⟨h2.1,by omega⟩,j]; rfl
  grind [Li]
 grind [Li]
theorem ay (l:List Agent) (p:Port):Ky l p=some (Fu l p).isSome :=by
 unfold Ky Fu
 by_cases h:0≤p.agent∧p.agent<(l.length:Int)
 ·obtain⟨y,hy,hm⟩:=EZ h
  rw [decide_eq_true h.1,if_pos rfl,decide_eq_true h.2,if_pos rfl,hy,AA,AA]
  by_cases h2:0≤p.slot
  ·rw [decide_eq_true h2,if_pos rfl]
   by_cases h3:p.slot<(y.ports.length:Int)
   ·obtain⟨q,j,-⟩:=EZ ⟨h2,h3⟩
    rw [decide_eq_true h3,j]; rfl
   grind [Li]
  grind [Li]
 grind [Li]
theorem ZE (n:Net) (hl:n.agents.length≤Big) (hs:∀a ∈ n.agents,a.Small) (i:Nat) (x:Agent) (hx:x.Small) (R:Bool) (N:Nat) (hR:∀m,N≤m→Ek m n (IntKind.i64.wrap ((i:Int)+1))=some R):
  ∀ (post pre:List Port) (m:Nat),x.ports=pre++post→2*post.length+1+N≤m→E9 m n (i:Int) x (pre.length:Int)=some (Et n.agents i pre.length post&&R):=by
 intro post
 induction post with
 |nil=>
  intro pre m h hm
  simp only [List.length_nil] at hm
  obtain⟨m,rfl⟩:∃k,m=k+1:=⟨m - 1,by omega⟩
  rw [E9,C0 h,if_neg (by simp),hR m (by omega),Et]; rfl
 | cons p post ih=>
  intro pre m h hm
  simp only [List.length_cons] at hm
  obtain⟨m,rfl⟩:∃k,m=k+2:=⟨m - 2,by omega⟩
  have j:∀b,FA (m+1) n (i:Int) (pre.length:Int) x b=some (!b&&(Et n.agents i (pre.length+1) post&&R)):=fun b=>by
   rw [FA,BP h hx.1,ih (pre++[p]) m (As h) (by omega),List.length_append,List.length_singleton]
   cases b <;> simp
  rw [E9,if_pos (Cb h),BZ h,AA,j,ip n.agents p hl hs,AA,Et,Mn]
  cases (decide (p.agent=(i:Int))&&decide (p.slot=(pre.length:Int))) with
  |true=>simp
  | false=>
   rw [if_neg (by simp)]
   cases hp:Fu n.agents p with
   |none=>simp
   |some q=>
    grind [Fu,Option.bind_eq_some_iff]
theorem iq (n:Net) (hl:n.agents.length≤Big) (hs:∀a ∈ n.agents,a.Small):∀ (post pre:List Agent) (m:Nat),n.agents=pre++post→2*szl (fun a=>a.ports.length) post+1≤m→Ek m n (pre.length:Int)=some (Cr n.agents pre.length post):=by
 intro post
 induction post with
 |nil=>
  intro pre m h hm
  obtain⟨m,rfl⟩:∃k,m=k+1:=⟨m - 1,by omega⟩
  rw [Ek,C0 h]; rfl
 |cons x post ih=>
  intro pre m h hm
  simp only [szl] at hm
  obtain⟨m,rfl⟩:∃k,m=k+1:=⟨m - 1,by omega⟩
  rw [Ek,if_pos (Cb h),BZ h,AA,Cr]
  refine ZE n hl hs pre.length x (hs x (by rw [h]; simp)) _ (2*szl (fun a=>a.ports.length) post+1) (fun k hk=>?_) x.ports [] m rfl (by omega)
  rw [BP h hl,ih (pre++[x]) k (As h) hk,List.length_append,List.length_singleton]
def Net.Small (n:Net):Prop:=szl (fun a=>a.ports.length) n.agents≤Big∧∀a ∈ n.agents,a.data.length≤Big
theorem Net.Small.agents {n:Net} (h:n.Small):n.agents.length≤Big∧∀a ∈ n.agents,a.Small:=
 ⟨Nat.le_trans (G9 (fun a=>a.ports.length) _) h.1,fun a j=>⟨by have:=H3 (s:=fun a:Agent=>a.ports.length) j; have:=h.1; omega,h.2 a j⟩⟩
theorem cZ (n:Net) (h:n.Small):Lf n=some n.valid:=by
 obtain⟨j,hs⟩:=h.agents
 unfold Lf Net.valid
 rw [aw _ j hs,AA]
 have:=iq n j hs n.agents [] fuel rfl (by rw [AY]; have:=h.1; grind)
 simp only [List.length_nil,Int.natCast_zero] at this
 rw [this]
 cases agentsB n.agents <;> simp
def IY (i:Nat):Nat→List Port→List Port
 |_,[] =>[]
 |k,_::ps=>⟨(i:Int),(k:Int)⟩::IY i (k+1) ps
def E0:Nat→List Agent→List Port
 |_,[] =>[]
 |i,x::xs=>IY i 0 x.ports++E0 (i+1) xs
theorem Og (i:Nat):∀ (ps:List Port) (k:Nat),(IY i k ps).length =ps.length
 | [],_=>rfl
 |_::ps,k=>by rw [IY,List.length_cons,Og i ps,List.length_cons]
theorem P4:∀ (l:List Agent) (i:Nat),(E0 i l).length ≤szl (fun a=>a.ports.length) l
 | [],_=>by grind [E0]
 |x::l,i=>by
  have:=P4 l (i+1)
  grind [E0,szl,Og]
theorem lU (n:Net) (i:Nat) (x:Agent) (hx:x.Small) (Z:List Port) (N:Nat):
  ∀ (post pre:List Port) (acc:List Port) (m:Nat),x.ports=pre++post→acc.length+post.length≤Big→(∀m,N≤m→CF m n (acc++IY i pre.length post) (IntKind.i64.wrap ((i:Int)+1))=some Z)→post.length+1+N≤m→DH m n (i:Int) x acc (pre.length:Int)=some Z:=by
 intro post
 induction post with
 |nil=>
  intro pre acc m h j q hm
  simp only [List.length_nil] at hm
  obtain⟨m,rfl⟩:∃k,m=k+1:=⟨m - 1,by omega⟩
  rw [DH,C0 h,if_neg (by simp)]
  grind [IY]
 |cons p post ih=>
  intro pre acc m h j q hm
  simp only [List.length_cons] at hm j
  obtain⟨m,rfl⟩:∃k,m=k+1:=⟨m - 1,by omega⟩
  rw [DH,if_pos (Cb h),A8 (by grind),AA,BP h hx.1]
  grind [IY]
theorem lV (n:Net) (hl:n.agents.length≤Big) (hs:∀a ∈ n.agents,a.Small):∀ (post pre:List Agent) (acc:List Port) (m:Nat),n.agents=pre++post→acc.length+szl (fun a=>a.ports.length) post≤Big→2*szl (fun a=>a.ports.length) post+1≤m→CF m n acc (pre.length:Int)=some (acc++E0 pre.length post):=by
 intro post
 induction post with
 |nil=>
  intro pre acc m h j hm
  obtain⟨m,rfl⟩:∃k,m=k+1:=⟨m - 1,by omega⟩
  rw [CF,C0 h]; simp [E0]
 |cons x post ih=>
  intro pre acc m h j hm
  simp only [szl] at hm j
  obtain⟨m,rfl⟩:∃k,m=k+1:=⟨m - 1,by omega⟩
  rw [CF,if_pos (Cb h),BZ h,AA]
  refine lU n pre.length x (hs x (by rw [h]; simp)) _ (2*szl (fun a=>a.ports.length) post+1) x.ports [] acc m rfl (by omega) (fun k hk=>?_) (by omega)
  rw [BP h hl,ih (pre++[x]) _ k (As h) (by grind [Og]) hk,List.length_append,List.length_singleton,E0,List.append_assoc]
  rfl
theorem XE (n:Net) (h:n.Small):IR n=some (E0 0 n.agents):=by
 obtain⟨j,hs⟩:=h.agents
 unfold IR
 have:=lV n j hs n.agents [] [] fuel rfl (by have:=h.1; grind) (by rw [AY]; have:=h.1; grind)
 grind
def fD (l:List Agent) (p:Port):Bool:=match Fu l p with
 |some q=> !Mn l p.agent.toNat p.slot.toNat q
 |none=>true
theorem az (n:Net) (i k:Nat) (q:Port) (hq:Fu n.agents ⟨(i:Int),(k:Int)⟩=some q):HZ ⟨(i:Int),(k:Int)⟩ n=some (fD n.agents ⟨(i:Int),(k:Int)⟩):=by
 have j:∀ (p r:Port),Fu n.agents p=some r→Bf n p=some r:=fun p r h=>by
  grind [Fu,Bf]
 grind [HZ,fD,ay,Mn,Int.toNat_natCast]
theorem XF (l:List Port) (f:Port→Option Bool) (p:Port→Bool) (hl:l.length≤Big) (hf:∀x ∈ l,f x=some (p x)):B5 l f=some (l.any p):=by
 obtain⟨i,h1,h2,-⟩:=Lg A7 (fun n l i f=>by rw [A7]) l f p hl hf
 grind [B5,Dg]
theorem cp {l pre post:List Agent} {x:Agent} {ppre ppost:List Port} {p:Port} (h:l=pre++x::post) (hx:x.ports=ppre++p::ppost):Fu l ⟨(pre.length:Int),(ppre.length:Int)⟩=some p:=by
 unfold Fu
 rw [BZ h,Option.bind_some,BZ hx]
theorem WS {l pre post:List Agent} {x:Agent} (h:l=pre++x::post):∀ (ps ppre:List Port),x.ports=ppre++ps→(IY pre.length ppre.length ps).any (fD l)= !Et l pre.length ppre.length ps
 | [],_,_=>by rfl
 |p::ps,ppre,hx=>by
  have:=WS h ps (ppre++[p]) (As hx)
  rw [List.length_append,List.length_singleton] at this
  rw [IY,Et,List.any_cons,this,fD,cp h hx]
  simp
theorem WT {l pre post:List Agent} {x:Agent} (h:l=pre++x::post):∀ (ps ppre:List Port),x.ports=ppre++ps→∀y ∈ IY pre.length ppre.length ps,∃ (i k:Nat) (q:Port),y=⟨(i:Int),(k:Int)⟩∧Fu l ⟨(i:Int),(k:Int)⟩=some q
 | [],_,_,y,hy=>by grind [IY]
 |p::ps,ppre,hx,y,hy=>by
  rw [IY,List.mem_cons] at hy
  rcases hy with rfl|hy
  ·exact⟨_,_,p,rfl,cp h hx⟩
  ·exact WT h ps (ppre++[p]) (As hx) y (by rw [List.length_append,List.length_singleton]; exact hy)
theorem cq {l:List Agent}:∀ (post pre:List Agent),l=pre++post→(E0 pre.length post).any (fD l)= !Cr l pre.length post
 | [],_,_=>by rfl
 |x::post,pre,h=>by
  have h1:=cq post (pre++[x]) (As h)
  rw [List.length_append,List.length_singleton] at h1
  grind [WS,List.length_nil,E0,Cr]
theorem cr {l:List Agent}:∀ (post pre:List Agent),l=pre++post→∀y ∈ E0 pre.length post,∃ (i k:Nat) (q:Port),y=⟨(i:Int),(k:Int)⟩∧Fu l ⟨(i:Int),(k:Int)⟩=some q
 | [],_,_,y,hy=>by grind [E0]
 |x::post,pre,h,y,hy=>by
  rw [E0,List.mem_append] at hy
  rcases hy with hy|hy
  ·exact WT h x.ports [] rfl y hy
  ·exact cr post (pre++[x]) (As h) y (by rw [List.length_append,List.length_singleton]; exact hy)
theorem W2 (n:Net) (h:n.Small):EA n=some n.valid:=by
 obtain⟨j,hs⟩:=h.agents
 unfold EA Net.valid
 rw [ax _ j hs,AA,XE n h,AA,XF _ _ (fD n.agents) (Nat.le_trans (P4 _ _) h.1) (fun y hy=>by
  obtain⟨i,k,q,rfl,p⟩:=cr n.agents [] rfl y hy
  grind [az]),AA]
 have:=cq (l:=n.agents) n.agents [] rfl
 rw [List.length_nil] at this
 rw [this]
 cases agentsB n.agents <;> simp
end Go.Proofs.YthenkmapmnkelaaGreatDoor.Ab
