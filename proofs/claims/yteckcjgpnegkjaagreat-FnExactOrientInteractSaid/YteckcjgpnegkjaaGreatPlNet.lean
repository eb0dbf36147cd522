/-
  Plain lemmas for the laws about models: loops over lists, bounded arithmetic. No program is in sight.
-/
import Derived.Test.YteckcjgpnegkjaaGreatAbY
import Derived.Test.YteckcjgpnegkjaaGreatMod
import Derived.Test.YteckcjgpnegkjaaGreatModU
namespace Go.Proofs.YteckcjgpnegkjaaGreat.Ab
set_option linter.unusedVariables false
set_option linter.unusedSimpArgs false
open Go.RowKit
theorem w64 {n} (h1: -9223372036854775808≤n) (h2:n≤9223372036854775807):IntKind.i64.wrap n=n:=jm h1 h2
abbrev Big:Nat:=4294967296
theorem FZ {n} (h:n≤4611686018427387904):n≤fuel:=by rw [BG]; exact h
section
variable {α:Type} {l pre post:List α} {x:α}
theorem CP (h:l=pre++x::post):decide ((pre.length:Int)<(l.length:Int))=true:=by
 subst h; simp only [List.length_append,List.length_cons,decide_eq_true_eq]; omega
theorem DL (h:l=pre++[]):decide ((pre.length:Int)<(l.length:Int))=false:=by
 subst h; simp
theorem BH (h:l=pre++x::post):at? l (pre.length:Int)=some x:=by
 subst h
 unfold at?
 rw [if_pos (by omega)]
 simp
theorem Ay (h:l=pre++x::post) (hl:l.length≤Big):IntKind.i64.wrap ((pre.length:Int)+1)=((List.length (pre++[x]):Nat):Int):=by
 subst h
 simp only [List.length_append,List.length_cons,List.length_nil,Big] at hl ⊢
 rw [w64 (by omega) (by omega)]
 omega
theorem CU (h:l=pre++x::post):l=(pre++[x])++post:=by rw [h]; simp
theorem CQ {a b:List α} (h:a.length+b.length≤Big):app? a b=some (a++b):=by
 unfold app?; rw [if_pos (by unfold Big at h; omega)]
theorem P9 {z:α} {n:Nat} (h:n≤Big):PB (n:Int) z=some (List.replicate n z):=by
 unfold PB; rw [if_pos (by unfold Big at h; omega)]; simp
theorem gy {z} {k}:SO (pre++List.replicate (k+1) z) (pre.length:Int) x=(pre++[x])++List.replicate k z:=by
 unfold SO
 simp [List.replicate_succ]
theorem Wp {z} {k}:Bm (pre++List.replicate (k+1) z) (pre.length:Int) x=some ((pre++[x])++List.replicate k z):=by
 unfold Bm; rw [gy]
theorem dp {z} {k}:at? (pre++List.replicate (k+1) z) (pre.length:Int)=some z:=by
 unfold at?
 rw [if_pos (by omega)]
 simp
end
theorem AA {α β:Type} {a:α} {k:α→Option β}:Option.bind (some a) k=k a:=rfl
def szr (z left:Nat):Int:=if z≤left then ((left - z:Nat):Int) else -1
theorem ZV {z left}:decide (szr z left<0)=decide (left<z):=by
 unfold szr
 by_cases h:z≤left
 ·rw [if_pos h]; simp; omega
 ·rw [if_neg h]; simp; omega
theorem dq {z left} (h:z≤left):szr z left=((left - z:Nat):Int):=if_pos h
theorem j6 {z left} (h:left<z):szr z left= -1:=if_neg (by omega)
theorem ZW {n left:Nat} (h1:left≤1048576) (h2:n≤9223372036854775807):IntKind.i64.wrap ((left:Int) - (n:Int))=(left:Int) - n:=w64 (by omega) (by omega)
theorem Wq (l:List Int) (left:Nat) (h1:left≤1048576) (h2:l.length≤9223372036854775807):JS l left=some (szr l.length left):=by
 unfold JS
 rw [ZW h1 h2]
 by_cases h:l.length≤left
 ·rw [if_neg (by simp; omega),dq h]; congr 1; omega
 ·rw [if_pos (by simp; omega),j6 (by omega)]
theorem TJ (l:List Int) (hl:l.length≤Big):∀ (post pre:List Int) (n:Nat),l=pre++post→post.length<n→Dd n l (pre++List.replicate post.length 0) (pre.length:Int)=some l:=by
 intro post
 induction post with
 |nil=>
  intro pre n h hn
  obtain⟨n,rfl⟩:∃m,n=m+1:=⟨n - 1,by omega⟩
  rw [Dd,DL h]; simp [h]
 |cons x post ih=>
  intro pre n h hn
  obtain⟨n,rfl⟩:∃m,n=m+1:=⟨n - 1,by omega⟩
  rw [Dd,if_pos (CP h),BH h,AA,List.length_cons,dp,AA,Wp,AA,Ay h hl]
  exact ih (pre++[x]) n (CU h) (by simp at hn; omega)
theorem Wr (l:List Int) (hl:l.length≤Big):JT l=some l:=by
 unfold JT
 rw [P9 hl,AA]
 exact TJ l hl l [] fuel (by simp) (by rw [BG]; unfold Big at hl; omega)
set_option maxHeartbeats 1000000
def szl {α:Type} (s:α→Nat):List α→Nat
 | [] =>0
 |x::l=>1+s x+szl s l
theorem Gb {α:Type} (s:α→Nat):∀l:List α,l.length≤szl s l
 | [] =>by simp
 |x::l=>by rw [szl,List.length_cons]; have:=Gb s l; omega
theorem H4 {α:Type} {s:α→Nat} {x:α}:∀ {l:List α},x ∈ l→s x<szl s l
 |y::l,h=>by
  rw [szl]
  rcases List.mem_cons.1 h with rfl|h
  ·omega
  ·have:=H4 (s:=s) h; omega
theorem RK {k:Int→Option Int} {z left rest:Nat} {X:Option Int} (hX:X=some (szr z left)) (hk:z≤left→k ((left - z:Nat):Int)=some (szr rest (left - z))):
  (Option.bind X fun v=>if decide (v<0)=true then some (-1) else k v)=some (szr (z+rest) left):=by
 rw [hX,AA,ZV]
 grind [szr]
theorem ZX {k:Int→Option Int} {z left rest:Nat} (h1:left≤1048576) (h2:z≤9223372036854775807) (hk:z≤left→k ((left - z:Nat):Int)=some (szr rest (left - z))):
  (if decide (IntKind.i64.wrap ((left:Int) - (z:Int))<0)=true then some (-1) else k (IntKind.i64.wrap ((left:Int) - (z:Int))))=some (szr (z+rest) left):=by
 rw [ZW h1 h2]
 grind [szr]
theorem YU {left}:some ((left:Nat):Int)=some (szr 0 left):=by rfl
theorem gSz {α:Type} (L:Nat→Int→Int→Option Int) (g:α→Int→Option Int) (s:α→Nat) (l:List α) (hL:∀n p i,L (n+1) p i=(if (decide (i<(l.length:Int)))=true then ((at? l i).bind fun x=>((g x p).bind fun v=>(if (decide (v<0))=true then (some (-1)) else (L n v (IntKind.i64.wrap (i+1)))))) else (some p)))
  (left:Nat) (h1:left≤1048576) (hg:∀x ∈ l,∀k:Nat,k≤1048576→g x k=some (szr (s x) k)) (hl:l.length≤9223372036854775807):
  (if decide (IntKind.i64.wrap ((left:Int) - (l.length:Int))<0)=true then some (-1) else L fuel (IntKind.i64.wrap ((left:Int) - (l.length:Int))) 0)=some (szr (szl s l) left):=by
 have hsz:=Gb s l
 have:=ZX (k:=fun v=>L fuel v 0) (rest:=szl s l - l.length) h1 hl fun h=>?_
 ·rw [show l.length+(szl s l - l.length)=szl s l from by omega] at this
  omega
 ·have loop:∀ (post pre:List α) (n l3:Nat),l=pre++post→l3≤left→post.length<n→L n l3 (pre.length:Int)=some (szr (szl s post - post.length) l3):=by
   intro post
   induction post with
   |nil=>
    intro pre n l3 h _ hn
    obtain⟨n,rfl⟩:∃m,n=m+1:=⟨n - 1,by omega⟩
    rw [hL,DL h]
    rfl
   | cons x post ihp=>
    intro pre n l3 hh h4 hn
    obtain⟨n,rfl⟩:∃m,n=m+1:=⟨n - 1,by omega⟩
    have hx:x ∈ l:=by rw [hh]; simp
    have hp:=Gb s post
    rw [hL,if_pos (CP hh),BH hh,AA]
    have e:=RK (k:=fun v=>L n v (IntKind.i64.wrap ((pre.length:Int)+1))) (rest:=szl s post - post.length) (hg x hx l3 (by omega)) fun h5=>by
     rw [Ay hh (by grind)]
     grind
    rw [szl,List.length_cons,show 1+s x+szl s post - (post.length+1)=s x+(szl s post - post.length) from by omega]
    exact e
  exact loop l [] fuel (left - l.length) (by simp) (by omega) (by rw [BG]; omega)
theorem gTo {α:Type} (L:Nat→List α→Int→Option (List α)) (g:α→Option α) (z:α) (l:List α) (hL:∀n acc i,L (n+1) acc i=(if (decide (i<(l.length:Int)))=true then ((at? l i).bind fun x=>((g x).bind fun y=>((at? acc i).bind fun _=>((Bm acc i y).bind fun z=>(L n z (IntKind.i64.wrap (i+1))))))) else (some acc)))
  (hl:l.length≤Big) (hg:∀x ∈ l,g x=some x):((PB (l.length:Int) z).bind fun acc=>L fuel acc 0)=some l:=by
 have loop:∀ (post pre:List α) (n:Nat),l=pre++post→post.length<n→L n (pre++List.replicate post.length z) (pre.length:Int)=some l:=by
  intro post
  induction post with
  |nil=>
   intro pre n h hn
   obtain⟨n,rfl⟩:∃m,n=m+1:=⟨n - 1,by omega⟩
   rw [hL,DL h]; simp [h]
  |cons x post ih=>
   intro pre n h hn
   obtain⟨n,rfl⟩:∃m,n=m+1:=⟨n - 1,by omega⟩
   rw [hL,if_pos (CP h),BH h,AA,hg x (by rw [h]; simp),AA,List.length_cons,dp,AA,Wp,AA,Ay h hl]
   grind
 rw [P9 hl,AA]
 exact loop l [] fuel (by simp) (by rw [BG]; grind)
def Dx (o:Option Bool) (p:Prop):Prop:=∃b,o=some b∧(b=true↔p)
theorem Dx.mk {b} {p:Prop} (h:b=true↔p):Dx (some b) p:=⟨b,rfl,h⟩
theorem Dx.iff {o} {p q:Prop} (h:Dx o p) (hpq:p↔q):Dx o q:=by
 grind
theorem Dx.true {o} {p:Prop} (h:Dx o p) (hp:p):o=some true:=by
 obtain⟨b,rfl,h1⟩:=h
 rw [h1.2 hp]
theorem Ht {b} {X} {p q:Prop} (h:b=true↔p) (hX:p→Dx X q):Dx (if (!b)=true then some false else X) (p∧q):=by
 cases b with
 |true=>grind
 |false=>exact⟨false,rfl,⟨fun k=>Bool.noConfusion k,fun k=>h.2 k.1⟩⟩
theorem YV {o} {k} {p r:Prop} (h:Dx o p) (hk:∀b,(b=true↔p)→Dx (k b) r):Dx (Option.bind o k) r:=by
 obtain⟨b,rfl,h1⟩:=h
 grind
theorem HR {o} {X} {p q:Prop} (h:Dx o p) (hX:p→Dx X q):Dx (Option.bind o fun b=>if (!b)=true then some false else X) (p∧q):=
 YV h fun b hb=>Ht hb hX
theorem OP:Dx (some true) True:=.mk (by simp)
theorem NL {p:Prop} [Decidable p] :decide p=true↔p:=decide_eq_true_iff
theorem gz {α β:Type} {l:List α} {m:List β}:decide ((l.length:Int)=(m.length:Int))=true↔l.length=m.length:=by
 rw [decide_eq_true_iff]; omega
theorem gEq {α:Type} (L:Nat→Int→Option Bool) (f:α→α→Option Bool) (l m:List α) (hL:∀n i,L (n+1) i=(if (decide (i<(l.length:Int)))=true then ((at? l i).bind fun x=>((at? m i).bind fun y=>((f x y).bind fun v=>(if (!v)=true then (some false) else (L n (IntKind.i64.wrap (i+1))))))) else (some true)))
  (hl:l.length≤Big) (hlen:l.length=m.length) (hf:∀x ∈ l,∀y ∈ m,Dx (f x y) (x=y)):Dx (L fuel 0) (l=m):=by
 have loop:∀ (post post' pre pre':List α) (n:Nat),l=pre++post→m=pre'++post'→pre.length=pre'.length→post.length<n→Dx (L n (pre.length:Int)) (post=post'):=by
  intro post
  induction post with
  |nil=>
   intro post' pre pre' n h h' hpp hn
   obtain⟨n,rfl⟩:∃m,n=m+1:=⟨n - 1,by omega⟩
   rw [hL,DL h]
   obtain rfl:post'=[] :=List.eq_nil_of_length_eq_zero (by rw [h,h'] at hlen; grind)
   exact .mk (by simp)
  | cons x post ih=>
   intro post' pre pre' n h h' hpp hn
   obtain⟨n,rfl⟩:∃m,n=m+1:=⟨n - 1,by omega⟩
   cases post' with
   |nil=>rw [h,h'] at hlen; grind
   |cons y post'=>
    rw [hL,if_pos (CP h),BH h,AA,hpp,BH h',AA,← hpp,Ay h hl]
    refine(HR (hf x (by rw [h]; simp) y (by rw [h']; simp)) fun _=>ih post' (pre++[x]) (pre'++[y]) n (CU h) (CU h') (by grind) (by grind)).iff ?_
    simp
 exact loop l m [] [] fuel (by simp) (by simp) rfl (by rw [BG]; grind)
theorem dr {α:Type} (L:Nat→Int→Option Bool) (f:α→α→Option Bool) (l m:List α) (hL:∀n i,L (n+1) i=(if (decide (i<(l.length:Int)))=true then ((at? l i).bind fun x=>((at? m i).bind fun y=>((f x y).bind fun v=>(if (!v)=true then (some false) else (L n (IntKind.i64.wrap (i+1))))))) else (some true)))
  (hl:l.length≤Big) (hf:∀x ∈ l,∀y ∈ m,Dx (f x y) (x=y)):Dx (if (!decide ((l.length:Int)=(m.length:Int)))=true then some false else L fuel 0) (l=m):=
 (Ht gz fun h=>gEq L f l m hL hl h hf).iff ⟨fun h=>h.2,fun h=>⟨by rw [h],h⟩⟩
theorem SQ (l m:List Int) (hl:l.length≤Big):Dx (JU l m) (l=m):=by
 unfold JU
 exact dr (fun n i=>EK n l m i) (fun x y=>some (decide (x=y))) l m (fun n i=>by rw [EK]; rfl) hl fun x _ y _=>.mk NL
theorem U0 (s:ByteArray):In s s=true:=by grind [In]
theorem dt {k:Int→Option Bool} {z left:Nat} {X:Option Int} (hX:X=some (szr z left)) (hk:z≤left→k ((left - z:Nat):Int)=some true):
  (Option.bind X fun v=>if decide (v<0)=true then some true else k v)=some true:=by
 rw [hX,AA,ZV]
 grind [dq]
set_option maxRecDepth 20000
set_option maxHeartbeats 4000000
theorem LU {α:Type} (L:Nat→List α→Int→(α→Option Bool)→Option Int) (hL:∀n l i f,L (n+1) l i f=(if (decide (i<(l.length:Int)))=true then ((at? l i).bind fun x=>((f x).bind fun b=>(if b=true then (some i) else (L n l (IntKind.i64.wrap (i+1)) f)))) else (some (-1))))
  (l:List α) (f:α→Option Bool) (p:α→Bool) (hl:l.length≤Big) (hf:∀x ∈ l,f x=some (p x)):∃i:Int,L fuel l 0 f=some i∧(0≤i↔l.any p=true)∧(l.any p=false→i= -1):=by
 have loop:∀ (post pre:List α) (n:Nat),l=pre++post→post.length<n→∃i:Int,L n l (pre.length:Int) f=some i∧(0≤i↔post.any p=true)∧(post.any p=false→i= -1):=by
  intro post
  induction post with
  |nil=>
   intro pre n h hn
   obtain⟨n,rfl⟩:∃m,n=m+1:=⟨n - 1,by omega⟩
   rw [hL,DL h]
   exact⟨-1,rfl,by simp,fun _=>rfl⟩
  | cons x post ih=>
   intro pre n h hn
   obtain⟨n,rfl⟩:∃m,n=m+1:=⟨n - 1,by omega⟩
   rw [hL,if_pos (CP h),BH h,AA,hf x (by rw [h]; simp),AA]
   by_cases hp:p x=true
   ·rw [if_pos hp]
    exact⟨_,rfl,by simp [hp],by simp [hp]⟩
   ·rw [if_neg hp,Ay h hl]
    obtain⟨i,h1,h2,h3⟩:=ih (pre++[x]) n (CU h) (by simp at hn; omega)
    have hp':p x=false:=by simpa using hp
    exact⟨i,h1,by simpa [hp'] using h2,by simpa [hp'] using h3⟩
 exact loop l [] fuel (by simp) (by rw [BG]; unfold Big at hl; omega)
theorem Ws (l:List Int) (f:Int→Option Bool) (p:Int→Bool) (hl:l.length≤Big) (hf:∀x ∈ l,f x=some (p x)):CB l f=some (l.any p):=by
 obtain⟨i,h1,h2,-⟩:=LU Bl (fun n l i f=>by rw [Bl]) l f p hl hf
 unfold CB FA
 rw [h1,AA]
 congr 1
 rw [Bool.eq_iff_iff,decide_eq_true_eq]; exact h2
def Gi (n:Int):Bool:=decide (0≤n∧n≤23)
theorem Fw (n a b:Int):C4 n a b=some (decide (a≤n∧n≤b)):=by
 unfold C4
 by_cases h:a≤n <;> simp [h]
theorem du (n:Int):NK n=some (decide (-2147483648≤n∧n≤2147483647)):=by
 unfold NK
 by_cases h: -2147483648≤n <;> simp [h]
theorem TK (n:Int):GA n=some (decide (1≤n∧n≤6)):=by
 unfold GA
 by_cases h:1≤n <;> simp [h]
theorem No (n:Int):F9 n=some (Gi n):=by
 unfold F9 Gi
 by_cases h:0≤n
 ·simp [h]; omega
 ·simp [h]
theorem g7 {l:List Int}:l.any (fun k=> !Gi k)= !l.all Gi:=by
 induction l with
 |nil=>rfl
 |cons x xs ih=>simp only [List.any_cons,List.all_cons,ih,Bool.not_and]
theorem kind_cases (k:Int):k=1∨k=2∨k=3∨k=4∨k=5∨k=6∨k=7∨k=8∨k=9∨k=10∨k=11∨k=12∨(k<1∨12<k):=by omega
def ports (k f:Int):Int:=
 if k=9 then (if 0≤f∧f≤3 then f+1 else 0) else if f≠0 then 0
 else if k=1∨k=5∨k=6∨k=12 then 1 else if k=8∨k=10∨k=11 then 2 else if k=2∨k=3∨k=4∨k=7 then 3 else 0
theorem QA {k:Int} (h:k<1∨12<k):k≠1∧k≠2∧k≠3∧k≠4∧k≠5∧k≠6∧k≠7∧k≠8∧k≠9∧k≠10∧k≠11∧k≠12:=by omega
theorem az (k f:Int):JB k f=some (ports k f):=by
 have hw:0≤f∧f≤3→IntKind.i64.wrap (1+f)=f+1:=fun h=>by rw [w64 (by omega) (by omega)]; omega
 by_cases hf:f=0
 ·subst hf
  rcases kind_cases k with h|h|h|h|h|h|h|h|h|h|h|h|h
  all_goals first|(subst h; rfl)|skip
  grind [QA,JB,FC,GB,FB,ports]
 grind [JB,Fw,ports]
theorem JC (k:Int):Jb k=some (decide (1≤k∧k≤12)):=by
 unfold Jb
 by_cases h:1≤k <;> simp [h]
theorem QB (k f:Int):Hq k f=some (ports k f):=by
 have hw:0≤f∧f≤3→IntKind.i64.wrap (f+1)=f+1:=fun h=>w64 (by omega) (by omega)
 by_cases hf:f=0
 ·subst hf
  rcases kind_cases k with h|h|h|h|h|h|h|h|h|h|h|h|h
  all_goals first|(subst h; rfl)|skip
  grind [Hq,E9,E8,ports,JC]
 grind [Hq,E9,ports,E8,JC]
def levB (k l:Int):Bool:=decide (1≤k∧k≤12)&&if k=1∨k=5∨k=6 then decide (l=0) else decide (0≤l∧l≤8)
theorem NM (k l:Int):Ez k l=some (levB k l):=by
 rcases kind_cases k with h|h|h|h|h|h|h|h|h|h|h|h|h
 all_goals first|(subst h; simp [Ez,EL,BE,Kt,levB,Fw,AA]; done)|skip
 grind [QA,Ez,EL,BE,Kt,levB,Fw]
theorem J5 (k l:Int):D9 k l=some (levB k l):=by
 have hl:decide (l=0)=true∨decide (l=0)=false:=by cases decide (l=0) <;> simp
 rcases kind_cases k with h|h|h|h|h|h|h|h|h|h|h|h|h
 all_goals first|(subst h; by_cases h0:l=0 <;> by_cases h1:0≤l <;> simp [D9,JC,Ex,Hl,levB,AA,h0,h1]; done)|skip
 grind [D9,JC,levB]
def HT (a:Agent):Bool:=
 if a.kind=6 then decide (a.data.length=0)&&decide (-2147483648≤a.value∧a.value≤2147483647)
 else if a.kind=7 then decide (a.data.length=0)&&decide (1≤a.value∧a.value≤6)
 else if a.kind=8 then decide (a.data.length=1)&&decide (1≤a.value∧a.value≤6)&&a.data.all fun d=>decide (-2147483648≤d∧d≤2147483647)
 else if a.kind=9 then decide (a.data.length=0)&&decide (0≤a.value∧a.value≤3)
 else if a.kind=12 then decide (a.data.length=0)&&Gi a.value
 else if a.kind=10 then decide (a.value=0)&&decide (1≤a.data.length∧a.data.length≤4)&&a.data.all Gi
 else if a.kind=11 then decide (a.value=0)&&decide (a.data.length=2)&&a.data.all Gi
 else decide (a.value=0)&&decide (a.data.length=0)
theorem UK (n:Int):Jd n=some (Gi n):=by
 unfold Jd
 rw [Fw,AA]; rfl
theorem n9 {α:Type} (L:Nat→Int→Option Bool) (f:α→Option Bool) (p:α→Bool) (l:List α) (hL:∀n i,L (n+1) i=(if (decide (i<(l.length:Int)))=true then ((at? l i).bind fun x=>((f x).bind fun v=>(if (!v)=true then (some false) else (L n (IntKind.i64.wrap (i+1)))))) else (some true)))
  (hl:l.length≤Big) (hf:∀x ∈ l,f x=some (p x)):L fuel 0=some (l.all p):=by
 have loop:∀ (post pre:List α) (n:Nat),l=pre++post→post.length<n→L n (pre.length:Int)=some (post.all p):=by
  intro post
  induction post with
  |nil=>
   intro pre n h hn
   obtain⟨n,rfl⟩:∃m,n=m+1:=⟨n - 1,by omega⟩
   rw [hL,DL h]; simp
  |cons x post ih=>
   intro pre n h hn
   obtain⟨n,rfl⟩:∃m,n=m+1:=⟨n - 1,by omega⟩
   rw [hL,if_pos (CP h),BH h,AA,hf x (by rw [h]; simp),AA,Ay h hl,List.all_cons]
   grind
 exact loop l [] fuel rfl (by rw [BG]; grind)
theorem len0 {α:Type} {l:List α}:decide ((l.length:Int)=0)=decide (l.length=0):=by grind
theorem oA {α:Type} {l:List α}:decide ((l.length:Int)=1)=decide (l.length=1):=by grind
theorem len2 {α:Type} {l:List α}:decide ((l.length:Int)=2)=decide (l.length=2):=by grind
theorem oC {α:Type} {l:List α}:decide (1≤(l.length:Int)∧(l.length:Int)≤4)=decide (1≤l.length∧l.length≤4):=by grind
theorem Wt (a:Agent) (hd:a.data.length≤Big):Co fuel a 0=some (a.data.all Gi):=
 n9 (fun n i=>Co n a i) Jd Gi a.data (fun n i=>by rw [Co]) hd fun x _=>UK x
theorem Wu (a:Agent) (hd:a.data.length≤Big):HQ a=some (HT a):=by
 have h3:=Wt a hd
 unfold HQ HT
 rcases kind_cases a.kind with h|h|h|h|h|h|h|h|h|h|h|h|h
 all_goals try simp only [h,FL,CM,Fw,UK,AA,h3,len0,oA,len2,oC,eq_self,decide_true,reduceIte,Int.reduceEq,decide_false,Bool.false_eq_true]
 all_goals first|(by_cases h0:a.value=0 <;> by_cases h1:a.data.length=0 <;> simp [h0,h1]; done)|skip
 ·match hdd:a.data with
  | [] =>simp
  | [d] =>by_cases h1:1≤a.value∧a.value≤6 <;> simp [at?,h1]
  |d::e::l=>simp
 ·cases decide (a.value=0) <;> cases decide (1≤a.data.length∧a.data.length≤4) <;> simp
 ·cases decide (a.value=0) <;> cases decide (a.data.length=2) <;> simp
 grind
theorem dv {l:List Int}:l.any (fun k=> !Gi k)= !l.all Gi:=g7
theorem dw (l:List Int) (hl:l.length≤Big):CB l (fun y0=>Fu y0)=some (!l.all Gi):=by
 rw [Ws l _ (fun k=> !Gi k) hl (fun x _=>by unfold Fu; rw [No,AA]),dv]
def agB (a:Agent):Bool:=decide (0<a.ports.length∧ports a.kind (if a.kind=9 then (a.ports.length:Int) - 1 else 0)=(a.ports.length:Int))&&levB a.kind a.level&&HT a
theorem a6 (a:Agent) (hp:a.ports.length≤Big) (hd:a.data.length≤Big):Je a=some (agB a):=by
 have hf:CR a=some (if a.kind=9 then (a.ports.length:Int) - 1 else 0):=by
  grind [CR,w64]
 unfold Je agB
 rw [hf,AA,az,AA,NM,Wu a hd]
 generalize ports a.kind _=p
 by_cases h:0<a.ports.length∧p=(a.ports.length:Int)
 ·obtain⟨h1,rfl⟩:=h
  have h2:(0:Int)<(a.ports.length:Int):=by omega
  cases levB a.kind a.level <;> simp [h1,h2,AA]
 ·by_cases h1:(0:Int)<p
  ·have h2:¬ ((a.ports.length:Int)=p):=by omega
   grind
  ·simp [h,h1]
theorem oD (x y:Bool):Aw x y=some (x&&y):=by cases x <;> simp [Aw]
theorem Wv (a:Agent) (hd:a.data.length≤Big):Cn a false=some (HT a):=by
 unfold Cn HT
 rw [if_neg (by simp),dw a.data hd,AA]
 rcases kind_cases a.kind with h|h|h|h|h|h|h|h|h|h|h|h|h
 all_goals try simp only [h,oD,du,TK,No,AA,len0,oA,len2,eq_self,decide_true,reduceIte,Int.reduceEq,decide_false,Bool.false_eq_true,Bool.not_not]
 all_goals first|(by_cases h0:a.value=0 <;> by_cases h1:a.data.length=0 <;> simp [h0,h1]; done)|skip
 ·match hdd:a.data with
  | [] =>simp
  | [d] =>by_cases h1:1≤a.value∧a.value≤6 <;> simp [at?,h1]
  |d::e::l=>simp
 ·grind
 ·by_cases h1:1≤a.data.length <;> by_cases h2:a.data.length≤4
  ·have e1:(1:Int)≤(a.data.length:Int):=by omega
   have e2:(a.data.length:Int)≤4:=by omega
   grind
  ·have e2:¬ (a.data.length:Int)≤4:=by omega
   grind
  ·have e1:¬ (1:Int)≤(a.data.length:Int):=by omega
   grind
  omega
 ·cases decide (a.value=0) <;> cases decide (a.data.length=2) <;> simp
 grind
theorem a7 (a:Agent) (hp:a.ports.length≤Big) (hd:a.data.length≤Big):HO a=some (agB a):=by
 unfold HO agB
 have hf:Jc a.kind (a.ports.length:Int)=some (if a.kind=9 then (a.ports.length:Int) - 1 else 0):=by
  grind [Jc,w64]
 rw [hf,AA,QB,AA,J5,AA]
 grind [ports,Cn,decide_eq_false,Wv]
def U1:Nat→List Agent→Bool
 |_,[] =>true
 |i,x::l=>(agB x&&(decide (x.kind=1) == decide (i=0)))&&U1 (i+1) l
def agentsB (l:List Agent):Bool:=decide (1≤l.length∧l.length≤600)&&U1 0 l
def Agent.Small (a:Agent):Prop:=a.ports.length≤Big∧a.data.length≤Big
theorem Ww {n:Nat}:decide ((n:Int)=0)=decide (n=0):=by grind
theorem U2 (l:List Agent) (hl:l.length≤Big) (hs:∀a ∈ l,a.Small):∀ (post pre:List Agent) (n:Nat),l=pre++post→2*post.length<n→Cd n l (pre.length:Int)=some (U1 pre.length post):=by
 intro post
 induction post with
 |nil=>
  intro pre n h hn
  obtain⟨n,rfl⟩:∃m,n=m+1:=⟨n - 1,by omega⟩
  rw [Cd,DL h]; rfl
 |cons x post ih=>
  intro pre n h hn
  simp only [List.length_cons] at hn
  obtain⟨n,rfl⟩:∃m,n=m+2:=⟨n - 2,by omega⟩
  obtain⟨h1,h2⟩:=hs x (by rw [h]; simp)
  rw [Cd,if_pos (CP h),BH h,AA,a6 x h1 h2,AA,AA,Dw,Dw,Ay h hl,ih (pre++[x]) n (CU h) (by omega),U1,Ww]
  grind
theorem YW (l:List Agent) (hl:l.length≤Big) (hs:∀a ∈ l,a.Small):IQ l=some (agentsB l):=by
 unfold IQ agentsB
 rw [Fw,AA]
 have:=U2 l hl hs l [] fuel rfl (by rw [BG]; grind)
 simp only [List.length_nil,Int.natCast_zero] at this
 rw [this]
 have e:decide (1≤(l.length:Int)∧(l.length:Int)≤600)=decide (1≤l.length∧l.length≤600):=by grind
 rw [e]
 cases decide (1≤l.length∧l.length≤600) <;> rfl
theorem U3 (l:List Agent) (hl:l.length≤Big) (hs:∀a ∈ l,a.Small):∀ (post pre:List Agent) (n:Nat),l=pre++post→2*post.length<n→Cc n l (pre.length:Int)=some (U1 pre.length post):=by
 intro post
 induction post with
 |nil=>
  intro pre n h hn
  obtain⟨n,rfl⟩:∃m,n=m+1:=⟨n - 1,by omega⟩
  rw [Cc,DL h]; rfl
 |cons x post ih=>
  intro pre n h hn
  simp only [List.length_cons] at hn
  obtain⟨n,rfl⟩:∃m,n=m+2:=⟨n - 2,by omega⟩
  obtain⟨h1,h2⟩:=hs x (by rw [h]; simp)
  rw [Cc,if_pos (CP h),BH h,AA,a7 x h1 h2,AA,Dv,Dv,Ay h hl,ih (pre++[x]) n (CU h) (by omega),U1,Ww]
  grind
theorem YX (l:List Agent) (hl:l.length≤Big) (hs:∀a ∈ l,a.Small):IP l=some (agentsB l):=by
 have h4:=U3 l hl hs l [] fuel rfl (by rw [BG]; grind)
 grind [IP,agentsB,Fv]
def GJ (l:List Agent) (p:Port):Option Port:=(at? l p.agent).bind fun y=>at? y.ports p.slot
def UL (l:List Agent) (i k:Nat) (p:Port):Bool:= !(decide (p.agent=i)&&decide (p.slot=k))&&match GJ l p with
 |some q=>decide (q.agent=i)&&decide (q.slot=k)
 |none=>false
def IV (l:List Agent) (i:Nat):Nat→List Port→Bool
 |_,[] =>true
 |k,p::ps=>UL l i k p&&IV l i (k+1) ps
def GC (l:List Agent):Nat→List Agent→Bool
 |_,[] =>true
 |i,x::xs=>IV l i 0 x.ports&&GC l (i+1) xs
def Net.valid (n:Net):Bool:=agentsB n.agents&&GC n.agents 0 n.agents
theorem LV {α:Type} {l:List α} {i:Int} (h:¬ (0≤i∧i<(l.length:Int))):at? l i=none:=by
 grind [at?]
theorem FF {α:Type} {l:List α} {i:Int} (h:0≤i∧i<(l.length:Int)):∃x,at? l i=some x∧x ∈ l:=by
 simp_all [at?]
theorem dx (l:List Agent) (p:Port) (hl:l.length≤Big) (hs:∀a ∈ l,a.Small):Ku l p=some (GJ l p).isSome :=by
 unfold Ku GJ
 rw [Fw,AA,w64 (by omega) (by grind)]
 by_cases h:0≤p.agent∧p.agent<(l.length:Int)
 ·obtain⟨y,hy,hm⟩:=FF h
  rw [decide_eq_true ⟨h.1,by omega⟩,if_pos rfl,hy,AA,AA,Fw,AA]
  have:=(hs y hm).1
  rw [w64 (by omega) (by grind)]
  by_cases h2:0≤p.slot∧p.slot<(y.ports.length:Int)
  ·obtain⟨q,hq,-⟩:=FF h2
   rw [decide_eq_true ⟨h2.1,by omega⟩,hq]; rfl
  grind [LV]
 grind [LV]
theorem YY (l:List Agent) (p:Port):Ks l p=some (GJ l p).isSome :=by
 unfold Ks GJ
 by_cases h:0≤p.agent∧p.agent<(l.length:Int)
 ·obtain⟨y,hy,hm⟩:=FF h
  rw [decide_eq_true h.1,if_pos rfl,decide_eq_true h.2,if_pos rfl,hy,AA,AA]
  by_cases h2:0≤p.slot
  ·rw [decide_eq_true h2,if_pos rfl]
   by_cases h3:p.slot<(y.ports.length:Int)
   ·obtain⟨q,hq,-⟩:=FF ⟨h2,h3⟩
    rw [decide_eq_true h3,hq]; rfl
   grind [LV]
  grind [LV]
 grind [LV]
theorem Wx (n:Net) (hl:n.agents.length≤Big) (hs:∀a ∈ n.agents,a.Small) (i:Nat) (x:Agent) (hx:x.Small) (R:Bool) (N:Nat) (hR:∀m,N≤m→ET m n (IntKind.i64.wrap ((i:Int)+1))=some R):
  ∀ (post pre:List Port) (m:Nat),x.ports=pre++post→2*post.length+1+N≤m→Ep m n (i:Int) x (pre.length:Int)=some (IV n.agents i pre.length post&&R):=by
 intro post
 induction post with
 |nil=>
  intro pre m h hm
  simp only [List.length_nil] at hm
  obtain⟨m,rfl⟩:∃k,m=k+1:=⟨m - 1,by omega⟩
  rw [Ep,DL h,if_neg (by simp),hR m (by omega),IV]; rfl
 | cons p post ih=>
  intro pre m h hm
  simp only [List.length_cons] at hm
  obtain⟨m,rfl⟩:∃k,m=k+2:=⟨m - 2,by omega⟩
  have h13:∀b,Er (m+1) n (i:Int) (pre.length:Int) x b=some (!b&&(IV n.agents i (pre.length+1) post&&R)):=fun b=>by
   rw [Er,Ay h hx.1,ih (pre++[p]) m (CU h) (by omega),List.length_append,List.length_singleton]
   cases b <;> simp
  rw [Ep,if_pos (CP h),BH h,AA,h13,dx n.agents p hl hs,AA,IV,UL]
  cases (decide (p.agent=(i:Int))&&decide (p.slot=(pre.length:Int))) with
  |true=>simp
  | false=>
   rw [if_neg (by simp)]
   cases hp:GJ n.agents p with
   |none=>simp
   |some q=>
    grind [GJ,Option.bind_eq_some_iff]
theorem dy (n:Net) (hl:n.agents.length≤Big) (hs:∀a ∈ n.agents,a.Small):∀ (post pre:List Agent) (m:Nat),n.agents=pre++post→2*szl (fun a=>a.ports.length) post+1≤m→ET m n (pre.length:Int)=some (GC n.agents pre.length post):=by
 intro post
 induction post with
 |nil=>
  intro pre m h hm
  obtain⟨m,rfl⟩:∃k,m=k+1:=⟨m - 1,by omega⟩
  rw [ET,DL h]; rfl
 |cons x post ih=>
  intro pre m h hm
  simp only [szl] at hm
  obtain⟨m,rfl⟩:∃k,m=k+1:=⟨m - 1,by omega⟩
  rw [ET,if_pos (CP h),BH h,AA,GC]
  refine Wx n hl hs pre.length x (hs x (by rw [h]; simp)) _ (2*szl (fun a=>a.ports.length) post+1) (fun k hk=>?_) x.ports [] m rfl (by omega)
  rw [Ay h hl,ih (pre++[x]) k (CU h) hk,List.length_append,List.length_singleton]
def Net.Small (n:Net):Prop:=szl (fun a=>a.ports.length) n.agents≤Big∧∀a ∈ n.agents,a.data.length≤Big
theorem Net.Small.agents {n:Net} (h:n.Small):n.agents.length≤Big∧∀a ∈ n.agents,a.Small:=
 ⟨Nat.le_trans (Gb (fun a=>a.ports.length) _) h.1,fun a ha=>⟨by have:=H4 (s:=fun a:Agent=>a.ports.length) ha; have:=h.1; omega,h.2 a ha⟩⟩
theorem U4 (n:Net) (h:n.Small):J3 n=some n.valid:=by
 obtain⟨hl,hs⟩:=h.agents
 unfold J3 Net.valid
 rw [YW _ hl hs,AA]
 have:=dy n hl hs n.agents [] fuel rfl (by rw [BG]; have:=h.1; grind)
 simp only [List.length_nil,Int.natCast_zero] at this
 rw [this]
 cases agentsB n.agents <;> simp
def Gj (i:Nat):Nat→List Port→List Port
 |_,[] =>[]
 |k,_::ps=>⟨(i:Int),(k:Int)⟩::Gj i (k+1) ps
def Bw:Nat→List Agent→List Port
 |_,[] =>[]
 |i,x::xs=>Gj i 0 x.ports++Bw (i+1) xs
theorem OQ (i:Nat):∀ (ps:List Port) (k:Nat),(Gj i k ps).length =ps.length
 | [],_=>rfl
 |_::ps,k=>by rw [Gj,List.length_cons,OQ i ps,List.length_cons]
theorem LW:∀ (l:List Agent) (i:Nat),(Bw i l).length ≤szl (fun a=>a.ports.length) l
 | [],_=>by grind [Bw]
 |x::l,i=>by
  have:=LW l (i+1)
  grind [Bw,szl,OQ]
theorem g8 (n:Net) (i:Nat) (x:Agent) (hx:x.Small) (Z:List Port) (N:Nat):
  ∀ (post pre:List Port) (acc:List Port) (m:Nat),x.ports=pre++post→acc.length+post.length≤Big→(∀m,N≤m→CI m n (acc++Gj i pre.length post) (IntKind.i64.wrap ((i:Int)+1))=some Z)→post.length+1+N≤m→DK m n (i:Int) x acc (pre.length:Int)=some Z:=by
 intro post
 induction post with
 |nil=>
  intro pre acc m h hacc hR hm
  simp only [List.length_nil] at hm
  obtain⟨m,rfl⟩:∃k,m=k+1:=⟨m - 1,by omega⟩
  rw [DK,DL h,if_neg (by simp)]
  grind [Gj]
 |cons p post ih=>
  intro pre acc m h hacc hR hm
  simp only [List.length_cons] at hm hacc
  obtain⟨m,rfl⟩:∃k,m=k+1:=⟨m - 1,by omega⟩
  rw [DK,if_pos (CP h),CQ (by grind),AA,Ay h hx.1]
  grind [Gj]
theorem g9 (n:Net) (hl:n.agents.length≤Big) (hs:∀a ∈ n.agents,a.Small):∀ (post pre:List Agent) (acc:List Port) (m:Nat),n.agents=pre++post→acc.length+szl (fun a=>a.ports.length) post≤Big→2*szl (fun a=>a.ports.length) post+1≤m→CI m n acc (pre.length:Int)=some (acc++Bw pre.length post):=by
 intro post
 induction post with
 |nil=>
  intro pre acc m h hacc hm
  obtain⟨m,rfl⟩:∃k,m=k+1:=⟨m - 1,by omega⟩
  rw [CI,DL h]; simp [Bw]
 |cons x post ih=>
  intro pre acc m h hacc hm
  simp only [szl] at hm hacc
  obtain⟨m,rfl⟩:∃k,m=k+1:=⟨m - 1,by omega⟩
  rw [CI,if_pos (CP h),BH h,AA]
  refine g8 n pre.length x (hs x (by rw [h]; simp)) _ (2*szl (fun a=>a.ports.length) post+1) x.ports [] acc m rfl (by omega) (fun k hk=>?_) (by omega)
  rw [Ay h hl,ih (pre++[x]) _ k (CU h) (by grind [OQ]) hk,List.length_append,List.length_singleton,Bw,List.append_assoc]
  rfl
theorem PE (n:Net) (h:n.Small):Gx n=some (Bw 0 n.agents):=by
 obtain⟨hl,hs⟩:=h.agents
 unfold Gx
 have:=g9 n hl hs n.agents [] [] fuel rfl (by have:=h.1; grind) (by rw [BG]; have:=h.1; grind)
 grind
def a8 (l:List Agent) (p:Port):Bool:=match GJ l p with
 |some q=> !UL l p.agent.toNat p.slot.toNat q
 |none=>true
theorem YZ (n:Net) (i k:Nat) (q:Port) (hq:GJ n.agents ⟨(i:Int),(k:Int)⟩=some q):HP ⟨(i:Int),(k:Int)⟩ n=some (a8 n.agents ⟨(i:Int),(k:Int)⟩):=by
 have hpeer:∀ (p r:Port),GJ n.agents p=some r→Ct n p=some r:=fun p r h=>by
  grind [GJ,Ct]
 grind [HP,a8,YY,UL,Int.toNat_natCast]
theorem U5 (l:List Port) (f:Port→Option Bool) (p:Port→Bool) (hl:l.length≤Big) (hf:∀x ∈ l,f x=some (p x)):B6 l f=some (l.any p):=by
 obtain⟨i,h1,h2,-⟩:=LU A8 (fun n l i f=>by rw [A8]) l f p hl hf
 grind [B6,DZ]
theorem ZY {l pre post:List Agent} {x:Agent} {ppre ppost:List Port} {p:Port} (h:l=pre++x::post) (hx:x.ports=ppre++p::ppost):GJ l ⟨(pre.length:Int),(ppre.length:Int)⟩=some p:=by
 unfold GJ
 rw [BH h,Option.bind_some,BH hx]
theorem UM {l pre post:List Agent} {x:Agent} (h:l=pre++x::post):∀ (ps ppre:List Port),x.ports=ppre++ps→(Gj pre.length ppre.length ps).any (a8 l)= !IV l pre.length ppre.length ps
 | [],_,_=>by rfl
 |p::ps,ppre,hx=>by
  have:=UM h ps (ppre++[p]) (CU hx)
  rw [List.length_append,List.length_singleton] at this
  rw [Gj,IV,List.any_cons,this,a8,ZY h hx]
  simp
theorem UN {l pre post:List Agent} {x:Agent} (h:l=pre++x::post):∀ (ps ppre:List Port),x.ports=ppre++ps→∀y ∈ Gj pre.length ppre.length ps,∃ (i k:Nat) (q:Port),y=⟨(i:Int),(k:Int)⟩∧GJ l ⟨(i:Int),(k:Int)⟩=some q
 | [],_,_,y,hy=>by grind [Gj]
 |p::ps,ppre,hx,y,hy=>by
  rw [Gj,List.mem_cons] at hy
  rcases hy with rfl|hy
  ·exact⟨_,_,p,rfl,ZY h hx⟩
  ·exact UN h ps (ppre++[p]) (CU hx) y (by rw [List.length_append,List.length_singleton]; exact hy)
theorem ZZ {l:List Agent}:∀ (post pre:List Agent),l=pre++post→(Bw pre.length post).any (a8 l)= !GC l pre.length post
 | [],_,_=>by rfl
 |x::post,pre,h=>by
  have h1:=ZZ post (pre++[x]) (CU h)
  rw [List.length_append,List.length_singleton] at h1
  grind [UM,List.length_nil,Bw,GC]
theorem U6 {l:List Agent}:∀ (post pre:List Agent),l=pre++post→∀y ∈ Bw pre.length post,∃ (i k:Nat) (q:Port),y=⟨(i:Int),(k:Int)⟩∧GJ l ⟨(i:Int),(k:Int)⟩=some q
 | [],_,_,y,hy=>by grind [Bw]
 |x::post,pre,h,y,hy=>by
  rw [Bw,List.mem_append] at hy
  rcases hy with hy|hy
  ·exact UN h x.ports [] rfl y hy
  ·exact U6 post (pre++[x]) (CU h) y (by rw [List.length_append,List.length_singleton]; exact hy)
theorem U7 (n:Net) (h:n.Small):Gf n=some n.valid:=by
 obtain⟨hl,hs⟩:=h.agents
 unfold Gf Net.valid
 rw [YX _ hl hs,AA,PE n h,AA,U5 _ _ (a8 n.agents) (Nat.le_trans (LW _ _) h.1) (fun y hy=>by
  obtain⟨i,k,q,rfl,hq⟩:=U6 n.agents [] rfl y hy
  grind [YZ]),AA]
 have:=ZZ (l:=n.agents) n.agents [] rfl
 rw [List.length_nil] at this
 rw [this]
 cases agentsB n.agents <;> simp
end Go.Proofs.YteckcjgpnegkjaaGreat.Ab
