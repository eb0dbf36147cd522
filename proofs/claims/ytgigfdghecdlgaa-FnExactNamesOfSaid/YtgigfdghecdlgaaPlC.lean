/-
  Core terms: both sides' checks, by one plain function each. No program is in sight.
-/
import Derived.Test.YtgigfdghecdlgaaPlH
namespace Go.Proofs.Ytgigfdghecdlgaa.Ab
set_option linter.unusedVariables false
set_option linter.unusedSimpArgs false
open Go.RowKit
theorem F8 {α:Type} (L:Nat→List α→Int→(α→Option Bool)→Option Int) (hL:∀n l i f,L (n+1) l i f=(if (decide (i<((List.length l:Nat):Int)))=true then (Option.bind (at? l i) fun x=>(Option.bind (f x) fun b=>(if b=true then (some i) else (L n l (IntKind.i64.wrap (i+1)) f)))) else (some (-1))))
  (l:List α) (f:α→Option Bool) (p:α→Bool) (hl:l.length≤Big) (hf:∀x ∈ l,f x=some (p x)):∃i:Int,L fuel l 0 f=some i∧(0≤i↔l.any p=true)∧(l.any p=false→i= -1):=by
 have loop:∀ (post pre:List α) (n:Nat),l=pre++post→post.length<n→∃i:Int,L n l ((List.length pre:Nat):Int) f=some i∧(0≤i↔post.any p=true)∧(post.any p=false→i= -1):=by
  intro post
  induction post with
  |nil=>
   intro pre n h hn
   obtain⟨n,rfl⟩:∃m,n=m+1:=⟨n - 1,by omega⟩
   rw [hL,Bz h]
   exact⟨-1,rfl,by simp,fun _=>rfl⟩
  | cons x post ih=>
   intro pre n h hn
   obtain⟨n,rfl⟩:∃m,n=m+1:=⟨n - 1,by omega⟩
   rw [hL,if_pos (BW h),BX h,AA,hf x (by rw [h]; simp),AA]
   by_cases hp:p x=true
   ·rw [if_pos hp]
    exact⟨_,rfl,by simp [hp],by simp [hp]⟩
   ·rw [if_neg hp,Al h hl]
    obtain⟨i,h1,h2,h3⟩:=ih (pre++[x]) n (Am h) (by simp at hn; omega)
    have hp':p x=false:=by simpa using hp
    exact⟨i,h1,by simpa [hp'] using h2,by simpa [hp'] using h3⟩
 exact loop l [] fuel (by simp) (by rw [B5]; unfold Big at hl; omega)
theorem N5 (l:List Int) (f:Int→Option Bool) (p:Int→Bool) (hl:l.length≤Big) (hf:∀x ∈ l,f x=some (p x)):Ay l f=some (l.any p):=by
 obtain⟨i,h1,h2,-⟩:=F8 Ap (fun n l i f=>by rw [Ap]) l f p hl hf
 unfold Ay CZ
 rw [h1,AA]
 congr 1
 rw [Bool.eq_iff_iff,decide_eq_true_eq]; exact h2
theorem Mc (l:List Core) (f:Core→Option Bool) (p:Core→Bool) (hl:l.length≤Big) (hf:∀x ∈ l,f x=some (p x)):Aw l f=some (l.any p):=by
 obtain⟨i,h1,h2,-⟩:=F8 AZ (fun n l i f=>by rw [AZ]) l f p hl hf
 unfold Aw Bh
 rw [h1,AA]
 congr 1
 rw [Bool.eq_iff_iff,decide_eq_true_eq]; exact h2
def shape (k:Int):Int × Int × Int × Int:=
 if k=1∨k=2∨k=11 then (0,0,0,0) else if k=3∨k=5∨k=7 then (2,2,0,0) else if k=4∨k=6 then (1,1,0,0)
 else if k=8 then (0,3,0,0) else if k=9 then (1,1,1,4) else if k=10 then (1,1,2,2) else (0,-1,0,0)
def MA (c:Core):Bool:=
 if c.kind=1 then decide (0≤c.value∧c.value≤255) else if c.kind=2 then decide (-2147483648≤c.value∧c.value≤2147483647) else if c.kind=3 then decide (1≤c.value∧c.value≤6)
 else if c.kind=8 then decide (0≤c.value∧c.value≤3) else if c.kind=11 then decide (0≤c.value∧c.value≤23) else decide (c.value=0)
def C9 (n:Int):Bool:=decide (0≤n∧n≤23)
def DA (c:Core):Bool:=
 decide ((shape c.kind).1 ≤(c.kids.length:Int)∧(c.kids.length:Int)≤(shape c.kind).2.1)&&decide ((shape c.kind).2.2.1 ≤(c.data.length:Int)∧(c.data.length:Int)≤(shape c.kind).2.2.2)&&MA c&&c.data.all C9
theorem Gr (n a b:Int):C3 n a b=some (decide (a≤n∧n≤b)):=by
 unfold C3
 by_cases h:a≤n <;> simp [h]
theorem Ss (n:Int):IR n=some (decide (-2147483648≤n∧n≤2147483647)):=by
 unfold IR
 by_cases h: -2147483648≤n <;> simp [h]
theorem LB (n:Int):Dj n=some (decide (1≤n∧n≤6)):=by
 unfold Dj
 by_cases h:1≤n <;> simp [h]
theorem HV (n:Int):C2 n=some (C9 n):=by
 unfold C2 C9
 by_cases h:0≤n
 ·simp [h]; omega
 ·simp [h]
theorem N6 (k:Int):E2 k=some (shape k):=by
 unfold E2 Ch Cg DD shape
 by_cases h1:k=1
 ·simp [h1]
 by_cases h2:k=2
 ·simp [h2]
 by_cases h11:k=11
 ·simp [h11]
 by_cases h3:k=3
 ·simp [h3]
 by_cases h5:k=5
 ·simp [h5]
 by_cases h7:k=7
 ·simp [h7]
 by_cases h4:k=4
 ·simp [h4]
 by_cases h6:k=6
 ·simp [h6]
 by_cases h8:k=8
 ·simp [h8]
 by_cases h9:k=9
 ·simp [h9]
 by_cases h10:k=10
 ·simp [h10]
 simp [*]
theorem N7 (c:Core):E3 c=some (MA c):=by
 unfold E3 MA
 simp only [Gr,AA,decide_eq_true_eq]
 repeat' split
 all_goals first|rfl|simp_all
theorem Um {l:List Int}:l.any (fun k=> !C9 k)= !l.all C9:=by
 induction l with
 |nil=>rfl
 |cons x xs ih=>simp only [List.any_cons,List.all_cons,ih,Bool.not_and]
theorem Iz (c:Core) (hd:c.data.length≤Big):Cd c=some (DA c):=by
 have hc:Ay c.data (fun y0=>B6 y0)=some (!c.data.all C9):=by
  rw [N5 c.data _ (fun k=> !C9 k) hd (fun x _=>by unfold B6; rw [HV,AA]),Um]
 have hj:∀v d (n:Int),AP c v d n=some (v&&d&&decide ((c.kids.length:Int)=n)&&c.data.all C9):=by
  intro v d n
  unfold AP
  rw [hc,AA,Bool.not_not]
  cases v <;> cases d <;> by_cases h:(c.kids.length:Int)=n <;> simp [h]
 unfold Cd Bv Bu
 simp only [hj,Ss,LB,HV,AA]
 unfold DA
 have hall:(c.data.length:Int)=0→(c.data.all C9)=true:=fun h=>by
  have h0:c.data=[] :=List.eq_nil_of_length_eq_zero (by omega)
  rw [h0]; rfl
 have hD0:0≤(c.data.length:Int):=by omega
 have hK0:0≤(c.kids.length:Int):=by omega
 generalize c.data.all C9=A at*
 unfold shape MA C9
 generalize (c.data.length:Int)=D at*
 generalize (c.kids.length:Int)=K at*
 generalize c.value=v at*
 generalize c.kind=k at*
 clear hc hj hd
 by_cases h1:k=1
 ·by_cases h0:0≤v <;> simp [h1,h0] <;> (rw [Bool.eq_iff_iff]; cases A <;> simp <;> omega)
 by_cases h2:k=2
 ·simp [h2]; rw [Bool.eq_iff_iff]; cases A <;> simp <;> omega
 by_cases h3:k=3
 ·simp [h3]; rw [Bool.eq_iff_iff]; cases A <;> simp <;> omega
 by_cases h4:k=4
 ·simp [h4]; rw [Bool.eq_iff_iff]; cases A <;> simp <;> omega
 by_cases h6:k=6
 ·simp [h6]; rw [Bool.eq_iff_iff]; cases A <;> simp <;> omega
 by_cases h5:k=5
 ·simp [h5]; rw [Bool.eq_iff_iff]; cases A <;> simp <;> omega
 by_cases h7:k=7
 ·simp [h7]; rw [Bool.eq_iff_iff]; cases A <;> simp <;> omega
 by_cases h11:k=11
 ·simp [h11]; rw [Bool.eq_iff_iff]; cases A <;> simp <;> omega
 by_cases h10:k=10
 ·simp [h10]; rw [Bool.eq_iff_iff]; cases A <;> simp <;> omega
 by_cases h9:k=9
 ·by_cases h0:1≤D <;> simp [h9,h0] <;> (try rw [Bool.eq_iff_iff]) <;> cases A <;> simp <;> omega
 by_cases h8:k=8
 ·by_cases h0:D=0
  ·have:=hall h0
   by_cases h9:0≤v <;> by_cases h10:v<4 <;> simp [h8,h0,h9,h10,this] <;> (try omega) <;> (rw [Bool.eq_iff_iff]; simp; omega)
  ·simp [h8,h0]; cases A <;> simp <;> omega
 ·simp [*]; omega
mutual
def Core.wf:Core→Bool
 |⟨k,v,d,ks⟩=>DA ⟨k,v,d,ks⟩&&Core.wfs ks
def Core.wfs:List Core→Bool
 | [] =>true
 |c::cs=>Core.wf c&&Core.wfs cs
end
theorem Core.wf_eq (c:Core):c.wf=(DA c&&Core.wfs c.kids):=by cases c; rw [Core.wf]
mutual
def Core.depth:Core→Nat
 |⟨_,_,_,ks⟩=>Core.depths ks+1
def Core.depths:List Core→Nat
 | [] =>0
 |c::cs=>max (Core.depth c) (Core.depths cs)
end
theorem Core.depth_eq (c:Core):c.depth=Core.depths c.kids+1:=by cases c; rw [Core.depth]
mutual
theorem Core.depth_le:∀c:Core,c.depth≤c.nodes
 |⟨k,v,d,ks⟩=>by rw [Core.depth,Core.nodes]; have:=Core.depths_le ks; omega
theorem Core.depths_le:∀l:List Core,Core.depths l≤Core.nodess l
 | [] =>by simp [Core.depths,Core.nodess]
 |c::cs=>by rw [Core.depths,Core.nodess]; have:=Core.depth_le c; have:=Core.depths_le cs; omega
end
theorem Yk (a b:Nat):(if (a:Int)<(b:Int) then (b:Int) else (a:Int))=((max a b:Nat):Int):=by
 by_cases h:(a:Int)<b
 ·rw [if_pos h]; omega
 ·rw [if_neg h]; omega
theorem U7 {n:Nat} (h:n≤Big):IntKind.i64.wrap ((n:Int)+1)=((n+1:Nat):Int):=by
 rw [w64 (by omega) (by unfold Big at h; omega)]; omega
theorem N8 {n m:Nat} (h:n+m≤Big):IntKind.i64.wrap ((n:Int)+(m:Int))=((n+m:Nat):Int):=by
 rw [w64 (by omega) (by unfold Big at h; omega)]; omega
theorem HW:∀ (c:Core),c.Small→c.nodes≤Big→∀n,4*c.nodes≤n→Bg n c=some ((c.depth:Int),(c.nodes:Int)):=by
 refine Core.ind fun c ih hs hN n hn=>?_
 obtain⟨_,hd,hk,hf⟩:=hs
 rw [Core.nodes_eq] at hn hN ⊢
 rw [Core.depth_eq]
 obtain⟨n,rfl⟩:∃m,n=m+1:=⟨n - 1,by omega⟩
 rw [Bg]
 have loop:∀ (post pre:List Core) (n d s:Nat),c.kids=pre++post→4*Core.nodess post+1≤n→s+Core.nodess post≤Big→
   BH n c d s ((List.length pre:Nat):Int)=some (((max d (if post=[] then d else Core.depths post+1):Nat):Int),((s+Core.nodess post:Nat):Int)):=by
  intro post
  induction post with
  |nil=>
   intro pre n d s h hn _
   obtain⟨n,rfl⟩:∃m,n=m+1:=⟨n - 1,by omega⟩
   rw [BH,Bz h]; simp [Core.nodess]
  | cons x post ihp=>
   intro pre n d s h hn hsB
   rw [Core.nodess] at hn hsB
   have:=x.nodes_pos
   have hdx:=Core.depth_le x
   obtain⟨n,rfl⟩:∃m,n=m+1:=⟨n - 1,by omega⟩
   have hx:x ∈ c.kids:=by rw [h]; simp
   rw [BH,if_pos (BW h),BX h,AA,ih x hx (hf x hx) (by omega) n (by omega),AA,U7 (by omega),Yk,N8 (by omega),Al h hk,
    ihp (pre++[x]) n _ _ (Am h) (by omega) (by omega)]
   rw [Core.nodess,Core.depths,if_neg (List.cons_ne_nil _ _)]
   congr 2
   ·by_cases hp:post=[]
    ·subst hp; simp [Core.depths] <;> omega
    ·rw [if_neg hp]; omega
   ·omega
 have:=loop c.kids [] n 1 1 (by simp) (by omega) (by omega)
 refine this.trans ?_
 congr 2
 by_cases hp:c.kids=[]
 ·simp [hp,Core.depths]
 ·rw [if_neg hp]; omega
theorem Md:∀ (c:Core),c.Small→c.nodes≤Big→∀n,4*c.nodes≤n→CU n c=some (if c.wf=true then ((c.depth:Int),(c.nodes:Int),true) else (0,0,false)):=by
 refine Core.ind fun c ih hs hN n hn=>?_
 obtain⟨_,hd,hk,hf⟩:=hs
 rw [Core.nodes_eq] at hn hN ⊢
 rw [Core.depth_eq,Core.wf_eq]
 obtain⟨n,rfl⟩:∃m,n=m+1:=⟨n - 1,by omega⟩
 rw [CU,Iz c hd,AA]
 cases hno:DA c with
 |false=>simp
 | true=>
  rw [if_neg (by simp)]
  have loop:∀ (post pre:List Core) (n d s:Nat),c.kids=pre++post→4*Core.nodess post+1≤n→s+Core.nodess post≤Big→
    BQ n c d s ((List.length pre:Nat):Int)=some (if Core.wfs post=true then (((max d (if post=[] then d else Core.depths post+1):Nat):Int),((s+Core.nodess post:Nat):Int),true) else (0,0,false)):=by
   intro post
   induction post with
   |nil=>
    intro pre n d s h hn _
    obtain⟨n,rfl⟩:∃m,n=m+1:=⟨n - 1,by omega⟩
    rw [BQ,Bz h]; simp [Core.nodess,Core.wfs]
   | cons x post ihp=>
    intro pre n d s h hn hsB
    rw [Core.nodess] at hn hsB
    have:=x.nodes_pos
    have hdx:=Core.depth_le x
    obtain⟨n,rfl⟩:∃m,n=m+1:=⟨n - 1,by omega⟩
    have hx:x ∈ c.kids:=by rw [h]; simp
    rw [BQ,if_pos (BW h),BX h,AA,ih x hx (hf x hx) (by omega) n (by omega),AA,Core.wfs]
    cases hw:x.wf with
    |false=>simp
    | true=>
     rw [if_pos rfl,if_neg (by simp)]
     dsimp only
     rw [U7 (by omega),Yk,N8 (by omega),Al h hk,ihp (pre++[x]) n _ _ (Am h) (by omega) (by omega)]
     rw [Core.nodess,Core.depths,if_neg (List.cons_ne_nil _ _),Bool.true_and]
     congr 1
     split
     ·congr 2
      ·by_cases hp:post=[]
       ·subst hp; simp [Core.depths] <;> omega
       ·rw [if_neg hp]; omega
      ·congr 1; omega
     ·rfl
  have:=loop c.kids [] n 1 1 (by simp) (by omega) (by omega)
  refine this.trans ?_
  rw [Bool.true_and]
  congr 1
  split
  ·congr 2
   by_cases hp:c.kids=[]
   ·simp [hp,Core.depths]
   ·rw [if_neg hp]; omega
  ·rfl
def Core.valid (c:Core):Bool:=c.wf&&decide (c.depth≤80∧c.nodes≤400)
theorem Ca {c:Core} (h:c.nodes≤Big):16*c.nodes≤fuel:=by rw [B5]; unfold Big at h; omega
theorem N9 (c:Core) (hs:c.Small) (hN:c.nodes≤Big):Ey c=some (decide (c.depth≤80∧c.nodes≤400)):=by
 unfold Ey
 rw [HW c hs hN fuel (by have:=Ca hN; omega),AA]
 dsimp only
 by_cases h:c.depth≤80
 ·rw [if_pos (by simp; omega)]; congr 1; rw [Bool.eq_iff_iff]; simp; omega
 ·rw [if_neg (by simp; omega)]; congr 1; rw [Bool.eq_iff_iff]; simp; omega
theorem F9 (c:Core) (hs:c.Small) (hN:c.nodes≤Big):Cs c=some c.valid:=by
 unfold Cs Core.valid
 rw [Md c hs hN fuel (by have:=Ca hN; omega),AA]
 cases c.wf with
 |false=>simp
 |true=>simp [N9 c hs hN]
end Go.Proofs.Ytgigfdghecdlgaa.Ab
namespace Go.Proofs.Ytgigfdghecdlgaa.Ab
set_option linter.unusedVariables false
set_option linter.unusedSimpArgs false
open Go.RowKit
theorem OA {c:Core} (h:decide ((shape c.kind).2.2.1 ≤(c.data.length:Int)∧(c.data.length:Int)≤(shape c.kind).2.2.2)=true):c.data.length≤4:=by
 have:(shape c.kind).2.2.2 ≤4:=by
  unfold shape
  repeat' split
  all_goals simp
 simp at h
 omega
theorem OB:∀ (c:Core),c.Small→∀ (d l n:Nat),d≤Big→l≤Big→16*c.nodes≤n→Ct n c d l=some (if c.wf=true∧c.depth≤d∧c.nodes≤l then ((c.nodes:Nat):Int) else -1):=by
 refine Core.ind fun c ih hs d l n hd hl hn=>?_
 obtain⟨_,hdl,hk,hf⟩:=hs
 rw [Core.nodes_eq] at hn ⊢
 rw [Core.depth_eq,Core.wf_eq]
 obtain⟨n,rfl⟩:∃m,n=m+1:=⟨n - 1,by omega⟩
 rw [Ct,N6,AA]
 have hj:∀m,1≤m→A3 m c d l true=some (-1):=by
  intro m hm
  obtain⟨m,rfl⟩:∃k,m=k+1:=⟨m - 1,by omega⟩
  rw [A3,if_pos rfl]
 rw [hj n (by omega)]
 by_cases h1:d<1
 ·rw [if_pos (by simp; omega),if_neg (by omega)]
 rw [if_neg (by simp; omega)]
 by_cases h2:l<1
 ·rw [if_pos (by simp; omega),if_neg (by omega)]
 rw [if_neg (by simp; omega),Gr,AA,Gr,AA,N7,AA]
 have hno:DA c=(decide ((shape c.kind).1 ≤(c.kids.length:Int)∧(c.kids.length:Int)≤(shape c.kind).2.1)&&decide ((shape c.kind).2.2.1 ≤(c.data.length:Int)∧(c.data.length:Int)≤(shape c.kind).2.2.2)&&MA c&&c.data.all C9):=rfl
 rw [hno]
 cases hA:decide ((shape c.kind).1 ≤(c.kids.length:Int)∧(c.kids.length:Int)≤(shape c.kind).2.1) with
 |false=>simp
 |true=>
 cases hB:decide ((shape c.kind).2.2.1 ≤(c.data.length:Int)∧(c.data.length:Int)≤(shape c.kind).2.2.2) with
 |false=>simp
 |true=>
 have hd4:=OA hB
 cases hC:MA c with
 |false=>simp only [Bool.not_true,Bool.not_false,Bool.false_eq_true,if_false,hj n (by omega)]; simp
 |true=>
 simp only [Bool.not_true,Bool.false_eq_true,if_false,Bool.true_and]
 obtain⟨n,rfl⟩:∃m,n=m+1:=⟨n - 1,by omega⟩
 rw [A3,if_neg (by simp)]
 have loop3:∀ (post pre:List Core) (n s:Nat),c.kids=pre++post→16*Core.nodess post+1≤n→s≤l→
   Bk n c d l s ((List.length pre:Nat):Int)=some (if Core.wfs post=true∧Core.depths post+1≤d∧s+Core.nodess post≤l then ((s+Core.nodess post:Nat):Int) else -1):=by
  intro post
  induction post with
  |nil=>
   intro pre n s h hn hsl
   obtain⟨n,rfl⟩:∃m,n=m+1:=⟨n - 1,by omega⟩
   rw [Bk,Bz h,if_neg (by simp),if_pos ⟨rfl,by simp [Core.depths]; omega,by simp [Core.nodess]; omega⟩]
   simp [Core.nodess]
  | cons x post ihp=>
   intro pre n s h hn hsl
   rw [Core.nodess] at hn
   have:=x.nodes_pos
   obtain⟨n,rfl⟩:∃m,n=m+1:=⟨n - 1,by omega⟩
   have hx:x ∈ c.kids:=by rw [h]; simp
   rw [Bk,if_pos (BW h),BX h,AA,show IntKind.i64.wrap ((d:Int) - 1)=((d - 1:Nat):Int) from by rw [w64 (by omega) (by unfold Big at hd; omega)]; omega,
    show IntKind.i64.wrap ((l:Int) - (s:Int))=((l - s:Nat):Int) from by rw [w64 (by omega) (by unfold Big at hl; omega)]; omega,
    ih x hx (hf x hx) (d - 1) (l - s) n (by omega) (by omega) (by omega),AA,Core.wfs,Core.nodess,Core.depths]
   by_cases hw:x.wf=true∧x.depth≤d - 1∧x.nodes≤l - s
   ·rw [if_pos hw,if_neg (by simp),N8 (by omega),Al h hk,ihp (pre++[x]) n _ (Am h) (by omega) (by omega)]
    congr 1
    by_cases hw2:Core.wfs post=true∧Core.depths post+1≤d∧s+x.nodes+Core.nodess post≤l
    ·rw [if_pos hw2,if_pos ⟨by simp [hw.1,hw2.1],by omega,by omega⟩]; omega
    ·rw [if_neg hw2,if_neg]
     rintro ⟨k1,k2,k3⟩
     simp only [Bool.and_eq_true] at k1
     exact hw2 ⟨k1.2,by omega,by omega⟩
   ·rw [if_neg hw,if_pos (by decide),if_neg]
    rintro ⟨k1,k2,k3⟩
    simp only [Bool.and_eq_true] at k1
    exact hw ⟨k1.1,by omega,by omega⟩
 have loop2:∀ (post pre:List Int) (n:Nat),c.data=pre++post→post.length+16*Core.nodess c.kids+2≤n→
   Bj n c d l ((List.length pre:Nat):Int)=some (if post.all C9=true∧Core.wfs c.kids=true∧Core.depths c.kids+1≤d∧1+Core.nodess c.kids≤l then ((1+Core.nodess c.kids:Nat):Int) else -1):=by
  intro post
  induction post with
  |nil=>
   intro pre n h hn
   obtain⟨n,rfl⟩:∃m,n=m+1:=⟨n - 1,by omega⟩
   rw [Bj,Bz h,if_neg (by simp)]
   have:=loop3 c.kids [] n 1 (by simp) (by simp at hn; omega) (by omega)
   refine this.trans ?_
   simp
  | cons x post ihp=>
   intro pre n h hn
   obtain⟨n,rfl⟩:∃m,n=m+1:=⟨n - 1,by omega⟩
   rw [Bj,if_pos (BW h),BX h,AA,Gr,AA,List.all_cons]
   have e:C9 x=decide (0≤x∧x≤23):=rfl
   rw [← e]
   cases hx:C9 x with
   |false=>simp
   |true=>
    rw [if_neg (by simp),Al h hdl,ihp (pre++[x]) n (Am h) (by simp at hn; omega),Bool.true_and]
 have:=loop2 c.data [] n (by simp) (by omega)
 refine this.trans ?_
 congr 1
 by_cases hw:c.data.all C9=true∧Core.wfs c.kids=true∧Core.depths c.kids+1≤d∧1+Core.nodess c.kids≤l
 ·rw [if_pos hw,if_pos ⟨by rw [hw.1,hw.2.1]; rfl,hw.2.2.1,hw.2.2.2⟩]
 ·rw [if_neg hw,if_neg]
  rintro ⟨k1,k2,k3⟩
  simp only [Bool.and_eq_true] at k1
  exact hw ⟨k1.1,k1.2,k2,k3⟩
theorem Su (c:Core) (hs:c.Small) (hN:c.nodes≤Big):IS c=some c.valid:=by
 unfold IS Core.valid
 have:=OB c hs 80 400 fuel (by unfold Big; omega) (by unfold Big; omega) (Ca hN)
 rw [show ((80:Nat):Int)=80 from rfl,show ((400:Nat):Int)=400 from rfl] at this
 rw [this,AA]
 congr 1
 have hp:=c.nodes_pos
 by_cases h:c.wf=true∧c.depth≤80∧c.nodes≤400
 ·rw [if_pos h]; simp [h.1,h.2]; omega
 ·rw [if_neg h]
  cases hw:c.wf with
  |false=>simp
  |true=>simp [hw] at h; simp; omega
def bnd (k:Int) (i:Nat):Nat:=if k=4∨k=7∧i=1 then 1 else 0
mutual
def Core.above:Core→Nat→Bool
 |⟨k,v,_,ks⟩,a=>if k=1 then decide ((a:Int)≤v) else Core.aboves k ks 0 a
def Core.aboves (k:Int):List Core→Nat→Nat→Bool
 | [],_,_=>false
 |c::cs,i,a=>Core.above c (a+bnd k i)||Core.aboves k cs (i+1) a
end
theorem Core.above_eq (c:Core) (a:Nat):c.above a=if c.kind=1 then decide ((a:Int)≤c.value) else Core.aboves c.kind c.kids 0 a:=by cases c; rw [Core.above]
theorem Sv (k:Int) (i:Nat):bnd k i≤1:=by unfold bnd; split <;> omega
theorem Sw (c:Core) (i:Nat):Dk c i=some ((bnd c.kind i:Nat):Int):=by
 unfold Dk HD bnd
 by_cases h4:c.kind=4
 ·simp [h4]
 ·by_cases h7:c.kind=7
  ·by_cases h1:i=1
   ·subst h1; simp [h7]
   ·have:¬ (i:Int)=1:=by omega
    simp [h7,h1,this]
  ·simp [h4,h7]
theorem OC (c:Core) (i:Nat):E4 c i=some ((bnd c.kind i:Nat):Int):=by
 unfold E4 Ci bnd
 by_cases h4:c.kind=4
 ·simp [h4]
 ·by_cases h7:c.kind=7
  ·by_cases h1:i=1
   ·subst h1; simp [h7]
   ·have:¬ (i:Int)=1:=by omega
    simp [h7,h1,this]
  ·simp [h4,h7]
theorem OD:∀ (c:Core),c.Small→∀ (a n:Nat),a+c.depth≤Big→16*c.nodes≤n→Cu n c a=some (c.above a):=by
 refine Core.ind fun c ih hs a n ha hn=>?_
 obtain⟨_,hdl,hk,hf⟩:=hs
 rw [Core.nodes_eq] at hn
 rw [Core.depth_eq] at ha
 rw [Core.above_eq]
 obtain⟨n,rfl⟩:∃m,n=m+1:=⟨n - 1,by omega⟩
 rw [Cu]
 by_cases h1:c.kind=1
 ·rw [if_pos (by simpa using h1),if_pos h1]
 rw [if_neg (by simpa using h1),if_neg h1]
 have loop:∀ (post pre:List Core) (n:Nat),c.kids=pre++post→16*Core.nodess post+1≤n→Core.depths post+a+1≤Big→
   Bl n c a ((List.length pre:Nat):Int)=some (Core.aboves c.kind post pre.length a):=by
  intro post
  induction post with
  |nil=>
   intro pre n h hn _
   obtain⟨n,rfl⟩:∃m,n=m+1:=⟨n - 1,by omega⟩
   rw [Bl,Bz h,if_neg (by simp),Core.aboves]
  | cons x post ihp=>
   intro pre n h hn hB
   rw [Core.nodess] at hn
   rw [Core.depths] at hB
   have:=x.nodes_pos
   have hb:=Sv c.kind pre.length
   obtain⟨n,rfl⟩:∃m,n=m+1:=⟨n - 1,by omega⟩
   have hx:x ∈ c.kids:=by rw [h]; simp
   rw [Bl,if_pos (BW h),BX h,AA,OC,AA,N8 (by omega),ih x hx (hf x hx) _ n (by omega) (by omega),AA,Core.aboves]
   cases x.above (a+bnd c.kind pre.length) with
   |true=>simp
   |false=>
    rw [if_neg (by simp),Al h hk,ihp (pre++[x]) n (Am h) (by omega) (by omega)]
    simp
 exact loop c.kids [] n (by simp) (by omega) (by omega)
theorem Ji {x:Core}:∀ {l:List Core},x ∈ l→Core.wfs l=true→x.wf=true
 |c::cs,h,hw=>by
  rw [Core.wfs,Bool.and_eq_true] at hw
  rcases List.mem_cons.1 h with rfl|h
  ·exact hw.1
  ·exact Ji h hw.2
theorem Sx {c:Core} (h:DA c=true) (h1:c.kind=1):c.kids=[] :=by
 unfold DA shape at h
 rw [h1] at h
 simp at h
 exact h.1.1.1
theorem Kr:∀ (c:Core),c.Small→c.wf=true→∀ (a n:Nat),a+c.depth≤Big→16*c.nodes≤n→Bi n c a=some (!c.above a):=by
 refine Core.ind fun c ih hs hw a n ha hn=>?_
 obtain⟨_,hdl,hk,hf⟩:=hs
 rw [Core.nodes_eq] at hn
 rw [Core.depth_eq] at ha
 rw [Core.wf_eq,Bool.and_eq_true] at hw
 rw [Core.above_eq]
 obtain⟨n,rfl⟩:∃m,n=m+1:=⟨n - 1,by omega⟩
 obtain⟨n,rfl⟩:∃m,n=m+1:=⟨n - 1,by omega⟩
 rw [Bi]
 have loop:∀ (post pre:List Core) (n:Nat),c.kids=pre++post→16*Core.nodess post+1≤n→Core.depths post+a+1≤Big→
   A7 n c a ((List.length pre:Nat):Int)=some (!Core.aboves c.kind post pre.length a):=by
  intro post
  induction post with
  |nil=>
   intro pre n h hn _
   obtain⟨n,rfl⟩:∃m,n=m+1:=⟨n - 1,by omega⟩
   rw [A7,Bz h,if_neg (by simp),Core.aboves]; rfl
  | cons x post ihp=>
   intro pre n h hn hB
   rw [Core.nodess] at hn
   rw [Core.depths] at hB
   have:=x.nodes_pos
   have hb:=Sv c.kind pre.length
   obtain⟨n,rfl⟩:∃m,n=m+1:=⟨n - 1,by omega⟩
   have hx:x ∈ c.kids:=by rw [h]; simp
   rw [A7,if_pos (BW h),BX h,AA,Sw,AA,N8 (by omega),ih x hx (hf x hx) (Ji hx hw.2) _ n (by omega) (by omega),AA,Core.aboves]
   cases x.above (a+bnd c.kind pre.length) with
   |true=>simp
   |false=>
    rw [if_neg (by simp),Al h hk,ihp (pre++[x]) n (Am h) (by omega) (by omega)]
    simp
 by_cases h1:c.kind=1
 ·rw [if_pos (by simpa using h1),if_pos h1,BL]
  by_cases h2:(a:Int)≤c.value
  ·simp [h2]
  ·rw [if_neg (by simpa using h2)]
   have:=loop c.kids [] n (by simp) (by omega) (by omega)
   refine this.trans ?_
   rw [Sx hw.1 h1]
   simp [Core.aboves,h2]
 ·rw [if_neg (by simpa using h1),if_neg h1,BL,if_neg (by simp)]
  exact loop c.kids [] n (by simp) (by omega) (by omega)
def Core.closed (c:Core):Bool:=c.valid&& !c.above 0
theorem OE (c:Core) (hs:c.Small) (hN:c.nodes≤Big):Ez c=some c.closed:=by
 unfold Ez Core.closed
 rw [F9 c hs hN,AA]
 cases hv:c.valid with
 |false=>simp
 |true=>
  unfold Core.valid at hv
  simp only [Bool.and_eq_true,decide_eq_true_eq] at hv
  have:=Kr c hs hv.1 0 fuel (by unfold Big; omega) (Ca hN)
  rw [show ((0:Nat):Int)=0 from rfl] at this
  rw [if_pos rfl,this]; rfl
theorem Me (c:Core) (hs:c.Small) (hN:c.nodes≤Big):EJ c=some c.closed:=by
 unfold EJ Core.closed
 rw [Su c hs hN,AA]
 cases hv:c.valid with
 |false=>simp
 |true=>
  unfold Core.valid at hv
  simp only [Bool.and_eq_true,decide_eq_true_eq] at hv
  have:=OD c hs 0 fuel (by unfold Big; omega) (Ca hN)
  rw [show ((0:Nat):Int)=0 from rfl] at this
  rw [if_pos rfl,this]; rfl
end Go.Proofs.Ytgigfdghecdlgaa.Ab
namespace Go.Proofs.Ytgigfdghecdlgaa.Ab
set_option linter.unusedVariables false
set_option linter.unusedSimpArgs false
open Go.RowKit
mutual
def Core.anyC (p:Core→Bool):Core→Bool
 |⟨k,v,d,ks⟩=>p ⟨k,v,d,ks⟩||Core.anysC p ks
def Core.anysC (p:Core→Bool):List Core→Bool
 | [] =>false
 |c::cs=>Core.anyC p c||Core.anysC p cs
end
theorem Core.anyC_eq (p:Core→Bool) (c:Core):c.anyC p=(p c||Core.anysC p c.kids):=by cases c; rw [Core.anyC]
theorem Core.anysC_any (p:Core→Bool):∀l:List Core,Core.anysC p l=l.any (Core.anyC p)
 | [] =>by rw [Core.anysC]; rfl
 |c::cs=>by rw [Core.anysC,Core.anysC_any p cs]; rfl
theorem PN (f:Core→Option Bool) (p:Core→Bool):∀ (c:Core),c.Small→(∀x:Core,x.Small→f x=some (p x))→∀n,2*c.nodes≤n→DW n c f=some (c.anyC p):=by
 refine Core.ind fun c ih hs hf n hn=>?_
 have hs0:=hs
 obtain⟨_,hdl,hk,hk2⟩:=hs
 rw [Core.nodes_eq] at hn
 obtain⟨n,rfl⟩:∃m,n=m+1:=⟨n - 1,by omega⟩
 rw [DW,hf c hs0,AA,Core.anyC_eq]
 cases hp:p c with
 |true=>simp
 | false=>
  rw [if_neg (by simp),Mc c.kids _ (Core.anyC p) hk fun x hx=>?_,AA,Core.anysC_any]
  ·rfl
  ·have hle:x.nodes≤Core.nodess c.kids:=by
    have key:∀l:List Core,x ∈ l→x.nodes≤Core.nodess l:=by
     intro l
     induction l with
     |nil=>intro h; cases h
     |cons y ys ih=>
      intro h
      rw [Core.nodess]
      rcases List.mem_cons.1 h with rfl|h
      ·omega
      ·have:=ih h; omega
    exact key _ hx
   have:=x.nodes_pos
   obtain⟨n,rfl⟩:∃m,n=m+1:=⟨n - 1,by omega⟩
   rw [EH,ih x hx (hk2 x hx) hf n (by omega),AA]
theorem RK {c:Core} (h:c.closed=true):c.wf=true:=by
 unfold Core.closed Core.valid at h
 simp only [Bool.and_eq_true] at h
 exact h.1.1
end Go.Proofs.Ytgigfdghecdlgaa.Ab
