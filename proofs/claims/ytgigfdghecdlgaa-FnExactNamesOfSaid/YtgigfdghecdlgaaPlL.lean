/-
  Lists of texts: sizes, copies, comparisons. No program is in sight.
-/
import Derived.Test.YtgigfdghecdlgaaPlG
import Derived.Test.YtgigfdghecdlgaaModN
import Derived.Test.YtgigfdghecdlgaaPlC
import Derived.Test.YtgigfdghecdlgaaMod
namespace Go.Proofs.Ytgigfdghecdlgaa.Ab
set_option linter.unusedVariables false
set_option linter.unusedSimpArgs false
open Go.RowKit
theorem Mf (l:List ByteArray) (left:Nat) (h1:left≤1048576) (h2:l.length≤9223372036854775807) (h3:∀s ∈ l,s.size≤9223372036854775807):EK l left=some (szr (l.length+HX l) left):=by
 unfold EK
 rw [Jj h1 h2]
 by_cases h:l.length≤left
 ·rw [if_neg (by simp; omega)]
  have loop:∀ (post pre:List ByteArray) (n l3:Nat),l=pre++post→l3≤left→post.length<n→BS n l l3 ((List.length pre:Nat):Int)=some (szr (HX post) l3):=by
   intro post
   induction post with
   |nil=>
    intro pre n l3 h _ hn
    obtain⟨n,rfl⟩:∃m,n=m+1:=⟨n - 1,by omega⟩
    rw [BS,Bz h]
    simp [HX,szr]
   | cons x post ihp=>
    intro pre n l3 hh h4 hn
    obtain⟨n,rfl⟩:∃m,n=m+1:=⟨n - 1,by omega⟩
    have hx:x ∈ l:=by rw [hh]; simp
    rw [BS,if_pos (BW hh),BX hh,AA,Jj (by omega) (h3 x hx),HX]
    by_cases h5:l3<x.size
    ·rw [if_pos (by simp; omega),EM (by omega)]
    ·rw [if_neg (by simp; omega),Al hh (by unfold Big; omega),show ((l3:Int) - (x.size:Int))=((l3 - x.size:Nat):Int) from by omega,ihp (pre++[x]) n (l3 - x.size) (Am hh) (by omega) (by simp at hn; omega)]
     congr 1
     unfold szr
     by_cases h6:HX post≤l3 - x.size
     ·rw [if_pos h6,if_pos (by omega)]; congr 1; omega
     ·rw [if_neg h6,if_neg (by omega)]
  have:=loop l [] fuel (left - l.length) (by simp) (by omega) (by rw [B5]; omega)
  rw [show ((left:Int) - (l.length:Int))=((left - l.length:Nat):Int) from by omega]
  rw [show (0:Int)=((List.length ([] :List ByteArray):Nat):Int) from rfl,this]
  congr 1
  unfold szr
  by_cases h6:HX l≤left - l.length
  ·rw [if_pos h6,if_pos (by omega)]; congr 1; omega
  ·rw [if_neg h6,if_neg (by omega)]
 ·rw [if_pos (by simp; omega),EM (by omega)]
theorem Mg (l:List ByteArray) (hl:l.length≤Big):EL l=some l:=by
 have loop:∀ (post pre:List ByteArray) (n:Nat),l=pre++post→post.length<n→BT n l (pre++List.replicate post.length ByteArray.empty) ((List.length pre:Nat):Int)=some l:=by
  intro post
  induction post with
  |nil=>
   intro pre n h hn
   obtain⟨n,rfl⟩:∃m,n=m+1:=⟨n - 1,by omega⟩
   rw [BT,Bz h]; simp [h]
  |cons x post ih=>
   intro pre n h hn
   obtain⟨n,rfl⟩:∃m,n=m+1:=⟨n - 1,by omega⟩
   rw [BT,if_pos (BW h),BX h,AA,List.length_cons,PM,AA,Kq,AA,Al h hl]
   exact ih (pre++[x]) n (Am h) (by simp at hn; omega)
 unfold EL
 rw [PL hl,AA]
 exact loop l [] fuel (by simp) (by rw [B5]; unfold Big at hl; omega)
theorem IW (l:List ByteArray) (hl:l.length≤Big):CW l l=some true:=by
 unfold CW
 rw [if_neg (by simp)]
 have loop:∀ (post pre:List ByteArray) (n:Nat),l=pre++post→post.length<n→BU n l l ((List.length pre:Nat):Int)=some true:=by
  intro post
  induction post with
  |nil=>
   intro pre n h hn
   obtain⟨n,rfl⟩:∃m,n=m+1:=⟨n - 1,by omega⟩
   rw [BU,Bz h]; rfl
  |cons x post ih=>
   intro pre n h hn
   obtain⟨n,rfl⟩:∃m,n=m+1:=⟨n - 1,by omega⟩
   rw [BU,if_pos (BW h),BX h,AA,AA,if_neg (by rw [IV]; simp),Al h hl]
   exact ih (pre++[x]) n (Am h) (by simp at hn; omega)
 exact loop l [] fuel (by simp) (by rw [B5]; unfold Big at hl; omega)
end Go.Proofs.Ytgigfdghecdlgaa.Ab
namespace Go.Proofs.Ytgigfdghecdlgaa.Ab
set_option linter.unusedVariables false
set_option linter.unusedSimpArgs false
open Go.RowKit
theorem PR:∀ (c:Core),c.Small→∀ (left n:Nat),left≤Big→16*c.nodes≤n→DX n c left=some (szr c.nodes left):=by
 refine Core.ind fun c ih hs left n hB hn=>?_
 obtain⟨_,hdl,hk,hf⟩:=hs
 rw [Core.nodes_eq] at hn ⊢
 obtain⟨n,rfl⟩:∃m,n=m+1:=⟨n - 1,by omega⟩
 obtain⟨n,rfl⟩:∃m,n=m+1:=⟨n - 1,by omega⟩
 rw [DX,w64 (by omega) (by unfold Big at hB; omega)]
 have stop:∀ (n:Nat) (pre:List Core),2≤n→BN n c (-1) ((List.length pre:Nat):Int)=some (-1):=by
  intro n pre hn
  obtain⟨n,rfl⟩:∃m,n=m+1:=⟨n - 1,by omega⟩
  obtain⟨n,rfl⟩:∃m,n=m+1:=⟨n - 1,by omega⟩
  rw [BN]
  have e:decide ((0:Int)≤ -1)=false:=by decide
  rw [e]
  split <;> (rw [B7]; rfl)
 have loop:∀ (post pre:List Core) (n l3:Nat),c.kids=pre++post→16*Core.nodess post+2≤n→l3≤Big→BN n c l3 ((List.length pre:Nat):Int)=some (szr (Core.nodess post) l3):=by
  intro post
  induction post with
  |nil=>
   intro pre n l3 h hn _
   obtain⟨n,rfl⟩:∃m,n=m+1:=⟨n - 1,by omega⟩
   obtain⟨n,rfl⟩:∃m,n=m+1:=⟨n - 1,by omega⟩
   rw [BN,Bz h,if_neg (by simp),B7]
   simp [Core.nodess,szr]
  | cons x post ihp=>
   intro pre n l3 h hn h3
   rw [Core.nodess] at hn ⊢
   have hp:=x.nodes_pos
   obtain⟨n,rfl⟩:∃m,n=m+1:=⟨n - 1,by omega⟩
   obtain⟨n,rfl⟩:∃m,n=m+1:=⟨n - 1,by omega⟩
   have hx:x ∈ c.kids:=by rw [h]; simp
   rw [BN,if_pos (BW h),B7,if_pos (by simp),BX h,AA,ih x hx (hf x hx) l3 n h3 (by omega),AA,Al h hk]
   by_cases h5:x.nodes≤l3
   ·rw [Gs h5,ihp (pre++[x]) n (l3 - x.nodes) (Am h) (by omega) (by omega)]
    congr 1
    unfold szr
    by_cases h6:Core.nodess post≤l3 - x.nodes
    ·rw [if_pos h6,if_pos (by omega)]; congr 1; omega
    ·rw [if_neg h6,if_neg (by omega)]
   ·rw [EM (by omega),stop _ _ (by omega),EM (by omega)]
 by_cases h0:left=0
 ·subst h0
  have:=stop (n+1) [] (by omega)
  refine this.trans ?_
  rw [EM (by omega)]
 ·have:=loop c.kids [] (n+1) (left - 1) (by simp) (by omega) (by omega)
  rw [show ((left:Int) - 1)=((left - 1:Nat):Int) from by omega]
  refine this.trans ?_
  congr 1
  unfold szr
  by_cases h6:Core.nodess c.kids≤left - 1
  ·rw [if_pos h6,if_pos (by omega)]; congr 1; omega
  ·rw [if_neg h6,if_neg (by omega)]
end Go.Proofs.Ytgigfdghecdlgaa.Ab
namespace Go.Proofs.Ytgigfdghecdlgaa.Ab
set_option linter.unusedVariables false
set_option linter.unusedSimpArgs false
open Go.RowKit
theorem OI (c:Core) (hs:c.Small) (hN:c.nodes≤Big):E1 c=some (if c.valid=true then (c.nodes:Int) else 0):=by
 unfold E1
 rw [F9 c hs hN,AA]
 cases c.valid with
 |false=>simp
 |true=>rw [if_neg (by simp),HW c hs hN fuel (by have:=Ca hN; omega),AA]; simp
end Go.Proofs.Ytgigfdghecdlgaa.Ab
namespace Go.Proofs.Ytgigfdghecdlgaa.Ab
set_option linter.unusedVariables false
set_option linter.unusedSimpArgs false
open Go.RowKit
theorem OJ (l:List ByteArray) (f:ByteArray→Option Bool) (p:ByteArray→Bool) (hl:l.length≤Big) (hf:∀x ∈ l,f x=some (p x)):BF l f=some (l.any p):=by
 obtain⟨i,h1,h2,-⟩:=F8 Ah (fun n l i f=>by rw [Ah]) l f p hl hf
 unfold BF CK
 rw [h1,AA]
 congr 1
 rw [Bool.eq_iff_iff,decide_eq_true_eq]; exact h2
def Dp (l:List ByteArray):Bool:=l.all fun s=>decide (s.size≤3000)
theorem Mh (l:List ByteArray) (hl:l.length≤Big):EI l=some (Dp l):=by
 unfold EI Dp
 rw [OJ l _ (fun s=>decide (3000<((ByteArray.size s:Nat):Int))) hl (fun s _=>by unfold EC; rfl),AA,List.not_any_eq_all_not]
 congr 2
 funext s
 rw [Bool.eq_iff_iff]; simp; omega
theorem OK (l:List ByteArray) (hl:l.length≤Big):E5 l=some (Dp l):=by
 unfold E5 Dp
 have loop:∀ (post pre:List ByteArray) (n:Nat),l=pre++post→post.length<n→Bm n l ((List.length pre:Nat):Int)=some (post.all fun s=>decide (s.size≤3000)):=by
  intro post
  induction post with
  |nil=>
   intro pre n h hn
   obtain⟨n,rfl⟩:∃m,n=m+1:=⟨n - 1,by omega⟩
   rw [Bm,Bz h]; rfl
  | cons x post ih=>
   intro pre n h hn
   obtain⟨n,rfl⟩:∃m,n=m+1:=⟨n - 1,by omega⟩
   rw [Bm,if_pos (BW h),BX h,AA,List.all_cons]
   by_cases hx:x.size≤3000
   ·rw [if_neg (by simp; omega),Al h hl,ih (pre++[x]) n (Am h) (by simp at hn; omega)]
    simp [hx]
   ·rw [if_pos (by simp; omega)]; simp [hx]
 exact loop l [] fuel (by simp) (by rw [B5]; unfold Big at hl; omega)
def FA (c:Core):Bool:=decide (c.kind=6)||decide (c.kind=7)
theorem Mi:∀ (c:Core),c.Small→∀n,16*c.nodes≤n→CV n c=some (!c.anyC FA):=by
 refine Core.ind fun c ih hs n hn=>?_
 obtain⟨_,hdl,hk,hf⟩:=hs
 rw [Core.nodes_eq] at hn
 rw [Core.anyC_eq]
 obtain⟨n,rfl⟩:∃m,n=m+1:=⟨n - 1,by omega⟩
 obtain⟨n,rfl⟩:∃m,n=m+1:=⟨n - 1,by omega⟩
 rw [CV]
 have loop:∀ (post pre:List Core) (n:Nat),c.kids=pre++post→16*Core.nodess post+1≤n→BR n c ((List.length pre:Nat):Int)=some (!Core.anysC FA post):=by
  intro post
  induction post with
  |nil=>
   intro pre n h hn
   obtain⟨n,rfl⟩:∃m,n=m+1:=⟨n - 1,by omega⟩
   rw [BR,Bz h,if_neg (by simp),Core.anysC]; rfl
  | cons x post ihp=>
   intro pre n h hn
   rw [Core.nodess] at hn
   have:=x.nodes_pos
   obtain⟨n,rfl⟩:∃m,n=m+1:=⟨n - 1,by omega⟩
   have hx:x ∈ c.kids:=by rw [h]; simp
   rw [BR,if_pos (BW h),BX h,AA,ih x hx (hf x hx) n (by omega),AA,Core.anysC]
   cases x.anyC FA with
   |true=>simp
   |false=>
    rw [if_neg (by simp),Al h hk,ihp (pre++[x]) n (Am h) (by omega)]
    simp
 have hj:∀b,Bw (n+1) c b=some (!(b||Core.anysC FA c.kids)):=by
  intro b
  rw [Bw]
  cases b with
  |true=>simp
  |false=>
   rw [if_neg (by simp)]
   exact loop c.kids [] n (by simp) (by omega)
 rw [hj,hj]
 unfold FA
 by_cases h1:c.kind=6 <;> simp [h1]
theorem OL (c:Core) (hs:c.Small) (hN:c.nodes≤Big):E0 c=some (c.valid&& !c.anyC FA):=by
 unfold E0
 rw [F9 c hs hN,AA,PN _ FA c hs (fun x hx=>by unfold EV FA; by_cases h:x.kind=6 <;> simp [h]) fuel (by have:=Ca hN; omega),AA]
 cases c.valid <;> simp
def Labelled.valid (x:Labelled):Bool:=x.term.closed&& !x.term.anyC FA&&decide (x.term.nodes=x.labels.length)&&Dp x.labels
theorem Mj {c:Core} (h:c.closed=true):c.valid=true:=by
 unfold Core.closed at h
 simp only [Bool.and_eq_true] at h
 exact h.1
theorem IX (x:Labelled) (hs:x.term.Small) (hN:x.term.nodes≤Big) (hl:x.labels.length≤Big):Ce x=some x.valid:=by
 unfold Ce Labelled.valid
 rw [OE _ hs hN,AA,OL _ hs hN,AA,OI _ hs hN,AA,Mh _ hl,AA]
 cases hc:x.term.closed with
 |false=>simp
 | true=>
  rw [if_pos rfl,Mj hc]
  cases x.term.anyC FA with
  |true=>simp
  |false=>
   rw [if_pos (by simp),if_pos rfl]
   by_cases he:x.term.nodes=x.labels.length
   ·rw [if_pos (by simp; omega)]; simp [he]
   ·rw [if_neg (by simp; omega)]; simp [he]
theorem LD (x:Labelled) (hf:x.term.Fits) (hl:x.labels.length≤9223372036854775807) (hs:∀s ∈ x.labels,s.size≤9223372036854775807):Dm x 1048576=some (szr (x.term.sz+(x.labels.length+HX x.labels)) 1048576):=by
 unfold Dm
 have:=RN x.term hf 1048576 fuel (by omega) (by rw [B5]; omega)
 rw [show ((1048576:Nat):Int)=1048576 from rfl] at this
 rw [this,AA,HE]
 by_cases h:1048576<x.term.sz
 ·rw [if_pos (by simpa using h),EM (by omega)]
 ·rw [if_neg (by simpa using h),Gs (by omega),Mf _ _ (by omega) hl hs,AA,HE]
  by_cases h2:1048576 - x.term.sz<x.labels.length+HX x.labels
  ·rw [if_pos (by simpa using h2),EM (by omega)]
  ·rw [if_neg (by simpa using h2),Gs (by omega),Gs (by omega)]; congr 2; omega
end Go.Proofs.Ytgigfdghecdlgaa.Ab
