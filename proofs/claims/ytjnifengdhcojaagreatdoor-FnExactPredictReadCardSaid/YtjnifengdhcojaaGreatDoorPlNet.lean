/- Plain lemmas for the laws about models. -/
import Derived.Test.YtjnifengdhcojaaGreatDoorAbY
import Derived.Test.YtjnifengdhcojaaGreatDoorModC
import Derived.Test.YtjnifengdhcojaaGreatDoorModU
namespace Go.Proofs.YtjnifengdhcojaaGreatDoor.Ab
set_option linter.unusedVariables false
set_option linter.unusedSimpArgs false
open Go.RowKit
theorem w64 {n} (h1: -9223372036854775808≤n) (h2:n≤9223372036854775807):IntKind.i64.wrap n=n:=oV h1 h2
abbrev Big:Nat:=4294967296
theorem eE {n} (h:n≤4611686018427387904):n≤fuel:=by rw [Af]; exact h
section
variable {α:Type} {l pre post:List α} {x:α}
theorem Ah (h:l=pre++x::post):decide ((pre.length:Int)<(l.length:Int))=true:=by
 subst h; simp only [List.length_append,List.length_cons,decide_eq_true_eq]; omega
theorem Al (h:l=pre++[]):decide ((pre.length:Int)<(l.length:Int))=false:=by
 subst h; simp
theorem AU (h:l=pre++x::post):at? l (pre.length:Int)=some x:=by
 subst h
 unfold at?
 rw [if_pos (by omega)]
 simp
theorem AN (h:l=pre++x::post) (hl:l.length≤Big):IntKind.i64.wrap ((pre.length:Int)+1)=((List.length (pre++[x]):Nat):Int):=by
 subst h
 simp only [List.length_append,List.length_cons,List.length_nil,Big] at hl ⊢
 rw [w64 (by omega) (by omega)]
 omega
theorem AM (h:l=pre++x::post):l=(pre++[x])++post:=by rw [h]; simp
theorem A0 {a b:List α} (h:a.length+b.length≤Big):app? a b=some (a++b):=by
 unfold app?; rw [if_pos (by unfold Big at h; omega)]
theorem X8 {z:α} {n:Nat} (h:n≤Big):Vl (n:Int) z=some (List.replicate n z):=by
 unfold Vl; rw [if_pos (by unfold Big at h; omega)]; simp
theorem mZ {z} {k}:mI (pre++List.replicate (k+1) z) (pre.length:Int) x=(pre++[x])++List.replicate k z:=by
 unfold mI
 simp [List.replicate_succ]
theorem U8 {z} {k}:Cn (pre++List.replicate (k+1) z) (pre.length:Int) x=some ((pre++[x])++List.replicate k z):=by
 unfold Cn; rw [mZ]
theorem cW {z} {k}:at? (pre++List.replicate (k+1) z) (pre.length:Int)=some z:=by
 unfold at?
 rw [if_pos (by omega)]
 simp
end
theorem AA {α β:Type} {a:α} {k:α→Option β}:Option.bind (some a) k=k a:=rfl
def szr (z left:Nat):Int:=if z≤left then ((left - z:Nat):Int) else -1
theorem NT {z left:Nat}:decide (szr z left<0)=decide (left<z):=by
 unfold szr
 by_cases h:z≤left
 ·rw [if_pos h]; simp; omega
 ·rw [if_neg h]; simp; omega
theorem U1 {z left:Nat} (h:z≤left):szr z left=((left - z:Nat):Int):=if_pos h
theorem LW {z left:Nat} (h:left<z):szr z left= -1:=if_neg (by omega)
theorem X9 {n left:Nat} (h1:left≤1048576) (h2:n≤9223372036854775807):IntKind.i64.wrap ((left:Int) - (n:Int))=(left:Int) - n:=w64 (by omega) (by omega)
theorem SM (l:List Int) (left:Nat) (h1:left≤1048576) (h2:l.length≤9223372036854775807):Hr l left=some (szr l.length left):=by
 unfold Hr
 rw [X9 h1 h2]
 by_cases h:l.length≤left
 ·rw [if_neg (by simp; omega),U1 h]; congr 1; omega
 ·rw [if_pos (by simp; omega),LW (by omega)]
mutual
def Core.sz:Core→Nat
 |⟨_,_,d,ks⟩=>d.length+Core.szs ks
def Core.szs:List Core→Nat
 | [] =>0
 |c::cs=>1+Core.sz c+Core.szs cs
end
theorem Core.sz_eq (c:Core):c.sz=c.data.length+Core.szs c.kids:=by cases c; rw [Core.sz]
mutual
def Core.nodes:Core→Nat
 |⟨_,_,_,ks⟩=>1+Core.nodess ks
def Core.nodess:List Core→Nat
 | [] =>0
 |c::cs=>Core.nodes c+Core.nodess cs
end
theorem Core.nodes_eq (c:Core):c.nodes=1+Core.nodess c.kids:=by cases c; rw [Core.nodes]
theorem Core.nodes_pos (c:Core):1≤c.nodes:=by rw [Core.nodes_eq]; omega
mutual
theorem Core.nodes_le:∀c:Core,c.nodes≤1+c.sz
 |⟨k,v,d,ks⟩=>by rw [Core.nodes,Core.sz]; have:=Core.nodess_le ks; omega
theorem Core.nodess_le:∀l:List Core,Core.nodess l≤Core.szs l
 | [] =>by simp [Core.nodess,Core.szs]
 |c::cs=>by rw [Core.nodess,Core.szs]; have:=Core.nodes_le c; have:=Core.nodess_le cs; omega
end
theorem Core.len_szs:∀l:List Core,l.length≤Core.szs l
 | [] =>by simp
 |c::cs=>by rw [Core.szs,List.length_cons]; have:=Core.len_szs cs; omega
theorem Core.szs_append (a b:List Core):Core.szs (a++b)=Core.szs a+Core.szs b:=by
 induction a with
 |nil=>simp [Core.szs]
 |cons c cs ih=>rw [List.cons_append,Core.szs,Core.szs,ih]; omega
theorem Core.ind {P:Core→Prop} (h:∀c:Core,(∀k ∈ c.kids,P k)→P c):∀c,P c:=by
 suffices ∀n (c:Core),c.nodes≤n→P c from fun c=>this _ c (Nat.le_refl _)
 intro n
 induction n with
 |zero=>intro c j; have:=Core.nodes_pos c; omega
 | succ n ih=>
  intro c j
  refine h c fun k hk=>ih k ?_
  rw [Core.nodes_eq] at j
  have key:∀l:List Core,k ∈ l→k.nodes≤Core.nodess l:=by
   intro l
   induction l with
   |nil=>intro h; cases h
   |cons x xs ih=>
    intro h
    rw [Core.nodess]
    rcases List.mem_cons.1 h with rfl|h
    ·omega
    ·have:=ih h; omega
  have:=key _ hk
  omega
inductive Core.Fits:Core→Prop where
 |mk (c:Core) (hd:c.data.length≤9223372036854775807) (hk:c.kids.length≤9223372036854775807) (h:∀k ∈ c.kids,Core.Fits k):Core.Fits c
theorem U9 (l:List Core) (hk:l.length≤9223372036854775807) (ih:∀x ∈ l,∀ (left n:Nat),left≤1048576→4*left+4≤n→JQ n x left=some (szr x.sz left))
  (left n:Nat) (h1:left≤1048576) (p:4*left+3≤n):F7 n l left=some (szr (Core.szs l) left):=by
 obtain⟨n,rfl⟩:∃m,n=m+1:=⟨n - 1,by omega⟩
 rw [F7,X9 h1 hk]
 have q:=Core.len_szs l
 by_cases h3:left<l.length
 ·rw [if_pos (by simp; omega),LW (by omega)]
 ·rw [if_neg (by simp; omega)]
  have loop:∀ (post pre:List Core) (n j:Nat),l=pre++post→j+l.length≤left→1≤n→(post.length≠0→4*j+4+post.length+1≤n)→Du n l j (pre.length:Int)=some (szr (Core.szs post - post.length) j):=by
   intro post
   induction post with
   |nil=>
    intro pre n j h _ p _
    obtain⟨n,rfl⟩:∃m,n=m+1:=⟨n - 1,by omega⟩
    rw [Du,Al h]
    simp [Core.szs,szr]
   | cons x post ihp=>
    intro pre n j h v u p
    obtain⟨n,rfl⟩:∃m,n=m+1:=⟨n - 1,by omega⟩
    have hx:x ∈ l:=by rw [h]; simp
    rw [List.length_cons] at p
    have p:=p (by omega)
    rw [Du,if_pos (Ah h),AU h,AA,ih x hx j n (by omega) (by omega),AA,NT,Core.szs,List.length_cons]
    have hp:=Core.len_szs post
    by_cases h5:j<x.sz
    ·rw [if_pos (by simpa using h5),LW (by omega)]
    ·rw [if_neg (by simpa using h5),U1 (by omega),AN h (by unfold Big; omega),ihp (pre++[x]) n (j - x.sz) (AM h) (by omega) (by omega) (by omega)]
     congr 1
     unfold szr
     by_cases h6:Core.szs post - post.length≤j - x.sz
     ·rw [if_pos h6,if_pos (by omega)]; congr 1; omega
     ·rw [if_neg h6,if_neg (by omega)]
  have:=loop l [] n (left - l.length) (by simp) (by omega) (by omega) (by omega)
  rw [show ((left:Int) - (l.length:Int))=((left - l.length:Nat):Int) from by omega]
  rw [show (0:Int)=((List.length ([] :List Core):Nat):Int) from rfl,this]
  congr 1
  unfold szr
  by_cases h6:Core.szs l≤left
  ·rw [if_pos h6,if_pos (by omega)]; congr 1; omega
  ·rw [if_neg h6,if_neg (by omega)]
theorem gS:∀ (c:Core),c.Fits→∀ (left n:Nat),left≤1048576→4*left+4≤n→JQ n c left=some (szr c.sz left):=by
 refine Core.ind fun c p j left n h1 q=>?_
 obtain⟨_,hd,hk,j⟩:=j
 obtain⟨n,rfl⟩:∃m,n=m+1:=⟨n - 1,by omega⟩
 rw [JQ,SM _ _ h1 hd,AA,NT,Core.sz_eq]
 by_cases h2:left<c.data.length
 ·rw [if_pos (by simpa using h2),LW (by omega)]
 ·rw [if_neg (by simpa using h2),U1 (by omega)]
  generalize hl2:left - c.data.length=left2
  rw [U9 c.kids hk (fun x hx=>p x hx (j x hx)) left2 n (by omega) (by omega),AA,NT]
  by_cases h7:left2<Core.szs c.kids
  ·rw [if_pos (by simpa using h7),LW (by omega)]
  ·rw [if_neg (by simpa using h7)]
   congr 1
   unfold szr
   rw [if_pos (by omega),if_pos (by omega)]; congr 1; omega
theorem cI (l:List Core) (hk:l.length≤9223372036854775807) (hf:∀x ∈ l,x.Fits) (left n:Nat) (h1:left≤1048576) (hn:4*left+3≤n):F7 n l left=some (szr (Core.szs l) left):=
 U9 l hk (fun x hx=>gS x (hf x hx)) left n h1 hn
theorem Vt (l:List Int) (hl:l.length≤Big):∀ (post pre:List Int) (n:Nat),l=pre++post→post.length<n→C8 n l (pre++List.replicate post.length 0) (pre.length:Int)=some l:=by
 intro post
 induction post with
 |nil=>
  intro pre n h j
  obtain⟨n,rfl⟩:∃m,n=m+1:=⟨n - 1,by omega⟩
  rw [C8,Al h]; simp [h]
 |cons x post ih=>
  intro pre n h j
  obtain⟨n,rfl⟩:∃m,n=m+1:=⟨n - 1,by omega⟩
  rw [C8,if_pos (Ah h),AU h,AA,List.length_cons,cW,AA,U8,AA,AN h hl]
  exact ih (pre++[x]) n (AM h) (by simp at j; omega)
theorem SN (l:List Int) (hl:l.length≤Big):Hs l=some l:=by
 unfold Hs
 rw [X8 hl,AA]
 exact Vt l hl l [] fuel (by simp) (by rw [Af]; unfold Big at hl; omega)
theorem VA (l:List Core) (hl:l.length≤Big) (ih:∀x ∈ l,∀n,4*x.nodes≤n→JR n x=some x) (n:Nat) (j:4*Core.nodess l+2≤n):FR n l=some l:=by
 obtain⟨n,rfl⟩:∃m,n=m+1:=⟨n - 1,by omega⟩
 rw [FR,X8 hl,AA]
 have loop:∀ (post pre:List Core) (n:Nat),l=pre++post→4*Core.nodess post+1≤n→Dv n l (pre++List.replicate post.length ⟨0,0,[],[]⟩) (pre.length:Int)=some l:=by
  intro post
  induction post with
  |nil=>
   intro pre n h j
   obtain⟨n,rfl⟩:∃m,n=m+1:=⟨n - 1,by omega⟩
   rw [Dv,Al h]; simp [h]
  |cons x post ihp=>
   intro pre n h j
   rw [Core.nodess] at j
   have:=x.nodes_pos
   obtain⟨n,rfl⟩:∃m,n=m+1:=⟨n - 1,by omega⟩
   have hx:x ∈ l:=by rw [h]; simp
   rw [Dv,if_pos (Ah h),AU h,AA,ih x hx n (by omega),AA,List.length_cons,cW,AA,U8,AA,AN h hl]
   exact ihp (pre++[x]) n (AM h) (by omega)
 exact loop l [] n (by simp) (by omega)
inductive Core.Small:Core→Prop where
 |mk (c:Core) (hd:c.data.length≤Big) (hk:c.kids.length≤Big) (h:∀k ∈ c.kids,Core.Small k):Core.Small c
theorem Core.szs_mem {x:Core}:∀ {l:List Core},x ∈ l→x.sz≤Core.szs l
 |c::cs,h=>by
  rw [Core.szs]
  rcases List.mem_cons.1 h with rfl|h
  ·omega
  ·have:=Core.szs_mem h; omega
theorem Core.small_of:∀ (c:Core),c.sz≤Big→c.Small:=by
 refine Core.ind fun c j h=>?_
 rw [Core.sz_eq] at h
 have:=Core.len_szs c.kids
 exact⟨c,by omega,by omega,fun k hk=>j k hk (by have:=Core.szs_mem hk; omega)⟩
theorem gT:∀ (c:Core),c.Small→∀n,4*c.nodes≤n→JR n c=some c:=by
 refine Core.ind fun c p q n u=>?_
 obtain⟨_,hd,hk,j⟩:=q
 rw [Core.nodes_eq] at u
 obtain⟨n,rfl⟩:∃m,n=m+1:=⟨n - 1,by omega⟩
 rw [JR,SN _ hd,AA,VA c.kids hk (fun x hx=>p x hx (j x hx)) n (by omega),AA]
 cases c; rfl
theorem cX (l:List Core) (hl:l.length≤Big) (hs:∀x ∈ l,x.Small) (n:Nat) (hn:4*Core.nodess l+2≤n):FR n l=some l:=VA l hl (fun x hx=>gT x (hs x hx)) n hn
theorem aH (l:List Int) (hl:l.length≤Big):Fl l l=some true:=by
 unfold Fl
 rw [if_neg (by simp)]
 have loop:∀ (post pre:List Int) (n:Nat),l=pre++post→post.length<n→B3 n l l (pre.length:Int)=some true:=by
  intro post
  induction post with
  |nil=>
   intro pre n h j
   obtain⟨n,rfl⟩:∃m,n=m+1:=⟨n - 1,by omega⟩
   rw [B3,Al h]; rfl
  |cons x post ih=>
   intro pre n h j
   obtain⟨n,rfl⟩:∃m,n=m+1:=⟨n - 1,by omega⟩
   rw [B3,if_pos (Ah h),AU h,AA,AA,if_neg (by simp),AN h hl]
   exact ih (pre++[x]) n (AM h) (by simp at j; omega)
 exact loop l [] fuel (by simp) (by rw [Af]; unfold Big at hl; omega)
theorem VB (l:List Core) (hl:l.length≤Big) (ih:∀x ∈ l,∀n,4*x.nodes≤n→EW n x x=some true) (n:Nat) (j:4*Core.nodess l+2≤n):FS n l l=some true:=by
 obtain⟨n,rfl⟩:∃m,n=m+1:=⟨n - 1,by omega⟩
 rw [FS,if_neg (by simp)]
 have loop:∀ (post pre:List Core) (n:Nat),l=pre++post→4*Core.nodess post+1≤n→Dw n l l (pre.length:Int)=some true:=by
  intro post
  induction post with
  |nil=>
   intro pre n h j
   obtain⟨n,rfl⟩:∃m,n=m+1:=⟨n - 1,by omega⟩
   rw [Dw,Al h]; rfl
  |cons x post ihp=>
   intro pre n h j
   rw [Core.nodess] at j
   have:=x.nodes_pos
   obtain⟨n,rfl⟩:∃m,n=m+1:=⟨n - 1,by omega⟩
   have hx:x ∈ l:=by rw [h]; simp
   rw [Dw,if_pos (Ah h),AU h,AA,AA,ih x hx n (by omega),AA,if_neg (by simp),AN h hl]
   exact ihp (pre++[x]) n (AM h) (by omega)
 exact loop l [] n (by simp) (by omega)
theorem XK:∀ (c:Core),c.Small→∀n,4*c.nodes≤n→EW n c c=some true:=by
 refine Core.ind fun c p q n u=>?_
 obtain⟨_,hd,hk,j⟩:=q
 rw [Core.nodes_eq] at u
 obtain⟨n,rfl⟩:∃m,n=m+1:=⟨n - 1,by omega⟩
 rw [EW,if_neg (by simp),if_neg (by simp),aH _ hd,AA,if_neg (by simp),VB c.kids hk (fun x hx=>p x hx (j x hx)) n (by omega),AA]
 rfl
theorem cY (l:List Core) (hl:l.length≤Big) (hs:∀x ∈ l,x.Small) (n:Nat) (hn:4*Core.nodess l+2≤n):FS n l l=some true:=VB l hl (fun x hx=>XK x (hs x hx)) n hn
set_option maxHeartbeats 1000000
def szl {α:Type} (s:α→Nat):List α→Nat
 | [] =>0
 |x::l=>1+s x+szl s l
theorem LV {α:Type} (s:α→Nat):∀l:List α,l.length≤szl s l
 | [] =>by simp
 |x::l=>by rw [szl,List.length_cons]; have:=LV s l; omega
theorem NP {α:Type} {s:α→Nat} {x:α}:∀ {l:List α},x ∈ l→s x<szl s l
 |y::l,h=>by
  rw [szl]
  rcases List.mem_cons.1 h with rfl|h
  ·omega
  ·have:=NP (s:=s) h; omega
theorem Ta {k:Int→Option Int} {z left rest:Nat} {X:Option Int} (hX:X=some (szr z left)) (hk:z≤left→k ((left - z:Nat):Int)=some (szr rest (left - z))):
  (Option.bind X fun v=>if decide (v<0)=true then some (-1) else k v)=some (szr (z+rest) left):=by
 rw [hX,AA,NT]
 grind [szr]
theorem dw {k:Int→Option Int} {z left rest:Nat} (h1:left≤1048576) (h2:z≤9223372036854775807) (hk:z≤left→k ((left - z:Nat):Int)=some (szr rest (left - z))):
  (if decide (IntKind.i64.wrap ((left:Int) - (z:Int))<0)=true then some (-1) else k (IntKind.i64.wrap ((left:Int) - (z:Int))))=some (szr (z+rest) left):=by
 rw [X9 h1 h2]
 grind [szr]
theorem cD {left:Nat}:some ((left:Nat):Int)=some (szr 0 left):=by rfl
theorem gSz {α:Type} (L:Nat→Int→Int→Option Int) (g:α→Int→Option Int) (s:α→Nat) (l:List α) (hL:∀n p i,L (n+1) p i=(if (decide (i<(l.length:Int)))=true then ((at? l i).bind fun x=>((g x p).bind fun v=>(if (decide (v<0))=true then (some (-1)) else (L n v (IntKind.i64.wrap (i+1)))))) else (some p)))
  (left:Nat) (h1:left≤1048576) (hg:∀x ∈ l,∀k:Nat,k≤1048576→g x k=some (szr (s x) k)) (hl:l.length≤9223372036854775807):
  (if decide (IntKind.i64.wrap ((left:Int) - (l.length:Int))<0)=true then some (-1) else L fuel (IntKind.i64.wrap ((left:Int) - (l.length:Int))) 0)=some (szr (szl s l) left):=by
 have C:=LV s l
 have:=dw (k:=fun v=>L fuel v 0) (rest:=szl s l - l.length) h1 hl fun h=>?_
 ·rw [show l.length+(szl s l - l.length)=szl s l from by omega] at this
  omega
 ·have loop:∀ (post pre:List α) (n j:Nat),l=pre++post→j≤left→post.length<n→L n j (pre.length:Int)=some (szr (szl s post - post.length) j):=by
   intro post
   induction post with
   |nil=>
    intro pre n j h _ u
    obtain⟨n,rfl⟩:∃m,n=m+1:=⟨n - 1,by omega⟩
    rw [hL,Al h]
    rfl
   | cons x post ihp=>
    intro pre n j q F u
    obtain⟨n,rfl⟩:∃m,n=m+1:=⟨n - 1,by omega⟩
    have hx:x ∈ l:=by rw [q]; simp
    have hp:=LV s post
    rw [hL,if_pos (Ah q),AU q,AA]
    have e:=Ta (k:=fun v=>L n v (IntKind.i64.wrap ((pre.length:Int)+1))) (rest:=szl s post - post.length) (hg x hx j (by omega)) fun G=>by
     rw [AN q (by unfold Big; omega)]
     exact ihp (pre++[x]) n (j - s x) (AM q) (by omega) (by simp at u; omega)
    rw [szl,List.length_cons,show 1+s x+szl s post - (post.length+1)=s x+(szl s post - post.length) from by omega]
    exact e
  exact loop l [] fuel (left - l.length) (by simp) (by omega) (by rw [Af]; omega)
theorem gTo {α:Type} (L:Nat→List α→Int→Option (List α)) (g:α→Option α) (z:α) (l:List α) (hL:∀n acc i,L (n+1) acc i=(if (decide (i<(l.length:Int)))=true then ((at? l i).bind fun x=>((g x).bind fun y=>((at? acc i).bind fun _=>((Cn acc i y).bind fun z=>(L n z (IntKind.i64.wrap (i+1))))))) else (some acc)))
  (hl:l.length≤Big) (hg:∀x ∈ l,g x=some x):((Vl (l.length:Int) z).bind fun acc=>L fuel acc 0)=some l:=by
 have loop:∀ (post pre:List α) (n:Nat),l=pre++post→post.length<n→L n (pre++List.replicate post.length z) (pre.length:Int)=some l:=by
  intro post
  induction post with
  |nil=>
   intro pre n h j
   obtain⟨n,rfl⟩:∃m,n=m+1:=⟨n - 1,by omega⟩
   rw [hL,Al h]; simp [h]
  |cons x post ih=>
   intro pre n h j
   obtain⟨n,rfl⟩:∃m,n=m+1:=⟨n - 1,by omega⟩
   rw [hL,if_pos (Ah h),AU h,AA,hg x (by rw [h]; simp),AA,List.length_cons,cW,AA,U8,AA,AN h hl]
   grind
 rw [X8 hl,AA]
 exact loop l [] fuel (by simp) (by rw [Af]; grind)
def Cj (o:Option Bool) (p:Prop):Prop:=∃b,o=some b∧(b=true↔p)
theorem Cj.mk {b:Bool} {p:Prop} (h:b=true↔p):Cj (some b) p:=⟨b,rfl,h⟩
theorem Cj.iff {o:Option Bool} {p q:Prop} (h:Cj o p) (hpq:p↔q):Cj o q:=by
 grind
theorem Cj.true {o:Option Bool} {p:Prop} (h:Cj o p) (hp:p):o=some true:=by
 obtain⟨b,rfl,h1⟩:=h
 rw [h1.2 hp]
theorem Gv {b:Bool} {X:Option Bool} {p q:Prop} (h:b=true↔p) (hX:p→Cj X q):Cj (if (!b)=true then some false else X) (p∧q):=by
 cases b with
 |true=>grind
 |false=>exact⟨false,rfl,⟨fun k=>Bool.noConfusion k,fun k=>h.2 k.1⟩⟩
theorem cZ {o:Option Bool} {k:Bool→Option Bool} {p r:Prop} (h:Cj o p) (hk:∀b,(b=true↔p)→Cj (k b) r):Cj (Option.bind o k) r:=by
 obtain⟨b,rfl,h1⟩:=h
 grind
theorem HZ {o:Option Bool} {X:Option Bool} {p q:Prop} (h:Cj o p) (hX:p→Cj X q):Cj (Option.bind o fun b=>if (!b)=true then some false else X) (p∧q):=
 cZ h fun b hb=>Gv hb hX
theorem Oe:Cj (some true) True:=.mk (by simp)
theorem J2 {p:Prop} [Decidable p] :decide p=true↔p:=decide_eq_true_iff
theorem ma {α β:Type} {l:List α} {m:List β}:decide ((l.length:Int)=(m.length:Int))=true↔l.length=m.length:=by
 rw [decide_eq_true_iff]; omega
theorem gEq {α:Type} (L:Nat→Int→Option Bool) (f:α→α→Option Bool) (l m:List α) (hL:∀n i,L (n+1) i=(if (decide (i<(l.length:Int)))=true then ((at? l i).bind fun x=>((at? m i).bind fun y=>((f x y).bind fun v=>(if (!v)=true then (some false) else (L n (IntKind.i64.wrap (i+1))))))) else (some true)))
  (hl:l.length≤Big) (hlen:l.length=m.length) (hf:∀x ∈ l,∀y ∈ m,Cj (f x y) (x=y)):Cj (L fuel 0) (l=m):=by
 have loop:∀ (post j pre p:List α) (n:Nat),l=pre++post→m=p++j→pre.length=p.length→post.length<n→Cj (L n (pre.length:Int)) (post=j):=by
  intro post
  induction post with
  |nil=>
   intro j pre p n h u q C
   obtain⟨n,rfl⟩:∃m,n=m+1:=⟨n - 1,by omega⟩
   rw [hL,Al h]
   obtain rfl:j=[] :=List.eq_nil_of_length_eq_zero (by rw [h,u] at hlen; grind)
   exact .mk (by simp)
  | cons x post ih=>
   intro j pre p n h u q C
   obtain⟨n,rfl⟩:∃m,n=m+1:=⟨n - 1,by omega⟩
   cases j with
   |nil=>rw [h,u] at hlen; grind
   |cons y j=>
    rw [hL,if_pos (Ah h),AU h,AA,q,AU u,AA,← q,AN h hl]
    refine(HZ (hf x (by rw [h]; simp) y (by rw [u]; simp)) fun _=>ih j (pre++[x]) (p++[y]) n (AM h) (AM u) (by grind) (by grind)).iff ?_
    simp
 exact loop l m [] [] fuel (by simp) (by simp) rfl (by rw [Af]; grind)
theorem jV {α:Type} (L:Nat→Int→Option Bool) (f:α→α→Option Bool) (l m:List α) (hL:∀n i,L (n+1) i=(if (decide (i<(l.length:Int)))=true then ((at? l i).bind fun x=>((at? m i).bind fun y=>((f x y).bind fun v=>(if (!v)=true then (some false) else (L n (IntKind.i64.wrap (i+1))))))) else (some true)))
  (hl:l.length≤Big) (hf:∀x ∈ l,∀y ∈ m,Cj (f x y) (x=y)):Cj (if (!decide ((l.length:Int)=(m.length:Int)))=true then some false else L fuel 0) (l=m):=
 (Gv ma fun h=>gEq L f l m hL hl h hf).iff ⟨fun h=>h.2,fun h=>⟨by rw [h],h⟩⟩
theorem Ul (l m:List Int) (hl:l.length≤Big):Cj (Fl l m) (l=m):=by
 unfold Fl
 exact jV (fun n i=>B3 n l m i) (fun x y=>some (decide (x=y))) l m (fun n i=>by rw [B3]; rfl) hl fun x _ y _=>.mk J2
theorem Xq (s:ByteArray):db s s=true:=by grind [db]
theorem jP {k:Int→Option Bool} {z left:Nat} {X:Option Int} (hX:X=some (szr z left)) (hk:z≤left→k ((left - z:Nat):Int)=some true):
  (Option.bind X fun v=>if decide (v<0)=true then some true else k v)=some true:=by
 rw [hX,AA,NT]
 grind [U1]
theorem jT (c:Core) (h:c.sz≤Big):EW fuel c c=some true:=XK c (Core.small_of c h) fuel (by grind [Core.nodes_le,Af])
theorem f8 (l:List Core) (h:Core.szs l≤Big):FR fuel l=some l:=
 cX l (by grind [Core.len_szs]) (fun x hx=>Core.small_of x (by have:=Core.szs_mem hx; omega)) fuel (by grind [Core.nodess_le,Af])
theorem f9 (l:List Core) (h:Core.szs l≤Big):FS fuel l l=some true:=
 cY l (by grind [Core.len_szs]) (fun x hx=>Core.small_of x (by have:=Core.szs_mem hx; omega)) fuel (by grind [Core.nodess_le,Af])
theorem Lg {α:Type} (L:Nat→List α→Int→(α→Option Bool)→Option Int) (hL:∀n l i f,L (n+1) l i f=(if (decide (i<(l.length:Int)))=true then ((at? l i).bind fun x=>((f x).bind fun b=>(if b=true then (some i) else (L n l (IntKind.i64.wrap (i+1)) f)))) else (some (-1))))
  (l:List α) (f:α→Option Bool) (p:α→Bool) (hl:l.length≤Big) (hf:∀x ∈ l,f x=some (p x)):∃i:Int,L fuel l 0 f=some i∧(0≤i↔l.any p=true)∧(l.any p=false→i= -1):=by
 have loop:∀ (post pre:List α) (n:Nat),l=pre++post→post.length<n→∃i:Int,L n l (pre.length:Int) f=some i∧(0≤i↔post.any p=true)∧(post.any p=false→i= -1):=by
  intro post
  induction post with
  |nil=>
   intro pre n h j
   obtain⟨n,rfl⟩:∃m,n=m+1:=⟨n - 1,by omega⟩
   rw [hL,Al h]
   grind
  | cons x post ih=>
   intro pre n h j
   obtain⟨n,rfl⟩:∃m,n=m+1:=⟨n - 1,by omega⟩
   rw [hL,if_pos (Ah h),AU h,AA,hf x (by rw [h]; simp),AA]
   by_cases hp:p x=true
   ·rw [if_pos hp]
    grind
   ·rw [if_neg hp,AN h hl]
    obtain⟨i,h1,h2,h3⟩:=ih (pre++[x]) n (AM h) (by grind)
    have q:p x=false:=by grind
    grind
 exact loop l [] fuel (by simp) (by rw [Af]; grind)
theorem J4 (l:List Int) (f:Int→Option Bool) (p:Int→Bool) (hl:l.length≤Big) (hf:∀x ∈ l,f x=some (p x)):AW l f=some (l.any p):=by
 obtain⟨i,h1,h2,-⟩:=Lg BK (fun n l i f=>by rw [BK]) l f p hl hf
 grind [AW,E8]
theorem LY (l:List Core) (f:Core→Option Bool) (p:Core→Bool) (hl:l.length≤Big) (hf:∀x ∈ l,f x=some (p x)):Ac l f=some (l.any p):=by
 obtain⟨i,h1,h2,-⟩:=Lg As (fun n l i f=>by rw [As]) l f p hl hf
 grind [Ac,C1]
def shape (k:Int):Int × Int × Int × Int:=
 if k=1∨k=2∨k=11 then (0,0,0,0) else if k=3∨k=5∨k=7 then (2,2,0,0) else if k=4∨k=6 then (1,1,0,0)
 else if k=8 then (0,3,0,0) else if k=9 then (1,1,1,4) else if k=10 then (1,1,2,2) else (0,-1,0,0)
def K4 (c:Core):Bool:=
 if c.kind=1 then decide (0≤c.value∧c.value≤255) else if c.kind=2 then decide (-2147483648≤c.value∧c.value≤2147483647) else if c.kind=3 then decide (1≤c.value∧c.value≤6)
 else if c.kind=8 then decide (0≤c.value∧c.value≤3) else if c.kind=11 then decide (0≤c.value∧c.value≤23) else decide (c.value=0)
def Ck (n:Int):Bool:=decide (0≤n∧n≤23)
def A1 (c:Core):Bool:=
 decide ((shape c.kind).1 ≤(c.kids.length:Int)∧(c.kids.length:Int)≤(shape c.kind).2.1)&&decide ((shape c.kind).2.2.1 ≤(c.data.length:Int)∧(c.data.length:Int)≤(shape c.kind).2.2.2)&&K4 c&&c.data.all Ck
theorem Dl (n a b:Int):BN n a b=some (decide (a≤n∧n≤b)):=by
 unfold BN
 by_cases h:a≤n <;> simp [h]
theorem aI (n:Int):LS n=some (decide (-2147483648≤n∧n≤2147483647)):=by
 unfold LS
 by_cases h: -2147483648≤n <;> simp [h]
theorem Nu (n:Int):Ew n=some (decide (1≤n∧n≤6)):=by
 unfold Ew
 by_cases h:1≤n <;> simp [h]
theorem H9 (n:Int):D0 n=some (Ck n):=by
 grind [D0,Ck]
theorem aJ (k:Int):JS k=some (shape k):=by
 grind [JS,FU,FT,GN,shape]
theorem aK (c:Core):JT c=some (K4 c):=by
 grind [JT,K4,Dl]
theorem eG {l:List Int}:l.any (fun k=> !Ck k)= !l.all Ck:=by
 grind
theorem RK (c:Core) (hd:c.data.length≤Big):FF c=some (A1 c):=by
 have p:AW c.data (fun u=>Dz u)=some (!c.data.all Ck):=by
  rw [J4 c.data _ (fun k=> !Ck k) hd (fun x _=>by unfold Dz; rw [H9,AA]),eG]
 have hj:∀v d (n:Int),AZ c v d n=some (v&&d&&decide ((c.kids.length:Int)=n)&&c.data.all Ck):=by
  intro v d n
  unfold AZ
  rw [p,AA,Bool.not_not]
  cases v <;> cases d <;> by_cases h:(c.kids.length:Int)=n <;> simp [h]
 unfold FF DU DT
 simp only [hj,aI,Nu,H9,AA]
 unfold A1
 have j:(c.data.length:Int)=0→(c.data.all Ck)=true:=fun h=>by
  grind
 have C:0≤(c.data.length:Int):=by omega
 have q:0≤(c.kids.length:Int):=by omega
 generalize c.data.all Ck=A at*
 unfold shape K4 Ck
 generalize (c.data.length:Int)=D at*
 generalize (c.kids.length:Int)=K at*
 generalize c.value=v at*
 generalize c.kind=k at*
 clear p hj hd
 by_cases h1:k=1
 ·by_cases h0:0≤v <;> simp [h1,h0] <;> (rw [Bool.eq_iff_iff]; cases A <;> simp <;> omega)
 by_cases h2:k=2
 ·simp [h2]; rw [Bool.eq_iff_iff]; cases A <;> simp <;> omega
 by_cases h3:k=3
 ·simp [h3]; rw [Bool.eq_iff_iff]; cases A <;> simp <;> omega
 by_cases h4:k=4
 ·simp [h4]; rw [Bool.eq_iff_iff]; cases A <;> simp <;> omega
 by_cases h6:k=6
 ·simp [h6]; rw [Bool.eq_iff_iff]; cases A <;> simp <;> omega
 by_cases h5:k=5
 ·simp [h5]; rw [Bool.eq_iff_iff]; cases A <;> simp <;> omega
 by_cases h7:k=7
 ·simp [h7]; rw [Bool.eq_iff_iff]; cases A <;> simp <;> omega
 by_cases h11:k=11
 ·simp [h11]; rw [Bool.eq_iff_iff]; cases A <;> simp <;> omega
 by_cases h10:k=10
 ·simp [h10]; rw [Bool.eq_iff_iff]; cases A <;> simp <;> omega
 by_cases h9:k=9
 ·by_cases h0:1≤D <;> simp [h9,h0] <;> (try rw [Bool.eq_iff_iff]) <;> cases A <;> simp <;> omega
 by_cases h8:k=8
 ·by_cases h0:D=0
  ·have:=j h0
   by_cases h9:0≤v <;> by_cases h10:v<4 <;> simp [h8,h0,h9,h10,this] <;> (try omega) <;> (rw [Bool.eq_iff_iff]; simp; omega)
  ·simp [h8,h0]; cases A <;> simp <;> omega
 ·simp [*]; omega
mutual
def Core.wf:Core→Bool
 |⟨k,v,d,ks⟩=>A1 ⟨k,v,d,ks⟩&&Core.wfs ks
def Core.wfs:List Core→Bool
 | [] =>true
 |c::cs=>Core.wf c&&Core.wfs cs
end
theorem Core.wf_eq (c:Core):c.wf=(A1 c&&Core.wfs c.kids):=by cases c; rw [Core.wf]
mutual
def Core.depth:Core→Nat
 |⟨_,_,_,ks⟩=>Core.depths ks+1
def Core.depths:List Core→Nat
 | [] =>0
 |c::cs=>max (Core.depth c) (Core.depths cs)
end
theorem Core.depth_eq (c:Core):c.depth=Core.depths c.kids+1:=by cases c; rw [Core.depth]
mutual
theorem Core.depth_le:∀c:Core,c.depth≤c.nodes
 |⟨k,v,d,ks⟩=>by rw [Core.depth,Core.nodes]; have:=Core.depths_le ks; omega
theorem Core.depths_le:∀l:List Core,Core.depths l≤Core.nodess l
 | [] =>by grind [Core.depths]
 |c::cs=>by rw [Core.depths,Core.nodess]; have:=Core.depth_le c; have:=Core.depths_le cs; omega
end
theorem sV (a b:Nat):(if (a:Int)<(b:Int) then (b:Int) else (a:Int))=((max a b:Nat):Int):=by
 omega
theorem Ur {n:Nat} (h:n≤Big):IntKind.i64.wrap ((n:Int)+1)=((n+1:Nat):Int):=by
 rw [w64 (by omega) (by grind)]; omega
theorem Mp {n m:Nat} (h:n+m≤Big):IntKind.i64.wrap ((n:Int)+(m:Int))=((n+m:Nat):Int):=by
 rw [w64 (by omega) (by grind)]; omega
theorem Vu:∀ (c:Core),c.Small→c.nodes≤Big→∀n,4*c.nodes≤n→Dy n c=some ((c.depth:Int),(c.nodes:Int)):=by
 refine Core.ind fun c F C v n j=>?_
 obtain⟨_,hd,hk,u⟩:=C
 rw [Core.nodes_eq] at j v ⊢
 rw [Core.depth_eq]
 obtain⟨n,rfl⟩:∃m,n=m+1:=⟨n - 1,by omega⟩
 rw [Dy]
 have loop:∀ (post pre:List Core) (n d s:Nat),c.kids=pre++post→4*Core.nodess post+1≤n→s+Core.nodess post≤Big→
   CE n c d s (pre.length:Int)=some (((max d (if post=[] then d else Core.depths post+1):Nat):Int),((s+Core.nodess post:Nat):Int)):=by
  intro post
  induction post with
  |nil=>
   intro pre n d s h j _
   obtain⟨n,rfl⟩:∃m,n=m+1:=⟨n - 1,by omega⟩
   rw [CE,Al h]; simp [Core.nodess]
  | cons x post ihp=>
   intro pre n d s h j p
   rw [Core.nodess] at j p
   have:=x.nodes_pos
   have q:=Core.depth_le x
   obtain⟨n,rfl⟩:∃m,n=m+1:=⟨n - 1,by omega⟩
   have hx:x ∈ c.kids:=by rw [h]; simp
   rw [CE,if_pos (Ah h),AU h,AA,F x hx (u x hx) (by omega) n (by omega),AA,Ur (by omega),sV,Mp (by omega),AN h hk,
    ihp (pre++[x]) n _ _ (AM h) (by omega) (by omega)]
   rw [Core.nodess,Core.depths,if_neg (List.cons_ne_nil _ _)]
   grind [Core.depths]
 have:=loop c.kids [] n 1 1 (by simp) (by omega) (by omega)
 grind [Core.depths]
theorem YA:∀ (c:Core),c.Small→c.nodes≤Big→∀n,4*c.nodes≤n→Em n c=some (if c.wf=true then ((c.depth:Int),(c.nodes:Int),true) else (0,0,false)):=by
 refine Core.ind fun c F C v n j=>?_
 obtain⟨_,hd,hk,u⟩:=C
 rw [Core.nodes_eq] at j v ⊢
 rw [Core.depth_eq,Core.wf_eq]
 obtain⟨n,rfl⟩:∃m,n=m+1:=⟨n - 1,by omega⟩
 rw [Em,RK c hd,AA]
 cases hno:A1 c with
 |false=>simp
 | true=>
  rw [if_neg (by simp)]
  have loop:∀ (post pre:List Core) (n d s:Nat),c.kids=pre++post→4*Core.nodess post+1≤n→s+Core.nodess post≤Big→
    Cc n c d s (pre.length:Int)=some (if Core.wfs post=true then (((max d (if post=[] then d else Core.depths post+1):Nat):Int),((s+Core.nodess post:Nat):Int),true) else (0,0,false)):=by
   intro post
   induction post with
   |nil=>
    intro pre n d s h j _
    obtain⟨n,rfl⟩:∃m,n=m+1:=⟨n - 1,by omega⟩
    rw [Cc,Al h]; simp [Core.nodess,Core.wfs]
   | cons x post ihp=>
    intro pre n d s h j p
    rw [Core.nodess] at j p
    have:=x.nodes_pos
    have q:=Core.depth_le x
    obtain⟨n,rfl⟩:∃m,n=m+1:=⟨n - 1,by omega⟩
    have hx:x ∈ c.kids:=by rw [h]; simp
    rw [Cc,if_pos (Ah h),AU h,AA,F x hx (u x hx) (by omega) n (by omega),AA,Core.wfs]
    cases hw:x.wf with
    |false=>simp
    |true=>
     rw [if_pos rfl,if_neg (by simp)]
     dsimp only
     rw [Ur (by omega),sV,Mp (by omega),AN h hk,ihp (pre++[x]) n _ _ (AM h) (by omega) (by omega)]
     rw [Core.nodess,Core.depths,if_neg (List.cons_ne_nil _ _),Bool.true_and]
     grind [Core.depths]
  have:=loop c.kids [] n 1 1 (by simp) (by omega) (by omega)
  grind [Core.depths]
def Core.valid (c:Core):Bool:=c.wf&&decide (c.depth≤80∧c.nodes≤400)
theorem Ag {c:Core} (h:c.nodes≤Big):16*c.nodes≤fuel:=by rw [Af]; grind
theorem SO (c:Core) (hs:c.Small) (hN:c.nodes≤Big):Gc c=some (decide (c.depth≤80∧c.nodes≤400)):=by
 unfold Gc
 rw [Vu c hs hN fuel (by have:=Ag hN; omega),AA]
 dsimp only
 by_cases h:c.depth≤80
 ·rw [if_pos (by grind)]; congr 1; rw [Bool.eq_iff_iff]; grind
 grind
theorem P3 (c:Core) (hs:c.Small) (hN:c.nodes≤Big):Gl c=some c.valid:=by
 grind [Gl,Core.valid,YA,fuel,SO]
theorem J3 {c:Core} (h:decide ((shape c.kind).2.2.1 ≤(c.data.length:Int)∧(c.data.length:Int)≤(shape c.kind).2.2.2)=true):c.data.length≤4:=by
 have:(shape c.kind).2.2.2 ≤4:=by
  grind [shape]
 grind
theorem Mq:∀ (c:Core),c.Small→∀ (d l n:Nat),d≤Big→l≤Big→16*c.nodes≤n→EF n c d l=some (if c.wf=true∧c.depth≤d∧c.nodes≤l then ((c.nodes:Nat):Int) else -1):=by
 refine Core.ind fun c F J d l n hd O q=>?_
 obtain⟨_,C,hk,G⟩:=J
 rw [Core.nodes_eq] at q ⊢
 rw [Core.depth_eq,Core.wf_eq]
 obtain⟨n,rfl⟩:∃m,n=m+1:=⟨n - 1,by omega⟩
 rw [EF,aJ,AA]
 have hj:∀m,1≤m→Bi m c d l true=some (-1):=by
  intro m hm
  obtain⟨m,rfl⟩:∃k,m=k+1:=⟨m - 1,by omega⟩
  rw [Bi,if_pos rfl]
 rw [hj n (by omega)]
 by_cases h1:d<1
 ·rw [if_pos (by grind),if_neg (by omega)]
 rw [if_neg (by grind)]
 by_cases h2:l<1
 ·rw [if_pos (by grind),if_neg (by omega)]
 rw [if_neg (by grind),Dl,AA,Dl,AA,aK,AA]
 have u:A1 c=(decide ((shape c.kind).1 ≤(c.kids.length:Int)∧(c.kids.length:Int)≤(shape c.kind).2.1)&&decide ((shape c.kind).2.2.1 ≤(c.data.length:Int)∧(c.data.length:Int)≤(shape c.kind).2.2.2)&&K4 c&&c.data.all Ck):=rfl
 rw [u]
 cases hA:decide ((shape c.kind).1 ≤(c.kids.length:Int)∧(c.kids.length:Int)≤(shape c.kind).2.1) with
 |false=>simp
 |true=>
 cases hB:decide ((shape c.kind).2.2.1 ≤(c.data.length:Int)∧(c.data.length:Int)≤(shape c.kind).2.2.2) with
 |false=>simp
 |true=>
 have I:=J3 hB
 cases hC:K4 c with
 |false=>grind
 |true=>
 simp only [Bool.not_true,Bool.false_eq_true,if_false,Bool.true_and]
 obtain⟨n,rfl⟩:∃m,n=m+1:=⟨n - 1,by omega⟩
 rw [Bi,if_neg (by simp)]
 have j:∀ (post pre:List Core) (n s:Nat),c.kids=pre++post→16*Core.nodess post+1≤n→s≤l→
   DC n c d l s (pre.length:Int)=some (if Core.wfs post=true∧Core.depths post+1≤d∧s+Core.nodess post≤l then ((s+Core.nodess post:Nat):Int) else -1):=by
  intro post
  induction post with
  |nil=>
   intro pre n s h q v
   obtain⟨n,rfl⟩:∃m,n=m+1:=⟨n - 1,by omega⟩
   rw [DC,Al h,if_neg (by simp),if_pos ⟨rfl,by grind [Core.depths],by grind [Core.nodess]⟩]
   rfl
  | cons x post ihp=>
   intro pre n s h q v
   rw [Core.nodess] at q
   have:=x.nodes_pos
   obtain⟨n,rfl⟩:∃m,n=m+1:=⟨n - 1,by omega⟩
   have hx:x ∈ c.kids:=by rw [h]; simp
   rw [DC,if_pos (Ah h),AU h,AA,show IntKind.i64.wrap ((d:Int) - 1)=((d - 1:Nat):Int) from by rw [w64 (by omega) (by grind)]; omega,
    show IntKind.i64.wrap ((l:Int) - (s:Int))=((l - s:Nat):Int) from by rw [w64 (by omega) (by grind)]; omega,
    F x hx (G x hx) (d - 1) (l - s) n (by omega) (by omega) (by omega),AA,Core.wfs,Core.nodess,Core.depths]
   by_cases hw:x.wf=true∧x.depth≤d - 1∧x.nodes≤l - s
   ·rw [if_pos hw,if_neg (by simp),Mp (by omega),AN h hk,ihp (pre++[x]) n _ (AM h) (by omega) (by omega)]
    grind
   grind
 have p:∀ (post pre:List Int) (n:Nat),c.data=pre++post→post.length+16*Core.nodess c.kids+2≤n→
   DB n c d l (pre.length:Int)=some (if post.all Ck=true∧Core.wfs c.kids=true∧Core.depths c.kids+1≤d∧1+Core.nodess c.kids≤l then ((1+Core.nodess c.kids:Nat):Int) else -1):=by
  intro post
  induction post with
  |nil=>
   intro pre n h q
   obtain⟨n,rfl⟩:∃m,n=m+1:=⟨n - 1,by omega⟩
   rw [DB,Al h,if_neg (by simp)]
   have:=j c.kids [] n 1 (by simp) (by omega) (by omega)
   grind
  | cons x post ihp=>
   intro pre n h q
   obtain⟨n,rfl⟩:∃m,n=m+1:=⟨n - 1,by omega⟩
   rw [DB,if_pos (Ah h),AU h,AA,Dl,AA,List.all_cons]
   have e:Ck x=decide (0≤x∧x≤23):=rfl
   rw [← e]
   cases hx:Ck x with
   |false=>simp
   |true=>
    rw [if_neg (by simp),AN h C,ihp (pre++[x]) n (AM h) (by grind),Bool.true_and]
 have:=p c.data [] n (by simp) (by omega)
 grind
theorem jz (c:Core) (hs:c.Small) (hN:c.nodes≤Big):Pn c=some c.valid:=by
 unfold Pn Core.valid
 have:=Mq c hs 80 400 fuel (by grind) (by grind) (Ag hN)
 rw [show ((80:Nat):Int)=80 from rfl,show ((400:Nat):Int)=400 from rfl] at this
 rw [this,AA]
 congr 1
 have hp:=c.nodes_pos
 grind
def bnd (k:Int) (i:Nat):Nat:=if k=4∨k=7∧i=1 then 1 else 0
mutual
def Core.above:Core→Nat→Bool
 |⟨k,v,_,ks⟩,a=>if k=1 then decide ((a:Int)≤v) else Core.aboves k ks 0 a
def Core.aboves (k:Int):List Core→Nat→Nat→Bool
 | [],_,_=>false
 |c::cs,i,a=>Core.above c (a+bnd k i)||Core.aboves k cs (i+1) a
end
theorem Core.above_eq (c:Core) (a:Nat):c.above a=if c.kind=1 then decide ((a:Int)≤c.value) else Core.aboves c.kind c.kids 0 a:=by cases c; rw [Core.above]
theorem Jk (k:Int) (i:Nat):bnd k i≤1:=by unfold bnd; split <;> omega
theorem Z2 (c:Core) (i:Nat):F9 c i=some ((bnd c.kind i:Nat):Int):=by
 grind [F9,F8,bnd]
theorem J5 (c:Core) (i:Nat):Fm c i=some ((bnd c.kind i:Nat):Int):=by
 grind [Fm,FV,bnd]
theorem aL:∀ (c:Core),c.Small→∀ (a n:Nat),a+c.depth≤Big→16*c.nodes≤n→Fo n c a=some (c.above a):=by
 refine Core.ind fun c F q a n u j=>?_
 obtain⟨_,v,hk,p⟩:=q
 rw [Core.nodes_eq] at j
 rw [Core.depth_eq] at u
 rw [Core.above_eq]
 obtain⟨n,rfl⟩:∃m,n=m+1:=⟨n - 1,by omega⟩
 rw [Fo]
 by_cases h1:c.kind=1
 ·rw [if_pos (by grind),if_pos h1]
 rw [if_neg (by grind),if_neg h1]
 have loop:∀ (post pre:List Core) (n:Nat),c.kids=pre++post→16*Core.nodess post+1≤n→Core.depths post+a+1≤Big→
   DD n c a (pre.length:Int)=some (Core.aboves c.kind post pre.length a):=by
  intro post
  induction post with
  |nil=>
   intro pre n h j _
   obtain⟨n,rfl⟩:∃m,n=m+1:=⟨n - 1,by omega⟩
   rw [DD,Al h,if_neg (by simp),Core.aboves]
  | cons x post ihp=>
   intro pre n h j C
   rw [Core.nodess] at j
   rw [Core.depths] at C
   have:=x.nodes_pos
   have hb:=Jk c.kind pre.length
   obtain⟨n,rfl⟩:∃m,n=m+1:=⟨n - 1,by omega⟩
   have hx:x ∈ c.kids:=by rw [h]; simp
   rw [DD,if_pos (Ah h),AU h,AA,J5,AA,Mp (by omega),F x hx (p x hx) _ n (by omega) (by omega),AA,Core.aboves]
   cases x.above (a+bnd c.kind pre.length) with
   |true=>simp
   |false=>
    rw [if_neg (by simp),AN h hk,ihp (pre++[x]) n (AM h) (by omega) (by omega)]
    simp
 exact loop c.kids [] n (by simp) (by omega) (by omega)
theorem Bg {x:Core}:∀ {l:List Core},x ∈ l→Core.wfs l=true→x.wf=true
 |c::cs,h,hw=>by
  rw [Core.wfs,Bool.and_eq_true] at hw
  rcases List.mem_cons.1 h with rfl|h
  ·grind
  ·exact Bg h hw.2
theorem GU {c:Core} (h:A1 c=true) (h1:c.kind=1):c.kids=[] :=by
 simp_all [A1,shape]
theorem VC:∀ (c:Core),c.Small→c.wf=true→∀ (a n:Nat),a+c.depth≤Big→16*c.nodes≤n→DA n c a=some (!c.above a):=by
 refine Core.ind fun c G v p a n C j=>?_
 obtain⟨_,u,hk,q⟩:=v
 rw [Core.nodes_eq] at j
 rw [Core.depth_eq] at C
 rw [Core.wf_eq,Bool.and_eq_true] at p
 rw [Core.above_eq]
 obtain⟨n,rfl⟩:∃m,n=m+1:=⟨n - 1,by omega⟩
 obtain⟨n,rfl⟩:∃m,n=m+1:=⟨n - 1,by omega⟩
 rw [DA]
 have loop:∀ (post pre:List Core) (n:Nat),c.kids=pre++post→16*Core.nodess post+1≤n→Core.depths post+a+1≤Big→
   By n c a (pre.length:Int)=some (!Core.aboves c.kind post pre.length a):=by
  intro post
  induction post with
  |nil=>
   intro pre n h j _
   obtain⟨n,rfl⟩:∃m,n=m+1:=⟨n - 1,by omega⟩
   rw [By,Al h,if_neg (by simp),Core.aboves]; rfl
  | cons x post ihp=>
   intro pre n h j F
   rw [Core.nodess] at j
   rw [Core.depths] at F
   have:=x.nodes_pos
   have hb:=Jk c.kind pre.length
   obtain⟨n,rfl⟩:∃m,n=m+1:=⟨n - 1,by omega⟩
   have hx:x ∈ c.kids:=by rw [h]; simp
   rw [By,if_pos (Ah h),AU h,AA,Z2,AA,Mp (by omega),G x hx (q x hx) (Bg hx p.2) _ n (by omega) (by omega),AA,Core.aboves]
   cases x.above (a+bnd c.kind pre.length) with
   |true=>simp
   |false=>
    rw [if_neg (by simp),AN h hk,ihp (pre++[x]) n (AM h) (by omega) (by omega)]
    simp
 by_cases h1:c.kind=1
 ·rw [if_pos (by grind),if_pos h1,CP]
  by_cases h2:(a:Int)≤c.value
  ·grind
  ·rw [if_neg (by grind)]
   have:=loop c.kids [] n (by simp) (by omega) (by omega)
   grind [GU,Core.aboves]
 ·rw [if_neg (by grind),if_neg h1,CP,if_neg (by simp)]
  exact loop c.kids [] n (by simp) (by omega) (by omega)
def Core.closed (c:Core):Bool:=c.valid&& !c.above 0
theorem SR (c:Core) (hs:c.Small) (hN:c.nodes≤Big):Ht c=some c.closed:=by
 unfold Ht Core.closed
 rw [P3 c hs hN,AA]
 cases hv:c.valid with
 |false=>simp
 |true=>
  unfold Core.valid at hv
  simp only [Bool.and_eq_true,decide_eq_true_eq] at hv
  have:=VC c hs hv.1 0 fuel (by grind) (Ag hN)
  rw [show ((0:Nat):Int)=0 from rfl] at this
  rw [if_pos rfl,this]; rfl
theorem Py (c:Core) (hs:c.Small) (hN:c.nodes≤Big):Gn c=some c.closed:=by
 unfold Gn Core.closed
 rw [jz c hs hN,AA]
 cases hv:c.valid with
 |false=>simp
 |true=>
  unfold Core.valid at hv
  simp only [Bool.and_eq_true,decide_eq_true_eq] at hv
  have:=aL c hs 0 fuel (by grind) (Ag hN)
  rw [show ((0:Nat):Int)=0 from rfl] at this
  rw [if_pos rfl,this]; rfl
mutual
def Core.anyC (p:Core→Bool):Core→Bool
 |⟨k,v,d,ks⟩=>p ⟨k,v,d,ks⟩||Core.anysC p ks
def Core.anysC (p:Core→Bool):List Core→Bool
 | [] =>false
 |c::cs=>Core.anyC p c||Core.anysC p cs
end
theorem Core.anyC_eq (p:Core→Bool) (c:Core):c.anyC p=(p c||Core.anysC p c.kids):=by cases c; rw [Core.anyC]
theorem Core.anysC_any (p:Core→Bool):∀l:List Core,Core.anysC p l=l.any (Core.anyC p)
 | [] =>by rw [Core.anysC]; rfl
 |c::cs=>by rw [Core.anysC,Core.anysC_any p cs]; rfl
theorem U0 (f:Core→Option Bool) (p:Core→Bool):∀ (c:Core),c.Small→(∀x:Core,x.Small→f x=some (p x))→∀n,2*c.nodes≤n→GA n c f=some (c.anyC p):=by
 refine Core.ind fun c C v u n G=>?_
 have j:=v
 obtain⟨_,I,hk,q⟩:=v
 rw [Core.nodes_eq] at G
 obtain⟨n,rfl⟩:∃m,n=m+1:=⟨n - 1,by omega⟩
 rw [GA,u c j,AA,Core.anyC_eq]
 cases hp:p c with
 |true=>simp
 | false=>
  rw [if_neg (by simp),LY c.kids _ (Core.anyC p) hk fun x hx=>?_,AA,Core.anysC_any]
  ·rfl
  ·have F:x.nodes≤Core.nodess c.kids:=by
    have key:∀l:List Core,x ∈ l→x.nodes≤Core.nodess l:=by
     intro l
     induction l with
     |nil=>grind
     |cons y ys C=>
      grind [Core.nodess]
    grind
   have:=x.nodes_pos
   obtain⟨n,rfl⟩:∃m,n=m+1:=⟨n - 1,by omega⟩
   rw [IJ,C x hx (q x hx) u n (by omega),AA]
def F0 (n:Nat) (c:Core):Bool:=(decide (c.kind=11)&&decide ((n:Int)≤c.value))||c.data.any fun k=>decide ((n:Int)≤k)
theorem P0 (c:Core) (n:Nat) (hs:c.Small) (hN:c.nodes≤Big):Gm c n=some (!c.anyC (F0 n)):=by
 unfold Gm
 rw [U0 _ (F0 n) c hs (fun x hx=>?_) fuel (by have:=Ag hN; omega),AA]
 obtain⟨_,j,-,-⟩:=hx
 unfold H7 F0
 rw [J4 x.data _ (fun k=>decide ((n:Int)≤k)) j (fun k _=>by rfl),AA]
 by_cases h1:x.kind=11 <;> by_cases h2:(n:Int)≤x.value <;> simp [h1,h2]
theorem Ut (k:Nat):∀ (c:Core),c.Small→c.wf=true→∀n,16*c.nodes≤n→GB n c k=some (!c.anyC (F0 k)):=by
 refine Core.ind fun c F J C n u=>?_
 obtain⟨_,v,hk,G⟩:=J
 rw [Core.nodes_eq] at u
 rw [Core.wf_eq,Bool.and_eq_true] at C
 rw [Core.anyC_eq]
 obtain⟨n,rfl⟩:∃m,n=m+1:=⟨n - 1,by omega⟩
 obtain⟨n,rfl⟩:∃m,n=m+1:=⟨n - 1,by omega⟩
 have I:c.data.length≤4:=by
  grind [A1,J3]
 rw [GB]
 have p:∀ (post pre:List Core) (n:Nat),c.kids=pre++post→16*Core.nodess post+1≤n→D2 n c k (pre.length:Int)=some (!Core.anysC (F0 k) post):=by
  intro post
  induction post with
  |nil=>
   intro pre n h u
   obtain⟨n,rfl⟩:∃m,n=m+1:=⟨n - 1,by omega⟩
   rw [D2,Al h,if_neg (by simp),Core.anysC]; rfl
  | cons x post ihp=>
   intro pre n h u
   rw [Core.nodess] at u
   have:=x.nodes_pos
   obtain⟨n,rfl⟩:∃m,n=m+1:=⟨n - 1,by omega⟩
   have hx:x ∈ c.kids:=by rw [h]; simp
   rw [D2,if_pos (Ah h),AU h,AA,F x hx (G x hx) (Bg hx C.2) n (by omega),AA,Core.anysC]
   cases x.anyC (F0 k) with
   |true=>simp
   |false=>
    rw [if_neg (by simp),AN h hk,ihp (pre++[x]) n (AM h) (by omega)]
    simp
 have q:∀ (post pre:List Int) (n:Nat),c.data=pre++post→post.length+16*Core.nodess c.kids+2≤n→
   D1 n c k (pre.length:Int)=some (!(post.any (fun j=>decide ((k:Int)≤j))||Core.anysC (F0 k) c.kids)):=by
  intro post
  induction post with
  |nil=>
   intro pre n h u
   obtain⟨n,rfl⟩:∃m,n=m+1:=⟨n - 1,by omega⟩
   rw [D1,Al h,if_neg (by simp)]
   have:=p c.kids [] n (by simp) (by omega)
   grind
  | cons x post ihp=>
   intro pre n h u
   obtain⟨n,rfl⟩:∃m,n=m+1:=⟨n - 1,by omega⟩
   rw [D1,if_pos (Ah h),AU h,AA,List.any_cons]
   by_cases hx:(k:Int)≤x
   ·grind
   ·rw [if_neg (by grind),AN h v,ihp (pre++[x]) n (AM h) (by grind)]
    grind
 have hj:∀b,Ex (n+1) c k b=some (!(b||(c.data.any (fun j=>decide ((k:Int)≤j))||Core.anysC (F0 k) c.kids))):=by
  intro b
  rw [Ex]
  cases b with
  |true=>simp
  |false=>
   rw [if_neg (by simp)]
   have:=q c.data [] n (by simp) (by omega)
   grind
 rw [hj,hj]
 grind [F0]
def Us (k:Nat) (c:Core):Bool:=c.closed&& !c.anyC (F0 k)
def Book.valid (b:Book):Bool:=decide (1≤b.defs.length∧b.defs.length≤24)&&b.defs.all (Us b.defs.length)
theorem W9 {c:Core} (h:c.closed=true):c.wf=true:=by
 grind [Core.closed,Core.valid]
theorem X2 (b:Book) (hl:b.defs.length≤Big) (hs:∀c ∈ b.defs,c.Small∧c.nodes≤Big):IK b=some b.valid:=by
 have j:Ac b.defs (fun q=>GM q b)=some (b.defs.any fun c=> !Us b.defs.length c):=by
  refine LY b.defs _ _ hl fun c j=>?_
  unfold GM Us
  rw [SR c (hs c j).1 (hs c j).2,AA,P0 c _ (hs c j).1 (hs c j).2,AA]
  cases c.closed <;> simp
 have hj:∀p,EX b p=some (!p&&b.defs.all (Us b.defs.length)):=by
  grind [EX,List.not_any_eq_all_not]
 grind [IK,Book.valid]
theorem cM (b:Book) (hl:b.defs.length≤Big) (hs:∀c ∈ b.defs,c.Small∧c.nodes≤Big):Ki b=some b.valid:=by
 unfold Ki Book.valid
 rw [Dl,AA]
 have e:decide ((1:Int)≤(b.defs.length:Int)∧(b.defs.length:Int)≤24)=decide (1≤b.defs.length∧b.defs.length≤24):=by rw [Bool.eq_iff_iff]; grind
 rw [e]
 cases decide (1≤b.defs.length∧b.defs.length≤24) with
 |false=>simp
 | true=>
  rw [if_neg (by simp),Bool.true_and]
  have loop:∀ (post pre:List Core) (n:Nat),b.defs=pre++post→2*post.length+1≤n→C2 n b (pre.length:Int)=some (post.all (Us b.defs.length)):=by
   intro post
   induction post with
   |nil=>
    intro pre n h j
    obtain⟨n,rfl⟩:∃m,n=m+1:=⟨n - 1,by omega⟩
    rw [C2,Al h]; rfl
   | cons x post ihp=>
    intro pre n h j
    rw [List.length_cons] at j
    obtain⟨n,rfl⟩:∃m,n=m+1:=⟨n - 1,by omega⟩
    obtain⟨n,rfl⟩:∃m,n=m+1:=⟨n - 1,by omega⟩
    have hx:x ∈ b.defs:=by rw [h]; simp
    rw [C2,if_pos (Ah h),AU h,AA,Py x (hs x hx).1 (hs x hx).2,AA,List.all_cons]
    unfold Us
    cases hc:x.closed with
    |false=>rw [if_pos (by simp),Ey,if_pos rfl]; simp
    | true=>
     rw [if_neg (by simp),AA,Ut _ x (hs x hx).1 (W9 hc) fuel (Ag (hs x hx).2),AA,Ey]
     cases x.anyC (F0 b.defs.length) with
     |true=>simp
     |false=>
      rw [if_neg (by simp),AN h hl,ihp (pre++[x]) n (AM h) (by omega)]
      rfl
  exact loop b.defs [] fuel (by simp) (by rw [Af]; grind)
theorem gF {l:List Core} (h:Core.szs l≤1048576):l.length≤Big∧(∀c ∈ l,c.Small∧c.nodes≤Big)∧Core.nodess l≤Big:=by
 have h1:=Core.len_szs l
 have h2:=Core.nodess_le l
 refine⟨by grind,fun c j=>?_,by grind⟩
 have h3:=Core.szs_mem j
 have p:=Core.nodes_le c
 exact⟨c.small_of (by grind),by grind⟩
theorem kind_cases (k:Int):k=1∨k=2∨k=3∨k=4∨k=5∨k=6∨k=7∨k=8∨k=9∨k=10∨k=11∨k=12∨(k<1∨12<k):=by omega
def ports (k f:Int):Int:=
 if k=9 then (if 0≤f∧f≤3 then f+1 else 0) else if f≠0 then 0
 else if k=1∨k=5∨k=6∨k=12 then 1 else if k=8∨k=10∨k=11 then 2 else if k=2∨k=3∨k=4∨k=7 then 3 else 0
theorem RL {k:Int} (h:k<1∨12<k):k≠1∧k≠2∧k≠3∧k≠4∧k≠5∧k≠6∧k≠7∧k≠8∧k≠9∧k≠10∧k≠11∧k≠12:=by omega
theorem gU (k f:Int):JA k f=some (ports k f):=by
 have j:0≤f∧f≤3→IntKind.i64.wrap (1+f)=f+1:=fun h=>by rw [w64 (by omega) (by omega)]; omega
 by_cases hf:f=0
 ·subst hf
  rcases kind_cases k with h|h|h|h|h|h|h|h|h|h|h|h|h
  all_goals first|(subst h; rfl)|skip
  grind [RL,JA,FC,GD,FB,ports]
 grind [JA,Dl,ports]
theorem JB (k:Int):Je k=some (decide (1≤k∧k≤12)):=by
 unfold Je
 by_cases h:1≤k <;> simp [h]
theorem gV (k f:Int):I9 k f=some (ports k f):=by
 have j:0≤f∧f≤3→IntKind.i64.wrap (f+1)=f+1:=fun h=>w64 (by omega) (by omega)
 by_cases hf:f=0
 ·subst hf
  rcases kind_cases k with h|h|h|h|h|h|h|h|h|h|h|h|h
  all_goals first|(subst h; rfl)|skip
  grind [I9,FA,E9,ports,JB]
 grind [I9,FA,ports,E9,JB]
def levB (k l:Int):Bool:=decide (1≤k∧k≤12)&&if k=1∨k=5∨k=6 then decide (l=0) else decide (0≤l∧l≤8)
theorem NY (k l:Int):E2 k l=some (levB k l):=by
 rcases kind_cases k with h|h|h|h|h|h|h|h|h|h|h|h|h
 all_goals first|(subst h; simp [E2,E3,Az,Kz,levB,Dl,AA]; done)|skip
 grind [RL,E2,E3,Az,Kz,levB,Dl]
theorem J6 (k l:Int):D7 k l=some (levB k l):=by
 have j:decide (l=0)=true∨decide (l=0)=false:=by cases decide (l=0) <;> simp
 rcases kind_cases k with h|h|h|h|h|h|h|h|h|h|h|h|h
 all_goals first|(subst h; by_cases h0:l=0 <;> by_cases h1:0≤l <;> simp [D7,JB,Fu,Hz,levB,AA,h0,h1]; done)|skip
 grind [D7,JB,levB]
def U3 (a:Agent):Bool:=
 if a.kind=6 then decide (a.data.length=0)&&decide (-2147483648≤a.value∧a.value≤2147483647)
 else if a.kind=7 then decide (a.data.length=0)&&decide (1≤a.value∧a.value≤6)
 else if a.kind=8 then decide (a.data.length=1)&&decide (1≤a.value∧a.value≤6)&&a.data.all fun d=>decide (-2147483648≤d∧d≤2147483647)
 else if a.kind=9 then decide (a.data.length=0)&&decide (0≤a.value∧a.value≤3)
 else if a.kind=12 then decide (a.data.length=0)&&Ck a.value
 else if a.kind=10 then decide (a.value=0)&&decide (1≤a.data.length∧a.data.length≤4)&&a.data.all Ck
 else if a.kind=11 then decide (a.value=0)&&decide (a.data.length=2)&&a.data.all Ck
 else decide (a.value=0)&&decide (a.data.length=0)
theorem XL (n:Int):Jg n=some (Ck n):=by
 unfold Jg
 rw [Dl,AA]; rfl
theorem x7 {α:Type} (L:Nat→Int→Option Bool) (f:α→Option Bool) (p:α→Bool) (l:List α) (hL:∀n i,L (n+1) i=(if (decide (i<(l.length:Int)))=true then ((at? l i).bind fun x=>((f x).bind fun v=>(if (!v)=true then (some false) else (L n (IntKind.i64.wrap (i+1)))))) else (some true)))
  (hl:l.length≤Big) (hf:∀x ∈ l,f x=some (p x)):L fuel 0=some (l.all p):=by
 have loop:∀ (post pre:List α) (n:Nat),l=pre++post→post.length<n→L n (pre.length:Int)=some (post.all p):=by
  intro post
  induction post with
  |nil=>
   intro pre n h j
   obtain⟨n,rfl⟩:∃m,n=m+1:=⟨n - 1,by omega⟩
   rw [hL,Al h]; simp
  |cons x post ih=>
   intro pre n h j
   obtain⟨n,rfl⟩:∃m,n=m+1:=⟨n - 1,by omega⟩
   rw [hL,if_pos (Ah h),AU h,AA,hf x (by rw [h]; simp),AA,AN h hl,List.all_cons]
   grind
 exact loop l [] fuel rfl (by rw [Af]; grind)
theorem sW {α:Type} {l:List α}:decide ((l.length:Int)=0)=decide (l.length=0):=by grind
theorem sX {α:Type} {l:List α}:decide ((l.length:Int)=1)=decide (l.length=1):=by grind
theorem sY {α:Type} {l:List α}:decide ((l.length:Int)=2)=decide (l.length=2):=by grind
theorem sZ {α:Type} {l:List α}:decide (1≤(l.length:Int)∧(l.length:Int)≤4)=decide (1≤l.length∧l.length≤4):=by grind
theorem aM (a:Agent) (hd:a.data.length≤Big):CK fuel a 0=some (a.data.all Ck):=
 x7 (fun n i=>CK n a i) Jg Ck a.data (fun n i=>by rw [CK]) hd fun x _=>XL x
theorem aN (a:Agent) (hd:a.data.length≤Big):HY a=some (U3 a):=by
 have h3:=aM a hd
 unfold HY U3
 rcases kind_cases a.kind with h|h|h|h|h|h|h|h|h|h|h|h|h
 all_goals try simp only [h,FM,Bn,Dl,XL,AA,h3,sW,sX,sY,sZ,eq_self,decide_true,reduceIte,Int.reduceEq,decide_false,Bool.false_eq_true]
 all_goals first|(by_cases h0:a.value=0 <;> by_cases h1:a.data.length=0 <;> simp [h0,h1]; done)|skip
 ·match hdd:a.data with
  | [] =>simp
  | [d] =>by_cases h1:1≤a.value∧a.value≤6 <;> simp [at?,h1]
  |d::e::l=>simp
 ·cases decide (a.value=0) <;> cases decide (1≤a.data.length∧a.data.length≤4) <;> simp
 ·cases decide (a.value=0) <;> cases decide (a.data.length=2) <;> simp
 grind
theorem j5 {l:List Int}:l.any (fun k=> !Ck k)= !l.all Ck:=eG
theorem j6 (l:List Int) (hl:l.length≤Big):AW l (fun j=>Fy j)=some (!l.all Ck):=by
 rw [J4 l _ (fun k=> !Ck k) hl (fun x _=>by unfold Fy; rw [H9,AA]),j5]
def agB (a:Agent):Bool:=decide (0<a.ports.length∧ports a.kind (if a.kind=9 then (a.ports.length:Int) - 1 else 0)=(a.ports.length:Int))&&levB a.kind a.level&&U3 a
theorem gW (a:Agent) (hp:a.ports.length≤Big) (hd:a.data.length≤Big):Jh a=some (agB a):=by
 have j:IU a=some (if a.kind=9 then (a.ports.length:Int) - 1 else 0):=by
  grind [IU,w64]
 unfold Jh agB
 rw [j,AA,gU,AA,NY,aN a hd]
 generalize ports a.kind _=p
 by_cases h:0<a.ports.length∧p=(a.ports.length:Int)
 ·obtain⟨h1,rfl⟩:=h
  have h2:(0:Int)<(a.ports.length:Int):=by omega
  cases levB a.kind a.level <;> simp [h1,h2,AA]
 ·by_cases h1:(0:Int)<p
  ·have h2:¬ ((a.ports.length:Int)=p):=by omega
   grind
  ·simp [h,h1]
theorem sa (x y:Bool):Aj x y=some (x&&y):=by cases x <;> simp [Aj]
theorem aO (a:Agent) (hd:a.data.length≤Big):CJ a false=some (U3 a):=by
 unfold CJ U3
 rw [if_neg (by simp),j6 a.data hd,AA]
 rcases kind_cases a.kind with h|h|h|h|h|h|h|h|h|h|h|h|h
 all_goals try simp only [h,sa,aI,Nu,H9,AA,sW,sX,sY,eq_self,decide_true,reduceIte,Int.reduceEq,decide_false,Bool.false_eq_true,Bool.not_not]
 all_goals first|(by_cases h0:a.value=0 <;> by_cases h1:a.data.length=0 <;> simp [h0,h1]; done)|skip
 ·match hdd:a.data with
  | [] =>simp
  | [d] =>by_cases h1:1≤a.value∧a.value≤6 <;> simp [at?,h1]
  |d::e::l=>simp
 ·grind
 ·by_cases h1:1≤a.data.length <;> by_cases h2:a.data.length≤4
  ·have p:(1:Int)≤(a.data.length:Int):=by omega
   have j:(a.data.length:Int)≤4:=by omega
   grind
  ·have j:¬ (a.data.length:Int)≤4:=by omega
   grind
  ·have p:¬ (1:Int)≤(a.data.length:Int):=by omega
   grind
  omega
 ·cases decide (a.value=0) <;> cases decide (a.data.length=2) <;> simp
 grind
theorem gX (a:Agent) (hp:a.ports.length≤Big) (hd:a.data.length≤Big):HV a=some (agB a):=by
 unfold HV agB
 have j:Jf a.kind (a.ports.length:Int)=some (if a.kind=9 then (a.ports.length:Int) - 1 else 0):=by
  grind [Jf,w64]
 rw [j,AA,gV,AA,J6,AA]
 grind [ports,CJ,decide_eq_false,aO]
def Sk:Nat→List Agent→Bool
 |_,[] =>true
 |i,x::l=>(agB x&&(decide (x.kind=1) == decide (i=0)))&&Sk (i+1) l
def agentsB (l:List Agent):Bool:=decide (1≤l.length∧l.length≤600)&&Sk 0 l
def Agent.Small (a:Agent):Prop:=a.ports.length≤Big∧a.data.length≤Big
theorem aP {n:Nat}:decide ((n:Int)=0)=decide (n=0):=by grind
theorem YB (l:List Agent) (hl:l.length≤Big) (hs:∀a ∈ l,a.Small):∀ (post pre:List Agent) (n:Nat),l=pre++post→2*post.length<n→B9 n l (pre.length:Int)=some (Sk pre.length post):=by
 intro post
 induction post with
 |nil=>
  intro pre n h j
  obtain⟨n,rfl⟩:∃m,n=m+1:=⟨n - 1,by omega⟩
  rw [B9,Al h]; rfl
 |cons x post ih=>
  intro pre n h j
  simp only [List.length_cons] at j
  obtain⟨n,rfl⟩:∃m,n=m+2:=⟨n - 2,by omega⟩
  obtain⟨h1,h2⟩:=hs x (by rw [h]; simp)
  rw [B9,if_pos (Ah h),AU h,AA,gW x h1 h2,AA,AA,Dk,Dk,AN h hl,ih (pre++[x]) n (AM h) (by omega),Sk,aP]
  grind
theorem cc (l:List Agent) (hl:l.length≤Big) (hs:∀a ∈ l,a.Small):IV l=some (agentsB l):=by
 unfold IV agentsB
 rw [Dl,AA]
 have:=YB l hl hs l [] fuel rfl (by rw [Af]; grind)
 simp only [List.length_nil,Int.natCast_zero] at this
 rw [this]
 have e:decide (1≤(l.length:Int)∧(l.length:Int)≤600)=decide (1≤l.length∧l.length≤600):=by grind
 rw [e]
 cases decide (1≤l.length∧l.length≤600) <;> rfl
theorem YC (l:List Agent) (hl:l.length≤Big) (hs:∀a ∈ l,a.Small):∀ (post pre:List Agent) (n:Nat),l=pre++post→2*post.length<n→B8 n l (pre.length:Int)=some (Sk pre.length post):=by
 intro post
 induction post with
 |nil=>
  intro pre n h j
  obtain⟨n,rfl⟩:∃m,n=m+1:=⟨n - 1,by omega⟩
  rw [B8,Al h]; rfl
 |cons x post ih=>
  intro pre n h j
  simp only [List.length_cons] at j
  obtain⟨n,rfl⟩:∃m,n=m+2:=⟨n - 2,by omega⟩
  obtain⟨h1,h2⟩:=hs x (by rw [h]; simp)
  rw [B8,if_pos (Ah h),AU h,AA,gX x h1 h2,AA,Dj,Dj,AN h hl,ih (pre++[x]) n (AM h) (by omega),Sk,aP]
  grind
theorem cd (l:List Agent) (hl:l.length≤Big) (hs:∀a ∈ l,a.Small):IS l=some (agentsB l):=by
 have j:=YC l hl hs l [] fuel rfl (by rw [Af]; grind)
 grind [IS,agentsB,Fz]
def GV (l:List Agent) (p:Port):Option Port:=(at? l p.agent).bind fun y=>at? y.ports p.slot
def Sa (l:List Agent) (i k:Nat) (p:Port):Bool:= !(decide (p.agent=i)&&decide (p.slot=k))&&match GV l p with
 |some q=>decide (q.agent=i)&&decide (q.slot=k)
 |none=>false
def GI (l:List Agent) (i:Nat):Nat→List Port→Bool
 |_,[] =>true
 |k,p::ps=>Sa l i k p&&GI l i (k+1) ps
def Dp (l:List Agent):Nat→List Agent→Bool
 |_,[] =>true
 |i,x::xs=>GI l i 0 x.ports&&Dp l (i+1) xs
def Net.valid (n:Net):Bool:=agentsB n.agents&&Dp n.agents 0 n.agents
theorem QB {α:Type} {l:List α} {i:Int} (h:¬ (0≤i∧i<(l.length:Int))):at? l i=none:=by
 grind [at?]
theorem Lf {α:Type} {l:List α} {i:Int} (h:0≤i∧i<(l.length:Int)):∃x,at? l i=some x∧x ∈ l:=by
 simp_all [at?]
theorem j7 (l:List Agent) (p:Port) (hl:l.length≤Big) (hs:∀a ∈ l,a.Small):K0 l p=some (GV l p).isSome :=by
 unfold K0 GV
 rw [Dl,AA,w64 (by omega) (by grind)]
 by_cases h:0≤p.agent∧p.agent<(l.length:Int)
 ·obtain⟨y,hy,hm⟩:=Lf h
  rw [decide_eq_true ⟨h.1,by omega⟩,if_pos rfl,hy,AA,AA,Dl,AA]
  have:=(hs y hm).1
  rw [w64 (by omega) (by grind)]
  by_cases h2:0≤p.slot∧p.slot<(y.ports.length:Int)
  ·obtain⟨q,j,-⟩:=Lf h2
   rw [decide_eq_true ⟨h2.1,by omega⟩,j]; rfl
  grind [QB]
 grind [QB]
theorem cf (l:List Agent) (p:Port):Ky l p=some (GV l p).isSome :=by
 unfold Ky GV
 by_cases h:0≤p.agent∧p.agent<(l.length:Int)
 ·obtain⟨y,hy,hm⟩:=Lf h
  rw [decide_eq_true h.1,if_pos rfl,decide_eq_true h.2,if_pos rfl,hy,AA,AA]
  by_cases h2:0≤p.slot
  ·rw [decide_eq_true h2,if_pos rfl]
   by_cases h3:p.slot<(y.ports.length:Int)
   ·obtain⟨q,j,-⟩:=Lf ⟨h2,h3⟩
    rw [decide_eq_true h3,j]; rfl
   grind [QB]
  grind [QB]
 grind [QB]
theorem aQ (n:Net) (hl:n.agents.length≤Big) (hs:∀a ∈ n.agents,a.Small) (i:Nat) (x:Agent) (hx:x.Small) (R:Bool) (N:Nat) (hR:∀m,N≤m→EP m n (IntKind.i64.wrap ((i:Int)+1))=some R):
  ∀ (post pre:List Port) (m:Nat),x.ports=pre++post→2*post.length+1+N≤m→Er m n (i:Int) x (pre.length:Int)=some (GI n.agents i pre.length post&&R):=by
 intro post
 induction post with
 |nil=>
  intro pre m h hm
  simp only [List.length_nil] at hm
  obtain⟨m,rfl⟩:∃k,m=k+1:=⟨m - 1,by omega⟩
  rw [Er,Al h,if_neg (by simp),hR m (by omega),GI]; rfl
 | cons p post ih=>
  intro pre m h hm
  simp only [List.length_cons] at hm
  obtain⟨m,rfl⟩:∃k,m=k+2:=⟨m - 2,by omega⟩
  have j:∀b,Es (m+1) n (i:Int) (pre.length:Int) x b=some (!b&&(GI n.agents i (pre.length+1) post&&R)):=fun b=>by
   rw [Es,AN h hx.1,ih (pre++[p]) m (AM h) (by omega),List.length_append,List.length_singleton]
   cases b <;> simp
  rw [Er,if_pos (Ah h),AU h,AA,j,j7 n.agents p hl hs,AA,GI,Sa]
  cases (decide (p.agent=(i:Int))&&decide (p.slot=(pre.length:Int))) with
  |true=>simp
  | false=>
   rw [if_neg (by simp)]
   cases hp:GV n.agents p with
   |none=>simp
   |some q=>
    grind [GV,Option.bind_eq_some_iff]
theorem j8 (n:Net) (hl:n.agents.length≤Big) (hs:∀a ∈ n.agents,a.Small):∀ (post pre:List Agent) (m:Nat),n.agents=pre++post→2*szl (fun a=>a.ports.length) post+1≤m→EP m n (pre.length:Int)=some (Dp n.agents pre.length post):=by
 intro post
 induction post with
 |nil=>
  intro pre m h hm
  obtain⟨m,rfl⟩:∃k,m=k+1:=⟨m - 1,by omega⟩
  rw [EP,Al h]; rfl
 |cons x post ih=>
  intro pre m h hm
  simp only [szl] at hm
  obtain⟨m,rfl⟩:∃k,m=k+1:=⟨m - 1,by omega⟩
  rw [EP,if_pos (Ah h),AU h,AA,Dp]
  refine aQ n hl hs pre.length x (hs x (by rw [h]; simp)) _ (2*szl (fun a=>a.ports.length) post+1) (fun k hk=>?_) x.ports [] m rfl (by omega)
  rw [AN h hl,ih (pre++[x]) k (AM h) hk,List.length_append,List.length_singleton]
def Net.Small (n:Net):Prop:=szl (fun a=>a.ports.length) n.agents≤Big∧∀a ∈ n.agents,a.data.length≤Big
theorem Net.Small.agents {n:Net} (h:n.Small):n.agents.length≤Big∧∀a ∈ n.agents,a.Small:=
 ⟨Nat.le_trans (LV (fun a=>a.ports.length) _) h.1,fun a j=>⟨by have:=NP (s:=fun a:Agent=>a.ports.length) j; have:=h.1; omega,h.2 a j⟩⟩
theorem mc (n:Net) (h:n.Small):Pp n=some n.valid:=by
 obtain⟨p,j⟩:=h.agents
 unfold Pp Net.valid
 rw [cc _ p j,AA]
 have:=j8 n p j n.agents [] fuel rfl (by rw [Af]; have:=h.1; grind)
 simp only [List.length_nil,Int.natCast_zero] at this
 rw [this]
 cases agentsB n.agents <;> simp
def Ib (i:Nat):Nat→List Port→List Port
 |_,[] =>[]
 |k,_::ps=>⟨(i:Int),(k:Int)⟩::Ib i (k+1) ps
def Ei:Nat→List Agent→List Port
 |_,[] =>[]
 |i,x::xs=>Ib i 0 x.ports++Ei (i+1) xs
theorem Of (i:Nat):∀ (ps:List Port) (k:Nat),(Ib i k ps).length =ps.length
 | [],_=>rfl
 |_::ps,k=>by rw [Ib,List.length_cons,Of i ps,List.length_cons]
theorem QC:∀ (l:List Agent) (i:Nat),(Ei i l).length ≤szl (fun a=>a.ports.length) l
 | [],_=>by grind [Ei]
 |x::l,i=>by
  have:=QC l (i+1)
  grind [Ei,szl,Of]
theorem me (n:Net) (i:Nat) (x:Agent) (hx:x.Small) (Z:List Port) (N:Nat):
  ∀ (post pre:List Port) (acc:List Port) (m:Nat),x.ports=pre++post→acc.length+post.length≤Big→(∀m,N≤m→Bl m n (acc++Ib i pre.length post) (IntKind.i64.wrap ((i:Int)+1))=some Z)→post.length+1+N≤m→Ci m n (i:Int) x acc (pre.length:Int)=some Z:=by
 intro post
 induction post with
 |nil=>
  intro pre acc m h j q hm
  simp only [List.length_nil] at hm
  obtain⟨m,rfl⟩:∃k,m=k+1:=⟨m - 1,by omega⟩
  rw [Ci,Al h,if_neg (by simp)]
  grind [Ib]
 |cons p post ih=>
  intro pre acc m h j q hm
  simp only [List.length_cons] at hm j
  obtain⟨m,rfl⟩:∃k,m=k+1:=⟨m - 1,by omega⟩
  rw [Ci,if_pos (Ah h),A0 (by grind),AA,AN h hx.1]
  grind [Ib]
theorem mf (n:Net) (hl:n.agents.length≤Big) (hs:∀a ∈ n.agents,a.Small):∀ (post pre:List Agent) (acc:List Port) (m:Nat),n.agents=pre++post→acc.length+szl (fun a=>a.ports.length) post≤Big→2*szl (fun a=>a.ports.length) post+1≤m→Bl m n acc (pre.length:Int)=some (acc++Ei pre.length post):=by
 intro post
 induction post with
 |nil=>
  intro pre acc m h j hm
  obtain⟨m,rfl⟩:∃k,m=k+1:=⟨m - 1,by omega⟩
  rw [Bl,Al h]; simp [Ei]
 |cons x post ih=>
  intro pre acc m h j hm
  simp only [szl] at hm j
  obtain⟨m,rfl⟩:∃k,m=k+1:=⟨m - 1,by omega⟩
  rw [Bl,if_pos (Ah h),AU h,AA]
  refine me n pre.length x (hs x (by rw [h]; simp)) _ (2*szl (fun a=>a.ports.length) post+1) x.ports [] acc m rfl (by omega) (fun k hk=>?_) (by omega)
  rw [AN h hl,ih (pre++[x]) _ k (AM h) (by grind [Of]) hk,List.length_append,List.length_singleton,Ei,List.append_assoc]
  rfl
theorem YD (n:Net) (h:n.Small):IT n=some (Ei 0 n.agents):=by
 obtain⟨p,j⟩:=h.agents
 unfold IT
 have:=mf n p j n.agents [] [] fuel rfl (by have:=h.1; grind) (by rw [Af]; have:=h.1; grind)
 grind
def gY (l:List Agent) (p:Port):Bool:=match GV l p with
 |some q=> !Sa l p.agent.toNat p.slot.toNat q
 |none=>true
theorem cg (n:Net) (i k:Nat) (q:Port) (hq:GV n.agents ⟨(i:Int),(k:Int)⟩=some q):HX ⟨(i:Int),(k:Int)⟩ n=some (gY n.agents ⟨(i:Int),(k:Int)⟩):=by
 have j:∀ (p r:Port),GV n.agents p=some r→Cv n p=some r:=fun p r h=>by
  grind [GV,Cv]
 grind [HX,gY,cf,Sa,Int.toNat_natCast]
theorem YE (l:List Port) (f:Port→Option Bool) (p:Port→Bool) (hl:l.length≤Big) (hf:∀x ∈ l,f x=some (p x)):Ba l f=some (l.any p):=by
 obtain⟨i,h1,h2,-⟩:=Lg Au (fun n l i f=>by rw [Au]) l f p hl hf
 grind [Ba,C6]
theorem eH {l pre post:List Agent} {x:Agent} {ppre ppost:List Port} {p:Port} (h:l=pre++x::post) (hx:x.ports=ppre++p::ppost):GV l ⟨(pre.length:Int),(ppre.length:Int)⟩=some p:=by
 unfold GV
 rw [AU h,Option.bind_some,AU hx]
theorem XM {l pre post:List Agent} {x:Agent} (h:l=pre++x::post):∀ (ps ppre:List Port),x.ports=ppre++ps→(Ib pre.length ppre.length ps).any (gY l)= !GI l pre.length ppre.length ps
 | [],_,_=>by rfl
 |p::ps,ppre,hx=>by
  have:=XM h ps (ppre++[p]) (AM hx)
  rw [List.length_append,List.length_singleton] at this
  rw [Ib,GI,List.any_cons,this,gY,eH h hx]
  simp
theorem XN {l pre post:List Agent} {x:Agent} (h:l=pre++x::post):∀ (ps ppre:List Port),x.ports=ppre++ps→∀y ∈ Ib pre.length ppre.length ps,∃ (i k:Nat) (q:Port),y=⟨(i:Int),(k:Int)⟩∧GV l ⟨(i:Int),(k:Int)⟩=some q
 | [],_,_,y,hy=>by grind [Ib]
 |p::ps,ppre,hx,y,hy=>by
  rw [Ib,List.mem_cons] at hy
  rcases hy with rfl|hy
  ·exact⟨_,_,p,rfl,eH h hx⟩
  ·exact XN h ps (ppre++[p]) (AM hx) y (by rw [List.length_append,List.length_singleton]; exact hy)
theorem eI {l:List Agent}:∀ (post pre:List Agent),l=pre++post→(Ei pre.length post).any (gY l)= !Dp l pre.length post
 | [],_,_=>by rfl
 |x::post,pre,h=>by
  have h1:=eI post (pre++[x]) (AM h)
  rw [List.length_append,List.length_singleton] at h1
  grind [XM,List.length_nil,Ei,Dp]
theorem eJ {l:List Agent}:∀ (post pre:List Agent),l=pre++post→∀y ∈ Ei pre.length post,∃ (i k:Nat) (q:Port),y=⟨(i:Int),(k:Int)⟩∧GV l ⟨(i:Int),(k:Int)⟩=some q
 | [],_,_,y,hy=>by grind [Ei]
 |x::post,pre,h,y,hy=>by
  rw [Ei,List.mem_append] at hy
  rcases hy with hy|hy
  ·exact XN h x.ports [] rfl y hy
  ·exact eJ post (pre++[x]) (AM h) y (by rw [List.length_append,List.length_singleton]; exact hy)
theorem eF (n:Net) (h:n.Small):EJ n=some n.valid:=by
 obtain⟨p,j⟩:=h.agents
 unfold EJ Net.valid
 rw [cd _ p j,AA,YD n h,AA,YE _ _ (gY n.agents) (Nat.le_trans (QC _ _) h.1) (fun y hy=>by
  obtain⟨i,k,q,rfl,u⟩:=eJ n.agents [] rfl y hy
  grind [cg]),AA]
 have:=eI (l:=n.agents) n.agents [] rfl
 rw [List.length_nil] at this
 rw [this]
 cases agentsB n.agents <;> simp
end Go.Proofs.YtjnifengdhcojaaGreatDoor.Ab
