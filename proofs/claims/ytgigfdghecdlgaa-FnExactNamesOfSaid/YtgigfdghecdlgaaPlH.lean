/-
  What the laws' helpers give: sizes, copies, comparisons. No program is in sight.
-/
import Derived.Test.YtgigfdghecdlgaaPl
import Derived.Test.YtgigfdghecdlgaaModN
namespace Go.Proofs.Ytgigfdghecdlgaa.Ab
set_option linter.unusedVariables false
set_option linter.unusedSimpArgs false
open Go.RowKit
def szr (z left:Nat):Int:=if z≤left then ((left - z:Nat):Int) else -1
theorem HE {z left:Nat}:decide (szr z left<0)=decide (left<z):=by
 unfold szr
 by_cases h:z≤left
 ·rw [if_pos h]; simp; omega
 ·rw [if_neg h]; simp; omega
theorem Gs {z left:Nat} (h:z≤left):szr z left=((left - z:Nat):Int):=if_pos h
theorem EM {z left:Nat} (h:left<z):szr z left= -1:=if_neg (by omega)
theorem Jj {n left:Nat} (h1:left≤1048576) (h2:n≤9223372036854775807):IntKind.i64.wrap ((left:Int) - (n:Int))=(left:Int) - n:=w64 (by omega) (by omega)
theorem OF (l:List Int) (left:Nat) (h1:left≤1048576) (h2:l.length≤9223372036854775807):E6 l left=some (szr l.length left):=by
 unfold E6
 rw [Jj h1 h2]
 by_cases h:l.length≤left
 ·rw [if_neg (by simp; omega),Gs h]; congr 1; omega
 ·rw [if_pos (by simp; omega),EM (by omega)]
mutual
def Core.sz:Core→Nat
 |⟨_,_,d,ks⟩=>d.length+Core.szs ks
def Core.szs:List Core→Nat
 | [] =>0
 |c::cs=>1+Core.sz c+Core.szs cs
end
theorem Core.sz_eq (c:Core):c.sz=c.data.length+Core.szs c.kids:=by cases c; rw [Core.sz]
mutual
def Core.nodes:Core→Nat
 |⟨_,_,_,ks⟩=>1+Core.nodess ks
def Core.nodess:List Core→Nat
 | [] =>0
 |c::cs=>Core.nodes c+Core.nodess cs
end
theorem Core.nodes_eq (c:Core):c.nodes=1+Core.nodess c.kids:=by cases c; rw [Core.nodes]
theorem Core.nodes_pos (c:Core):1≤c.nodes:=by rw [Core.nodes_eq]; omega
mutual
theorem Core.nodes_le:∀c:Core,c.nodes≤1+c.sz
 |⟨k,v,d,ks⟩=>by rw [Core.nodes,Core.sz]; have:=Core.nodess_le ks; omega
theorem Core.nodess_le:∀l:List Core,Core.nodess l≤Core.szs l
 | [] =>by simp [Core.nodess,Core.szs]
 |c::cs=>by rw [Core.nodess,Core.szs]; have:=Core.nodes_le c; have:=Core.nodess_le cs; omega
end
theorem Core.len_szs:∀l:List Core,l.length≤Core.szs l
 | [] =>by simp
 |c::cs=>by rw [Core.szs,List.length_cons]; have:=Core.len_szs cs; omega
theorem Core.ind {P:Core→Prop} (h:∀c:Core,(∀k ∈ c.kids,P k)→P c):∀c,P c:=by
 suffices ∀n (c:Core),c.nodes≤n→P c from fun c=>this _ c (Nat.le_refl _)
 intro n
 induction n with
 |zero=>intro c hc; have:=Core.nodes_pos c; omega
 | succ n ih=>
  intro c hc
  refine h c fun k hk=>ih k ?_
  rw [Core.nodes_eq] at hc
  have key:∀l:List Core,k ∈ l→k.nodes≤Core.nodess l:=by
   intro l
   induction l with
   |nil=>intro h; cases h
   |cons x xs ih=>
    intro h
    rw [Core.nodess]
    rcases List.mem_cons.1 h with rfl|h
    ·omega
    ·have:=ih h; omega
  have:=key _ hk
  omega
inductive Core.Fits:Core→Prop where
 |mk (c:Core) (hd:c.data.length≤9223372036854775807) (hk:c.kids.length≤9223372036854775807) (h:∀k ∈ c.kids,Core.Fits k):Core.Fits c
theorem PO (l:List Core) (hk:l.length≤9223372036854775807) (ih:∀x ∈ l,∀ (left n:Nat),left≤1048576→4*left+4≤n→Dl n x left=some (szr x.sz left))
  (left n:Nat) (h1:left≤1048576) (hn:4*left+3≤n):Ed n l left=some (szr (Core.szs l) left):=by
 obtain⟨n,rfl⟩:∃m,n=m+1:=⟨n - 1,by omega⟩
 rw [Ed,Jj h1 hk]
 have hlen:=Core.len_szs l
 by_cases h3:left<l.length
 ·rw [if_pos (by simp; omega),EM (by omega)]
 ·rw [if_neg (by simp; omega)]
  have loop:∀ (post pre:List Core) (n l3:Nat),l=pre++post→l3+l.length≤left→1≤n→(post.length≠0→4*l3+4+post.length+1≤n)→B8 n l l3 ((List.length pre:Nat):Int)=some (szr (Core.szs post - post.length) l3):=by
   intro post
   induction post with
   |nil=>
    intro pre n l3 h _ hn _
    obtain⟨n,rfl⟩:∃m,n=m+1:=⟨n - 1,by omega⟩
    rw [B8,Bz h]
    simp [Core.szs,szr]
   | cons x post ihp=>
    intro pre n l3 h h4 hn1 hn
    obtain⟨n,rfl⟩:∃m,n=m+1:=⟨n - 1,by omega⟩
    have hx:x ∈ l:=by rw [h]; simp
    rw [List.length_cons] at hn
    have hn:=hn (by omega)
    rw [B8,if_pos (BW h),BX h,AA,ih x hx l3 n (by omega) (by omega),AA,HE,Core.szs,List.length_cons]
    have hp:=Core.len_szs post
    by_cases h5:l3<x.sz
    ·rw [if_pos (by simpa using h5),EM (by omega)]
    ·rw [if_neg (by simpa using h5),Gs (by omega),Al h (by unfold Big; omega),ihp (pre++[x]) n (l3 - x.sz) (Am h) (by omega) (by omega) (by omega)]
     congr 1
     unfold szr
     by_cases h6:Core.szs post - post.length≤l3 - x.sz
     ·rw [if_pos h6,if_pos (by omega)]; congr 1; omega
     ·rw [if_neg h6,if_neg (by omega)]
  have:=loop l [] n (left - l.length) (by simp) (by omega) (by omega) (by omega)
  rw [show ((left:Int) - (l.length:Int))=((left - l.length:Nat):Int) from by omega]
  rw [show (0:Int)=((List.length ([] :List Core):Nat):Int) from rfl,this]
  congr 1
  unfold szr
  by_cases h6:Core.szs l≤left
  ·rw [if_pos h6,if_pos (by omega)]; congr 1; omega
  ·rw [if_neg h6,if_neg (by omega)]
theorem RN:∀ (c:Core),c.Fits→∀ (left n:Nat),left≤1048576→4*left+4≤n→Dl n c left=some (szr c.sz left):=by
 refine Core.ind fun c ih hf left n h1 hn=>?_
 obtain⟨_,hd,hk,hf⟩:=hf
 obtain⟨n,rfl⟩:∃m,n=m+1:=⟨n - 1,by omega⟩
 rw [Dl,OF _ _ h1 hd,AA,HE,Core.sz_eq]
 by_cases h2:left<c.data.length
 ·rw [if_pos (by simpa using h2),EM (by omega)]
 ·rw [if_neg (by simpa using h2),Gs (by omega)]
  generalize hl2:left - c.data.length=left2
  rw [PO c.kids hk (fun x hx=>ih x hx (hf x hx)) left2 n (by omega) (by omega),AA,HE]
  by_cases h7:left2<Core.szs c.kids
  ·rw [if_pos (by simpa using h7),EM (by omega)]
  ·rw [if_neg (by simpa using h7)]
   congr 1
   unfold szr
   rw [if_pos (by omega),if_pos (by omega)]; congr 1; omega
theorem LC (l:List Int) (hl:l.length≤Big):∀ (post pre:List Int) (n:Nat),l=pre++post→post.length<n→Bn n l (pre++List.replicate post.length 0) ((List.length pre:Nat):Int)=some l:=by
 intro post
 induction post with
 |nil=>
  intro pre n h hn
  obtain⟨n,rfl⟩:∃m,n=m+1:=⟨n - 1,by omega⟩
  rw [Bn,Bz h]; simp [h]
 |cons x post ih=>
  intro pre n h hn
  obtain⟨n,rfl⟩:∃m,n=m+1:=⟨n - 1,by omega⟩
  rw [Bn,if_pos (BW h),BX h,AA,List.length_cons,PM,AA,Kq,AA,Al h hl]
  exact ih (pre++[x]) n (Am h) (by simp at hn; omega)
theorem OG (l:List Int) (hl:l.length≤Big):E7 l=some l:=by
 unfold E7
 rw [PL hl,AA]
 exact LC l hl l [] fuel (by simp) (by rw [B5]; unfold Big at hl; omega)
theorem PP (l:List Core) (hl:l.length≤Big) (ih:∀x ∈ l,∀n,4*x.nodes≤n→DE n x=some x) (n:Nat) (hn:4*Core.nodess l+2≤n):Ee n l=some l:=by
 obtain⟨n,rfl⟩:∃m,n=m+1:=⟨n - 1,by omega⟩
 rw [Ee,PL hl,AA]
 have loop:∀ (post pre:List Core) (n:Nat),l=pre++post→4*Core.nodess post+1≤n→B9 n l (pre++List.replicate post.length ⟨0,0,[],[]⟩) ((List.length pre:Nat):Int)=some l:=by
  intro post
  induction post with
  |nil=>
   intro pre n h hn
   obtain⟨n,rfl⟩:∃m,n=m+1:=⟨n - 1,by omega⟩
   rw [B9,Bz h]; simp [h]
  |cons x post ihp=>
   intro pre n h hn
   rw [Core.nodess] at hn
   have:=x.nodes_pos
   obtain⟨n,rfl⟩:∃m,n=m+1:=⟨n - 1,by omega⟩
   have hx:x ∈ l:=by rw [h]; simp
   rw [B9,if_pos (BW h),BX h,AA,ih x hx n (by omega),AA,List.length_cons,PM,AA,Kq,AA,Al h hl]
   exact ihp (pre++[x]) n (Am h) (by omega)
 exact loop l [] n (by simp) (by omega)
inductive Core.Small:Core→Prop where
 |mk (c:Core) (hd:c.data.length≤Big) (hk:c.kids.length≤Big) (h:∀k ∈ c.kids,Core.Small k):Core.Small c
theorem Core.szs_mem {x:Core}:∀ {l:List Core},x ∈ l→x.sz≤Core.szs l
 |c::cs,h=>by
  rw [Core.szs]
  rcases List.mem_cons.1 h with rfl|h
  ·omega
  ·have:=Core.szs_mem h; omega
theorem Core.small_of:∀ (c:Core),c.sz≤Big→c.Small:=by
 refine Core.ind fun c ih h=>?_
 rw [Core.sz_eq] at h
 have:=Core.len_szs c.kids
 exact⟨c,by omega,by omega,fun k hk=>ih k hk (by have:=Core.szs_mem hk; omega)⟩
theorem RL:∀ (c:Core),c.Small→∀n,4*c.nodes≤n→DE n c=some c:=by
 refine Core.ind fun c ih hs n hn=>?_
 obtain⟨_,hd,hk,hf⟩:=hs
 rw [Core.nodes_eq] at hn
 obtain⟨n,rfl⟩:∃m,n=m+1:=⟨n - 1,by omega⟩
 rw [DE,OG _ hd,AA,PP c.kids hk (fun x hx=>ih x hx (hf x hx)) n (by omega),AA]
 cases c; rfl
theorem OH (l:List Int) (hl:l.length≤Big):E8 l l=some true:=by
 unfold E8
 rw [if_neg (by simp)]
 have loop:∀ (post pre:List Int) (n:Nat),l=pre++post→post.length<n→Bo n l l ((List.length pre:Nat):Int)=some true:=by
  intro post
  induction post with
  |nil=>
   intro pre n h hn
   obtain⟨n,rfl⟩:∃m,n=m+1:=⟨n - 1,by omega⟩
   rw [Bo,Bz h]; rfl
  |cons x post ih=>
   intro pre n h hn
   obtain⟨n,rfl⟩:∃m,n=m+1:=⟨n - 1,by omega⟩
   rw [Bo,if_pos (BW h),BX h,AA,AA,if_neg (by simp),Al h hl]
   exact ih (pre++[x]) n (Am h) (by simp at hn; omega)
 exact loop l [] fuel (by simp) (by rw [B5]; unfold Big at hl; omega)
theorem PQ (l:List Core) (hl:l.length≤Big) (ih:∀x ∈ l,∀n,4*x.nodes≤n→DF n x x=some true) (n:Nat) (hn:4*Core.nodess l+2≤n):Ef n l l=some true:=by
 obtain⟨n,rfl⟩:∃m,n=m+1:=⟨n - 1,by omega⟩
 rw [Ef,if_neg (by simp)]
 have loop:∀ (post pre:List Core) (n:Nat),l=pre++post→4*Core.nodess post+1≤n→CB n l l ((List.length pre:Nat):Int)=some true:=by
  intro post
  induction post with
  |nil=>
   intro pre n h hn
   obtain⟨n,rfl⟩:∃m,n=m+1:=⟨n - 1,by omega⟩
   rw [CB,Bz h]; rfl
  |cons x post ihp=>
   intro pre n h hn
   rw [Core.nodess] at hn
   have:=x.nodes_pos
   obtain⟨n,rfl⟩:∃m,n=m+1:=⟨n - 1,by omega⟩
   have hx:x ∈ l:=by rw [h]; simp
   rw [CB,if_pos (BW h),BX h,AA,AA,ih x hx n (by omega),AA,if_neg (by simp),Al h hl]
   exact ihp (pre++[x]) n (Am h) (by omega)
 exact loop l [] n (by simp) (by omega)
theorem RM:∀ (c:Core),c.Small→∀n,4*c.nodes≤n→DF n c c=some true:=by
 refine Core.ind fun c ih hs n hn=>?_
 obtain⟨_,hd,hk,hf⟩:=hs
 rw [Core.nodes_eq] at hn
 obtain⟨n,rfl⟩:∃m,n=m+1:=⟨n - 1,by omega⟩
 rw [DF,if_neg (by simp),if_neg (by simp),OH _ hd,AA,if_neg (by simp),PQ c.kids hk (fun x hx=>ih x hx (hf x hx)) n (by omega),AA]
 rfl
end Go.Proofs.Ytgigfdghecdlgaa.Ab
