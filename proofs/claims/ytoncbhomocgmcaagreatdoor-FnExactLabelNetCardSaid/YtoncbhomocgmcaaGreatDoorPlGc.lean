/-
  What the laws' helpers give: sizes, copies, comparisons. No program is in sight.
-/
import Derived.Test.YtoncbhomocgmcaaGreatDoorPlNet
import Derived.Test.YtoncbhomocgmcaaGreatDoorModC
namespace Go.Proofs.YtoncbhomocgmcaaGreatDoor.Ab
set_option linter.unusedVariables false
set_option linter.unusedSimpArgs false
open Go.RowKit
mutual
def Core.sz:Core→Nat
 |⟨_,_,d,ks⟩=>d.length+Core.szs ks
def Core.szs:List Core→Nat
 | [] =>0
 |c::cs=>1+Core.sz c+Core.szs cs
end
theorem Core.sz_eq (c:Core):c.sz=c.data.length+Core.szs c.kids:=by cases c; rw [Core.sz]
mutual
def Core.nodes:Core→Nat
 |⟨_,_,_,ks⟩=>1+Core.nodess ks
def Core.nodess:List Core→Nat
 | [] =>0
 |c::cs=>Core.nodes c+Core.nodess cs
end
theorem Core.nodes_eq (c:Core):c.nodes=1+Core.nodess c.kids:=by cases c; rw [Core.nodes]
theorem Core.nodes_pos (c:Core):1≤c.nodes:=by rw [Core.nodes_eq]; omega
mutual
theorem Core.nodes_le:∀c:Core,c.nodes≤1+c.sz
 |⟨k,v,d,ks⟩=>by rw [Core.nodes,Core.sz]; have:=Core.nodess_le ks; omega
theorem Core.nodess_le:∀l:List Core,Core.nodess l≤Core.szs l
 | [] =>by simp [Core.nodess,Core.szs]
 |c::cs=>by rw [Core.nodess,Core.szs]; have:=Core.nodes_le c; have:=Core.nodess_le cs; omega
end
theorem Core.len_szs:∀l:List Core,l.length≤Core.szs l
 | [] =>by simp
 |c::cs=>by rw [Core.szs,List.length_cons]; have:=Core.len_szs cs; omega
theorem Core.szs_append (a b:List Core):Core.szs (a++b)=Core.szs a+Core.szs b:=by
 induction a with
 |nil=>simp [Core.szs]
 |cons c cs ih=>rw [List.cons_append,Core.szs,Core.szs,ih]; omega
theorem Core.ind {P:Core→Prop} (h:∀c:Core,(∀k ∈ c.kids,P k)→P c):∀c,P c:=by
 suffices ∀n (c:Core),c.nodes≤n→P c from fun c=>this _ c (Nat.le_refl _)
 intro n
 induction n with
 |zero=>intro c hc; have:=Core.nodes_pos c; omega
 | succ n ih=>
  intro c hc
  refine h c fun k hk=>ih k ?_
  rw [Core.nodes_eq] at hc
  have key:∀l:List Core,k ∈ l→k.nodes≤Core.nodess l:=by
   intro l
   induction l with
   |nil=>intro h; cases h
   |cons x xs ih=>
    intro h
    rw [Core.nodess]
    rcases List.mem_cons.1 h with rfl|h
    ·omega
    ·have:=ih h; omega
  have:=key _ hk
  omega
inductive Core.Fits:Core→Prop where
 |mk (c:Core) (hd:c.data.length≤9223372036854775807) (hk:c.kids.length≤9223372036854775807) (h:∀k ∈ c.kids,Core.Fits k):Core.Fits c
inductive Core.Small:Core→Prop where
 |mk (c:Core) (hd:c.data.length≤Big) (hk:c.kids.length≤Big) (h:∀k ∈ c.kids,Core.Small k):Core.Small c
theorem Core.szs_mem {x:Core}:∀ {l:List Core},x ∈ l→x.sz≤Core.szs l
 |c::cs,h=>by
  rw [Core.szs]
  rcases List.mem_cons.1 h with rfl|h
  ·omega
  ·have:=Core.szs_mem h; omega
theorem Core.small_of:∀ (c:Core),c.sz≤Big→c.Small:=by
 refine Core.ind fun c ih h=>?_
 rw [Core.sz_eq] at h
 have:=Core.len_szs c.kids
 exact⟨c,by omega,by omega,fun k hk=>ih k hk (by have:=Core.szs_mem hk; omega)⟩
theorem Tk (l:List Core) (hl:l.length≤Big) (ih:∀x ∈ l,∀n,4*x.nodes≤n→D7 n x x=some true) (n:Nat) (hn:4*Core.nodess l+2≤n):Fh n l l=some true:=by
 obtain⟨n,rfl⟩:∃m,n=m+1:=⟨n - 1,by omega⟩
 rw [Fh,if_neg (by simp)]
 have loop:∀ (post pre:List Core) (n:Nat),l=pre++post→4*Core.nodess post+1≤n→Co n l l (pre.length:Int)=some true:=by
  intro post
  induction post with
  |nil=>
   intro pre n h hn
   obtain⟨n,rfl⟩:∃m,n=m+1:=⟨n - 1,by omega⟩
   rw [Co,Dd h]; rfl
  |cons x post ihp=>
   intro pre n h hn
   rw [Core.nodess] at hn
   have:=x.nodes_pos
   obtain⟨n,rfl⟩:∃m,n=m+1:=⟨n - 1,by omega⟩
   have hx:x ∈ l:=by rw [h]; simp
   rw [Co,if_pos (DS h),Ce h,AA,AA,ih x hx n (by omega),AA,if_neg (by simp),B5 h hl]
   exact ihp (pre++[x]) n (Bd h) (by omega)
 exact loop l [] n (by simp) (by omega)
theorem WB:∀ (c:Core),c.Small→∀n,4*c.nodes≤n→D7 n c c=some true:=by
 refine Core.ind fun c ih hs n hn=>?_
 obtain⟨_,hd,hk,hf⟩:=hs
 rw [Core.nodes_eq] at hn
 obtain⟨n,rfl⟩:∃m,n=m+1:=⟨n - 1,by omega⟩
 rw [D7,if_neg (by simp),if_neg (by simp),SM _ hd,AA,if_neg (by simp),Tk c.kids hk (fun x hx=>ih x hx (hf x hx)) n (by omega),AA]
 rfl
theorem Xv (c:Core) (h:c.sz≤Big):D7 fuel c c=some true:=WB c (Core.small_of c h) fuel (by have:=Core.nodes_le c; rw [BF]; unfold Big at h; omega)
end Go.Proofs.YtoncbhomocgmcaaGreatDoor.Ab
