/-
  Loops of one kind, each once: sizes, copies, comparisons. No program is in sight.
-/
import Derived.Test.YtijdanbelnmmlaaPlH
namespace Go.Proofs.Ytijdanbelnmmlaa.Ab
set_option linter.unusedVariables false
set_option linter.unusedSimpArgs false
open Go.RowKit
def szl {α:Type} (s:α→Nat):List α→Nat
 | [] =>0
 |x::l=>1+s x+szl s l
def Di (o:Option Bool) (p:Prop):Prop:=∃b,o=some b∧(b=true↔p)
theorem Di.mk {b:Bool} {p:Prop} (h:b=true↔p):Di (some b) p:=⟨b,rfl,h⟩
theorem Di.iff {o:Option Bool} {p q:Prop} (h:Di o p) (hpq:p↔q):Di o q:=by
 obtain⟨b,h1,h2⟩:=h
 exact⟨b,h1,h2.trans hpq⟩
theorem Di.true {o:Option Bool} {p:Prop} (h:Di o p) (hp:p):o=some true:=by
 obtain⟨b,rfl,h1⟩:=h
 rw [h1.2 hp]
theorem Mp {b:Bool} {X:Option Bool} {p q:Prop} (h:b=true↔p) (hX:p→Di X q):Di (if (!b)=true then some false else X) (p∧q):=by
 cases b with
 |true=>have hp:=h.1 rfl; exact((hX hp).iff ⟨fun k=>⟨hp,k⟩,fun k=>k.2⟩)
 |false=>exact⟨false,rfl,⟨fun k=>Bool.noConfusion k,fun k=>h.2 k.1⟩⟩
theorem Pt {o:Option Bool} {k:Bool→Option Bool} {p r:Prop} (h:Di o p) (hk:∀b,(b=true↔p)→Di (k b) r):Di (Option.bind o k) r:=by
 obtain⟨b,rfl,h1⟩:=h
 exact hk b h1
theorem LW {o:Option Bool} {X:Option Bool} {p q:Prop} (h:Di o p) (hX:p→Di X q):Di (Option.bind o fun b=>if (!b)=true then some false else X) (p∧q):=
 Pt h fun b hb=>Mp hb hX
theorem QY {p:Prop} [Decidable p] :decide p=true↔p:=decide_eq_true_iff
theorem VP {α β:Type} {l:List α} {m:List β}:decide (((List.length l:Nat):Int)=((List.length m:Nat):Int))=true↔l.length=m.length:=by
 rw [decide_eq_true_iff]; omega
theorem gEq {α:Type} (L:Nat→Int→Option Bool) (f:α→α→Option Bool) (l m:List α) (hL:∀n i,L (n+1) i=(if (decide (i<((List.length l:Nat):Int)))=true then (Option.bind (at? l i) fun x=>(Option.bind (at? m i) fun y=>(Option.bind (f x y) fun v=>(if (!v)=true then (some false) else (L n (IntKind.i64.wrap (i+1))))))) else (some true)))
  (hl:l.length≤Big) (hlen:l.length=m.length) (hf:∀x ∈ l,∀y ∈ m,Di (f x y) (x=y)):Di (L fuel 0) (l=m):=by
 have loop:∀ (post post' pre pre':List α) (n:Nat),l=pre++post→m=pre'++post'→pre.length=pre'.length→post.length<n→Di (L n ((List.length pre:Nat):Int)) (post=post'):=by
  intro post
  induction post with
  |nil=>
   intro post' pre pre' n h h' hpp hn
   obtain⟨n,rfl⟩:∃m,n=m+1:=⟨n - 1,by omega⟩
   rw [hL,DD h]
   obtain rfl:post'=[] :=List.eq_nil_of_length_eq_zero (by rw [h,h'] at hlen; simp at hlen; omega)
   exact .mk (by simp)
  | cons x post ih=>
   intro post' pre pre' n h h' hpp hn
   obtain⟨n,rfl⟩:∃m,n=m+1:=⟨n - 1,by omega⟩
   cases post' with
   |nil=>rw [h,h'] at hlen; simp at hlen; omega
   |cons y post'=>
    rw [hL,if_pos (C2 h),CP h,AA,hpp,CP h',AA,← hpp,Be h hl]
    refine(LW (hf x (by rw [h]; simp) y (by rw [h']; simp)) fun _=>ih post' (pre++[x]) (pre'++[y]) n (BU h) (BU h') (by simp [hpp]) (by simp at hn; omega)).iff ?_
    simp
 exact loop l m [] [] fuel (by simp) (by simp) rfl (by rw [A7]; unfold Big at hl; omega)
theorem ZX {α:Type} (L:Nat→Int→Option Bool) (f:α→α→Option Bool) (l m:List α) (hL:∀n i,L (n+1) i=(if (decide (i<((List.length l:Nat):Int)))=true then (Option.bind (at? l i) fun x=>(Option.bind (at? m i) fun y=>(Option.bind (f x y) fun v=>(if (!v)=true then (some false) else (L n (IntKind.i64.wrap (i+1))))))) else (some true)))
  (hl:l.length≤Big) (hf:∀x ∈ l,∀y ∈ m,Di (f x y) (x=y)):Di (if (!decide (((List.length l:Nat):Int)=((List.length m:Nat):Int)))=true then some false else L fuel 0) (l=m):=
 (Mp VP fun h=>gEq L f l m hL hl h hf).iff ⟨fun h=>h.2,fun h=>⟨by rw [h],h⟩⟩
theorem NX (s:ByteArray):GW s s=true:=by unfold GW; simp
theorem Rk (l:List Core) (h:Core.szs l≤Big):DM fuel l l=some true:=
 Pu l (by have:=Core.len_szs l; omega) (fun x hx=>Core.small_of x (by have:=Core.szs_mem hx; omega)) fuel (by have:=Core.nodess_le l; rw [A7]; unfold Big at h; omega)
end Go.Proofs.Ytijdanbelnmmlaa.Ab
