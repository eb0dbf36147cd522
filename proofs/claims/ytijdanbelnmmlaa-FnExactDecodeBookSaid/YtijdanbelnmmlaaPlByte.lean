/-
  Slices of bytes: compared, marked, found again. No program is in sight.
-/
import Derived.Test.YtijdanbelnmmlaaPlG
import Derived.Test.YtijdanbelnmmlaaPlBook
import Derived.Test.YtijdanbelnmmlaaModC
namespace Go.Proofs.Ytijdanbelnmmlaa.Ab
set_option linter.unusedVariables false
set_option linter.unusedSimpArgs false
open Go.RowKit
def mkBy:Nat→Int→Int:=fun k _=>IntKind.u8.wrap (k:Int)
theorem Lx (l m:List Int) (hl:l.length≤Big):Di (FF l m) (l=m):=by
 unfold FF
 exact ZX (fun n i=>DC n l m i) (fun x y=>some (decide (x=y))) l m (fun n i=>by rw [DC]; rfl) hl fun x _ y _=>.mk QY
theorem NP (l:List Int) (k:Nat) (h:l.length≤Big) (hk:k+cnts one l≤KB):EB l (k:Int)=some (((k+cnts one l:Nat):Int),mks mkBy one k l):=by
 unfold EB
 refine Vr (fun n l k i=>Bv n l k i) mkBy one (fun _=>True) ?_ ?_ l k (fun _ _=>trivial) h hk
 ·intro n pre post x k hx hk hp
  have e:k+one x=k+1:=by rfl
  rw [e] at hk ⊢
  rw [Bv,if_pos LQ]
  simp (disch:=omega) only [LP,NK,AA,wk,HN]
  rfl
 ·intro n l k; rw [Bv,if_neg (by rw [LR]; decide)]
theorem NQ (l:List Int) (hl:l.length≤Big):∀ (post pre:List Int) (n:Nat),l=pre++post→post.length<n→Cj n l (pre++List.replicate post.length (0:Int)) ((List.length pre:Nat):Int)=some l:=by
 intro post
 induction post with
 |nil=>
  intro pre n h hn
  obtain⟨n,rfl⟩:∃m,n=m+1:=⟨n - 1,by omega⟩
  rw [Cj,DD h]; simp [h]
 |cons x post ih=>
  intro pre n h hn
  rw [List.length_cons] at hn
  obtain⟨n,rfl⟩:∃m,n=m+1:=⟨n - 1,by omega⟩
  rw [Cj,if_pos (C2 h),CP h,AA,List.length_cons,Wz,AA,Og,AA,Be h hl]
  exact ih (pre++[x]) n (BU h) (by omega)
theorem Pn (l:List Int) (hl:l.length≤Big):Dd l=some l:=by
 unfold Dd
 rw [Wy hl,AA]
 exact NQ l hl l [] fuel (by simp) (by rw [A7]; unfold Big at hl; omega)
end Go.Proofs.Ytijdanbelnmmlaa.Ab
