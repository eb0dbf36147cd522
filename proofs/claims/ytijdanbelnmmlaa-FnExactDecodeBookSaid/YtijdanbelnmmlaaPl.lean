/-
  Plain lemmas for the laws about models: loops over lists, bounded arithmetic. No program is in sight.
-/
import Derived.Test.YtijdanbelnmmlaaAbY
namespace Go.Proofs.Ytijdanbelnmmlaa.Ab
set_option linter.unusedVariables false
set_option linter.unusedSimpArgs false
open Go.RowKit
theorem w64 {n:Int} (h1: -9223372036854775808≤n) (h2:n≤9223372036854775807):IntKind.i64.wrap n=n:=Wi h1 h2
abbrev Big:Nat:=4294967296
theorem VG {n:Nat} (h:n≤4611686018427387904):n≤fuel:=by rw [A7]; exact h
section
variable {α:Type} {l pre post:List α} {x:α}
theorem C2 (h:l=pre++x::post):decide (((List.length pre:Nat):Int)<((List.length l:Nat):Int))=true:=by
 subst h; simp only [List.length_append,List.length_cons,decide_eq_true_eq]; omega
theorem DD (h:l=pre++[]):decide (((List.length pre:Nat):Int)<((List.length l:Nat):Int))=false:=by
 subst h; simp
theorem CP (h:l=pre++x::post):at? l ((List.length pre:Nat):Int)=some x:=by
 subst h
 unfold at?
 rw [if_pos (by omega)]
 simp
theorem Be (h:l=pre++x::post) (hl:l.length≤Big):IntKind.i64.wrap (((List.length pre:Nat):Int)+1)=((List.length (pre++[x]):Nat):Int):=by
 subst h
 simp only [List.length_append,List.length_cons,List.length_nil,Big] at hl ⊢
 rw [w64 (by omega) (by omega)]
 omega
theorem BU (h:l=pre++x::post):l=(pre++[x])++post:=by rw [h]; simp
theorem CS {a b:List α} (h:a.length+b.length≤Big):GX a b=some (a++b):=by
 unfold GX; rw [if_pos (by unfold Big at h; omega)]
theorem Wy {z:α} {n:Nat} (h:n≤Big):TK (n:Int) z=some (List.replicate n z):=by
 unfold TK; rw [if_pos (by unfold Big at h; omega)]; simp
theorem VH {z:α} {k:Nat}:VC (pre++List.replicate (k+1) z) ((List.length pre:Nat):Int) x=(pre++[x])++List.replicate k z:=by
 unfold VC
 simp [List.replicate_succ]
theorem Og {z:α} {k:Nat}:Fq (pre++List.replicate (k+1) z) ((List.length pre:Nat):Int) x=some ((pre++[x])++List.replicate k z):=by
 unfold Fq; rw [VH]
theorem Wz {z:α} {k:Nat}:at? (pre++List.replicate (k+1) z) ((List.length pre:Nat):Int)=some z:=by
 unfold at?
 rw [if_pos (by omega)]
 simp
end
theorem AA {α β:Type} {a:α} {k:α→Option β}:Option.bind (some a) k=k a:=rfl
end Go.Proofs.Ytijdanbelnmmlaa.Ab
