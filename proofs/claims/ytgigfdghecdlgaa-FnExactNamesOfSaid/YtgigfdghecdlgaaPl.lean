/-
  Plain lemmas for the laws about models: loops over lists, bounded arithmetic. No program is in sight.
-/
import Derived.Test.YtgigfdghecdlgaaAbY
namespace Go.Proofs.Ytgigfdghecdlgaa.Ab
set_option linter.unusedVariables false
set_option linter.unusedSimpArgs false
open Go.RowKit
theorem w64 {n:Int} (h1: -9223372036854775808≤n) (h2:n≤9223372036854775807):IntKind.i64.wrap n=n:=V1 h1 h2
abbrev Big:Nat:=4294967296
theorem Uk {n:Nat} (h:n≤4611686018427387904):n≤fuel:=by rw [B5]; exact h
section
variable {α:Type} {l pre post:List α} {x:α}
theorem BW (h:l=pre++x::post):decide (((List.length pre:Nat):Int)<((List.length l:Nat):Int))=true:=by
 subst h; simp only [List.length_append,List.length_cons,decide_eq_true_eq]; omega
theorem Bz (h:l=pre++[]):decide (((List.length pre:Nat):Int)<((List.length l:Nat):Int))=false:=by
 subst h; simp
theorem BX (h:l=pre++x::post):at? l ((List.length pre:Nat):Int)=some x:=by
 subst h
 unfold at?
 rw [if_pos (by omega)]
 simp
theorem Al (h:l=pre++x::post) (hl:l.length≤Big):IntKind.i64.wrap (((List.length pre:Nat):Int)+1)=((List.length (pre++[x]):Nat):Int):=by
 subst h
 simp only [List.length_append,List.length_cons,List.length_nil,Big] at hl ⊢
 rw [w64 (by omega) (by omega)]
 omega
theorem Am (h:l=pre++x::post):l=(pre++[x])++post:=by rw [h]; simp
theorem Iy {a b:List α} (h:a.length+b.length≤Big):K8 a b=some (a++b):=by
 unfold K8; rw [if_pos (by unfold Big at h; omega)]
theorem PL {z:α} {n:Nat} (h:n≤Big):PI (n:Int) z=some (List.replicate n z):=by
 unfold PI; rw [if_pos (by unfold Big at h; omega)]; simp
theorem Ul {z:α} {k:Nat}:Uf (pre++List.replicate (k+1) z) ((List.length pre:Nat):Int) x=(pre++[x])++List.replicate k z:=by
 unfold Uf
 simp [List.replicate_succ]
theorem Kq {z:α} {k:Nat}:FO (pre++List.replicate (k+1) z) ((List.length pre:Nat):Int) x=some ((pre++[x])++List.replicate k z):=by
 unfold FO; rw [Ul]
theorem PM {z:α} {k:Nat}:at? (pre++List.replicate (k+1) z) ((List.length pre:Nat):Int)=some z:=by
 unfold at?
 rw [if_pos (by omega)]
 simp
end
theorem AA {α β:Type} {a:α} {k:α→Option β}:Option.bind (some a) k=k a:=rfl
end Go.Proofs.Ytgigfdghecdlgaa.Ab
