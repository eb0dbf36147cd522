/-
  Loops of one kind, each once: sizes, copies, comparisons. No program is in sight.
-/
import Derived.Test.YtjdinbgcgbigoaaGreatPlH
namespace Go.Proofs.YtjdinbgcgbigoaaGreat.Ab
set_option linter.unusedVariables false
set_option linter.unusedSimpArgs false
open Go.RowKit
def szl {α : Type} (s : α → Nat) : List α → Nat
 | [] => 0
 | x :: l => 1 + s x + szl s l
def Tells (o : Option Bool) (p : Prop) : Prop := ∃ b, o = some b ∧ (b = true ↔ p)
theorem Tells.mk {b : Bool} {p : Prop} (h : b = true ↔ p) : Tells (some b) p := ⟨b, rfl, h⟩
theorem Tells.true {o : Option Bool} {p : Prop} (h : Tells o p) (hp : p) : o = some true := by
 obtain ⟨b, rfl, h1⟩ := h
 rw [h1.2 hp]
def strSz : List ByteArray → Nat
 | [] => 0
 | s :: l => s.size + strSz l
theorem sameStr_self (s : ByteArray) : sameStr s s = true := by unfold sameStr; simp
theorem law_sz {k : Int → Option Bool} {z left : Nat} {X : Option Int} (hX : X = some (szr z left)) (hk : z ≤ left → k ((left - z : Nat) : Int) = some true) :
  (Option.bind X fun v => if decide (v < 0) = true then some true else k v) = some true := by
 rw [hX, bind_some', szr_neg]
 by_cases h : left < z
 ·rw [if_pos (by simpa using h)]
 ·rw [if_neg (by simpa using h), szr_le (by omega), hk (by omega)]
theorem toCore_e (c : Core) (h : c.sz ≤ Big) : l_toCore fuel c = some c := toCore_eq c (Core.small_of c h) fuel (by have := Core.nodes_le c; rw [fuel_eq]; unfold Big at h; omega)
theorem eqCore_e (c : Core) (h : c.sz ≤ Big) : l_eqCore fuel c c = some true := eqCore_eq c (Core.small_of c h) fuel (by have := Core.nodes_le c; rw [fuel_eq]; unfold Big at h; omega)
theorem toCoreS_e (l : List Core) (h : Core.szs l ≤ Big) : l_toCoreS fuel l = some l :=
 toCoreS_eq l (by have := Core.len_szs l; omega) (fun x hx => Core.small_of x (by have := Core.szs_mem hx; omega)) fuel (by have := Core.nodess_le l; rw [fuel_eq]; unfold Big at h; omega)
theorem eqCoreS_e (l : List Core) (h : Core.szs l ≤ Big) : l_eqCoreS fuel l l = some true :=
 eqCoreS_eq l (by have := Core.len_szs l; omega) (fun x hx => Core.small_of x (by have := Core.szs_mem hx; omega)) fuel (by have := Core.nodess_le l; rw [fuel_eq]; unfold Big at h; omega)
end Go.Proofs.YtjdinbgcgbigoaaGreat.Ab
