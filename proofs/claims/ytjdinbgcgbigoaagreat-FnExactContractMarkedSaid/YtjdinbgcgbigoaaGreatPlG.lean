/-
  Loops of one kind,each once: sizes,copies,comparisons. No program is in sight.
-/
import Derived.Test.YtjdinbgcgbigoaaGreatPlH
namespace Go.Proofs.YtjdinbgcgbigoaaGreat.Ab
set_option linter.unusedVariables false
set_option linter.unusedSimpArgs false
open Go.RowKit
def szl {α : Type} (s : α → Nat) : List α → Nat
 | [] => 0
 | x :: l => 1 + s x + szl s l
def Tells (o : Option Bool) (p : Prop) : Prop := ∃ b,o = some b ∧ (b = true ↔ p)
theorem Tells.mk {b : Bool} {p : Prop} (h : b = true ↔ p) : Tells (some b) p := ⟨b,rfl,h⟩
theorem Tells.iff {o : Option Bool} {p q : Prop} (h : Tells o p) (hpq : p ↔ q) : Tells o q := by
 obtain ⟨b,h1,h2⟩ := h
 exact ⟨b,h1,h2.trans hpq⟩
theorem Tells.true {o : Option Bool} {p : Prop} (h : Tells o p) (hp : p) : o = some true := by
 obtain ⟨b,rfl,h1⟩ := h
 rw [h1.2 hp]
theorem tells_ifn {b : Bool} {X : Option Bool} {p q : Prop} (h : b = true ↔ p) (hX : p → Tells X q) : Tells (if (!b) = true then some false else X) (p ∧ q) := by
 cases b with
 | true => have hp := h.1 rfl; exact ((hX hp).iff ⟨fun k => ⟨hp,k⟩,fun k => k.2⟩)
 | false => exact ⟨false,rfl,⟨fun k => Bool.noConfusion k,fun k => h.2 k.1⟩⟩
theorem tells_bind {o : Option Bool} {k : Bool → Option Bool} {p r : Prop} (h : Tells o p) (hk : ∀ b,(b = true ↔ p) → Tells (k b) r) : Tells (Option.bind o k) r := by
 obtain ⟨b,rfl,h1⟩ := h
 exact hk b h1
theorem tells_bind_ifn {o : Option Bool} {X : Option Bool} {p q : Prop} (h : Tells o p) (hX : p → Tells X q) : Tells (Option.bind o fun b => if (!b) = true then some false else X) (p ∧ q) :=
 tells_bind h fun b hb => tells_ifn hb hX
theorem dec_iff {p : Prop} [Decidable p] : decide p = true ↔ p := decide_eq_true_iff
theorem len_iff {α β : Type} {l : List α} {m : List β} : decide (((List.length l : Nat) : Int) = ((List.length m : Nat) : Int)) = true ↔ l.length = m.length := by
 rw [decide_eq_true_iff]; omega
theorem gEq {α : Type} (L : Nat → Int → Option Bool) (f : α → α → Option Bool) (l m : List α) (hL : ∀ n i,L (n + 1) i = (if (decide (i < ((List.length l : Nat) : Int))) = true then (Option.bind (at? l i) fun x => (Option.bind (at? m i) fun y => (Option.bind (f x y) fun v => (if (!v) = true then (some false) else (L n (IntKind.i64.wrap (i + 1))))))) else (some true)))
  (hl : l.length ≤ Big) (hlen : l.length = m.length) (hf : ∀ x ∈ l,∀ y ∈ m,Tells (f x y) (x = y)) : Tells (L fuel 0) (l = m) := by
 have loop : ∀ (post post' pre pre' : List α) (n : Nat),l = pre ++ post → m = pre' ++ post' → pre.length = pre'.length → post.length < n → Tells (L n ((List.length pre : Nat) : Int)) (post = post') := by
  intro post
  induction post with
  | nil =>
   intro post' pre pre' n h h' hpp hn
   obtain ⟨n,rfl⟩ : ∃ m,n = m + 1 := ⟨n - 1,by omega⟩
   rw [hL,ge_app h]
   obtain rfl : post' = [] := List.eq_nil_of_length_eq_zero (by rw [h,h'] at hlen; simp at hlen; omega)
   exact .mk (by simp)
  | cons x post ih =>
   intro post' pre pre' n h h' hpp hn
   obtain ⟨n,rfl⟩ : ∃ m,n = m + 1 := ⟨n - 1,by omega⟩
   cases post' with
   | nil => rw [h,h'] at hlen; simp at hlen; omega
   | cons y post' =>
    rw [hL,if_pos (lt_app h),at_app h,bind_some',hpp,at_app h',bind_some',← hpp,wrap_app h hl]
    refine (tells_bind_ifn (hf x (by rw [h]; simp) y (by rw [h']; simp)) fun _ => ih post' (pre ++ [x]) (pre' ++ [y]) n (next_app h) (next_app h') (by simp [hpp]) (by simp at hn; omega)).iff ?_
    simp
 exact loop l m [] [] fuel (by simp) (by simp) rfl (by rw [fuel_eq]; unfold Big at hl; omega)
theorem gEqS {α : Type} (L : Nat → Int → Option Bool) (f : α → α → Option Bool) (l m : List α) (hL : ∀ n i,L (n + 1) i = (if (decide (i < ((List.length l : Nat) : Int))) = true then (Option.bind (at? l i) fun x => (Option.bind (at? m i) fun y => (Option.bind (f x y) fun v => (if (!v) = true then (some false) else (L n (IntKind.i64.wrap (i + 1))))))) else (some true)))
  (hl : l.length ≤ Big) (hf : ∀ x ∈ l,∀ y ∈ m,Tells (f x y) (x = y)) : Tells (if (!decide (((List.length l : Nat) : Int) = ((List.length m : Nat) : Int))) = true then some false else L fuel 0) (l = m) :=
 (tells_ifn len_iff fun h => gEq L f l m hL hl h hf).iff ⟨fun h => h.2,fun h => ⟨by rw [h],h⟩⟩
theorem eqInt64S_tells (l m : List Int) (hl : l.length ≤ Big) : Tells (l_eqInt64S l m) (l = m) := by
 unfold l_eqInt64S
 exact gEqS (fun n i => l_eqInt64S_l1 n l m i) (fun x y => some (decide (x = y))) l m (fun n i => by rw [l_eqInt64S_l1]; rfl) hl fun x _ y _ => .mk dec_iff
theorem sameStr_self (s : ByteArray) : sameStr s s = true := by unfold sameStr; simp
theorem law_sz {k : Int → Option Bool} {z left : Nat} {X : Option Int} (hX : X = some (szr z left)) (hk : z ≤ left → k ((left - z : Nat) : Int) = some true) :
  (Option.bind X fun v => if decide (v < 0) = true then some true else k v) = some true := by
 rw [hX,bind_some',szr_neg]
 by_cases h : left < z
 ·rw [if_pos (by simpa using h)]
 ·rw [if_neg (by simpa using h),szr_le (by omega),hk (by omega)]
theorem toCore_e (c : Core) (h : c.sz ≤ Big) : l_toCore fuel c = some c := toCore_eq c (Core.small_of c h) fuel (by have := Core.nodes_le c; rw [fuel_eq]; unfold Big at h; omega)
theorem eqCore_e (c : Core) (h : c.sz ≤ Big) : l_eqCore fuel c c = some true := eqCore_eq c (Core.small_of c h) fuel (by have := Core.nodes_le c; rw [fuel_eq]; unfold Big at h; omega)
theorem toCoreS_e (l : List Core) (h : Core.szs l ≤ Big) : l_toCoreS fuel l = some l :=
 toCoreS_eq l (by have := Core.len_szs l; omega) (fun x hx => Core.small_of x (by have := Core.szs_mem hx; omega)) fuel (by have := Core.nodess_le l; rw [fuel_eq]; unfold Big at h; omega)
theorem eqCoreS_e (l : List Core) (h : Core.szs l ≤ Big) : l_eqCoreS fuel l l = some true :=
 eqCoreS_eq l (by have := Core.len_szs l; omega) (fun x hx => Core.small_of x (by have := Core.szs_mem hx; omega)) fuel (by have := Core.nodess_le l; rw [fuel_eq]; unfold Big at h; omega)
end Go.Proofs.YtjdinbgcgbigoaaGreat.Ab
