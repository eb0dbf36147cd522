/-
  Results that are marked and found marked again: the loops,each once. No program is in sight.
-/
import Derived.Test.YtjdinbgcgbigoaaGreatPlG
namespace Go.Proofs.YtjdinbgcgbigoaaGreat.Ab
set_option linter.unusedVariables false
set_option linter.unusedSimpArgs false
open Go.RowKit
section
variable {α : Type} {pre post : List α} {x y : α}
theorem at_mid : at? (pre ++ x :: post) ((List.length pre : Nat) : Int) = some x := at_app rfl
theorem lt_mid : decide (((List.length pre : Nat) : Int) < ((List.length (pre ++ x :: post) : Nat) : Int)) = true := lt_app rfl
theorem set_mid : set1? (pre ++ x :: post) ((List.length pre : Nat) : Int) y = some (pre ++ y :: post) := by
 unfold set1? set?
 simp
theorem wrap_len (h : pre.length < Big) : IntKind.i64.wrap (((List.length pre : Nat) : Int) + 1) = ((List.length pre + 1 : Nat) : Int) := by
 unfold Big at h
 rw [w64 (by omega) (by omega)]
 omega
theorem ge_len {l : List α} : decide (((List.length l : Nat) : Int) < ((List.length l : Nat) : Int)) = false := by simp
end
abbrev KB : Nat := 4611686018427387904
theorem wk {k : Nat} (h : k + 1 ≤ KB) : IntKind.i64.wrap ((k : Int) + 1) = ((k + 1 : Nat) : Int) := by
 unfold KB at h
 rw [w64 (by omega) (by omega)]
 omega
theorem nneg {k : Nat} : decide (((k : Nat) : Int) < 0) = false := by simp
def cnts {α : Type} (c : α → Nat) : List α → Nat
 | [] => 0
 | x :: l => c x + cnts c l
def mks {α : Type} (mk : Nat → α → α) (c : α → Nat) : Nat → List α → List α
 | _,[] => []
 | k,x :: l => mk k x :: mks mk c (k + c x) l
theorem cnts_le {α : Type} {c s : α → Nat} {b : Nat} : ∀ {l : List α},(∀ x,c x ≤ b + b * s x) → cnts c l ≤ b * szl s l
 | [],_ => by simp [cnts]
 | x :: l,h => by
  rw [cnts,szl,Nat.mul_add,Nat.mul_add]
  have := h x
  have := cnts_le (l := l) h
  omega
theorem cnts_flat {α : Type} {c : α → Nat} {b : Nat} : ∀ {l : List α},(∀ x,c x ≤ b) → cnts c l ≤ b * l.length
 | [],_ => by simp [cnts]
 | x :: l,h => by
  rw [cnts,List.length_cons,Nat.mul_add]
  have := h x
  have := cnts_flat (l := l) h
  omega
def one {α : Type} : α → Nat := fun _ => 1
def mkI : Nat → Int → Int := fun k _ => (k : Int)
theorem one_le {α : Type} {x : α} : one x ≤ 1 := Nat.le_refl 1
theorem gMark {α : Type} (L : Nat → List α → Int → Int → Option (Int × List α)) (mk : Nat → α → α) (c : α → Nat) (P : α → Prop)
  (hL : ∀ n (pre post : List α) x (k : Nat),P x → k + c x ≤ KB → pre.length < Big → L (n + 1) (pre ++ x :: post) (k : Int) ((List.length pre : Nat) : Int) = L n (pre ++ mk k x :: post) ((k + c x : Nat) : Int) ((List.length pre + 1 : Nat) : Int))
  (hN : ∀ n (l : List α) (k : Int),L (n + 1) l k ((List.length l : Nat) : Int) = some (k,l))
  (l : List α) (k : Nat) (hP : ∀ x ∈ l,P x) (hl : l.length ≤ Big) (hk : k + cnts c l ≤ KB) : L fuel l (k : Int) 0 = some (((k + cnts c l : Nat) : Int),mks mk c k l) := by
 have loop : ∀ (post pre : List α) (n k : Nat),(∀ x ∈ post,P x) → pre.length + post.length ≤ Big → k + cnts c post ≤ KB → post.length < n → L n (pre ++ post) (k : Int) ((List.length pre : Nat) : Int) = some (((k + cnts c post : Nat) : Int),pre ++ mks mk c k post) := by
  intro post
  induction post with
  | nil =>
   intro pre n k _ _ _ hn
   obtain ⟨n,rfl⟩ : ∃ m,n = m + 1 := ⟨n - 1,by omega⟩
   rw [List.append_nil,hN,cnts,mks,List.append_nil]; rfl
  | cons x post ih =>
   intro pre n k hp hb hk hn
   obtain ⟨n,rfl⟩ : ∃ m,n = m + 1 := ⟨n - 1,by omega⟩
   rw [List.length_cons] at hb hn
   rw [cnts] at hk
   rw [hL n pre post x k (hp x (List.mem_cons_self ..)) (by omega) (by omega),cnts,mks]
   have := ih (pre ++ [mk k x]) n (k + c x) (fun y hy => hp y (List.mem_cons_of_mem _ hy)) (by rw [List.length_append]; simp; omega) (by omega) (by omega)
   rw [List.append_assoc,List.append_assoc,List.length_append] at this
   simp only [List.cons_append,List.nil_append,List.length_cons,List.length_nil,Nat.zero_add] at this
   rw [this,Nat.add_assoc]
 exact loop l [] fuel k hP (by simpa using hl) hk (by rw [fuel_eq]; unfold Big at hl; omega)
theorem gHeld {α : Type} (L : Nat → List α → Int → Int → Option Int) (mk : Nat → α → α) (c : α → Nat) (P : α → Prop)
  (hL : ∀ n (pre post : List α) x (k : Nat),P x → k + c x ≤ KB → pre.length < Big → L (n + 1) (pre ++ mk k x :: post) (k : Int) ((List.length pre : Nat) : Int) = L n (pre ++ mk k x :: post) ((k + c x : Nat) : Int) ((List.length pre + 1 : Nat) : Int))
  (hN : ∀ n (l : List α) (k : Int),L (n + 1) l k ((List.length l : Nat) : Int) = some k)
  (l : List α) (k : Nat) (hP : ∀ x ∈ l,P x) (hl : l.length ≤ Big) (hk : k + cnts c l ≤ KB) : L fuel (mks mk c k l) (k : Int) 0 = some ((k + cnts c l : Nat) : Int) := by
 have loop : ∀ (post pre : List α) (n k : Nat),(∀ x ∈ post,P x) → pre.length + post.length ≤ Big → k + cnts c post ≤ KB → post.length < n → L n (pre ++ mks mk c k post) (k : Int) ((List.length pre : Nat) : Int) = some ((k + cnts c post : Nat) : Int) := by
  intro post
  induction post with
  | nil =>
   intro pre n k _ _ _ hn
   obtain ⟨n,rfl⟩ : ∃ m,n = m + 1 := ⟨n - 1,by omega⟩
   rw [mks,List.append_nil,hN,cnts]; rfl
  | cons x post ih =>
   intro pre n k hp hb hk hn
   obtain ⟨n,rfl⟩ : ∃ m,n = m + 1 := ⟨n - 1,by omega⟩
   rw [List.length_cons] at hb hn
   rw [cnts] at hk
   rw [mks,hL n pre _ x k (hp x (List.mem_cons_self ..)) (by omega) (by omega),cnts]
   have := ih (pre ++ [mk k x]) n (k + c x) (fun y hy => hp y (List.mem_cons_of_mem _ hy)) (by rw [List.length_append]; simp; omega) (by omega) (by omega)
   rw [List.append_assoc,List.length_append] at this
   simp only [List.cons_append,List.nil_append,List.length_cons,List.length_nil,Nat.zero_add] at this
   rw [this,Nat.add_assoc]
 exact loop l [] fuel k hP (by simpa using hl) hk (by rw [fuel_eq]; unfold Big at hl; omega)
end Go.Proofs.YtjdinbgcgbigoaaGreat.Ab
