/-
  Loops of one kind, each once: sizes, copies, comparisons. No program is in sight.
-/
import Derived.Test.YtgigfdghecdlgaaPlH
namespace Go.Proofs.Ytgigfdghecdlgaa.Ab
set_option linter.unusedVariables false
set_option linter.unusedSimpArgs false
open Go.RowKit

/-! ### Sizes -/
/-- The size of a list: one for each element, and what each element holds. -/
def szl {α : Type} (s : α → Nat) : List α → Nat
  | [] => 0
  | x :: l => 1 + s x + szl s l
theorem szl_len {α : Type} (s : α → Nat) : ∀ l : List α, l.length ≤ szl s l
  | [] => by simp
  | x :: l => by rw [szl, List.length_cons]; have := szl_len s l; omega
theorem szl_mem {α : Type} {s : α → Nat} {x : α} : ∀ {l : List α}, x ∈ l → s x < szl s l
  | y :: l, h => by
    rw [szl]
    rcases List.mem_cons.1 h with rfl | h
    · omega
    · have := szl_mem (s := s) h; omega
theorem szl_zero {α : Type} : ∀ l : List α, szl (fun _ => 0) l = l.length
  | [] => rfl
  | x :: l => by rw [szl, szl_zero l, List.length_cons]; omega
theorem sz_step {k : Int → Option Int} {z left rest : Nat} {X : Option Int} (hX : X = some (szr z left)) (hk : z ≤ left → k ((left - z : Nat) : Int) = some (szr rest (left - z))) :
    (Option.bind X fun v => if decide (v < 0) = true then some (-1) else k v) = some (szr (z + rest) left) := by
  rw [hX, bind_some', szr_neg]
  by_cases h : left < z
  · rw [if_pos (by simpa using h), szr_gt (by omega)]
  · rw [if_neg (by simpa using h), szr_le (by omega), hk (by omega)]
    congr 1
    unfold szr
    by_cases h2 : rest ≤ left - z
    · rw [if_pos h2, if_pos (by omega)]; congr 1; omega
    · rw [if_neg h2, if_neg (by omega)]
theorem sz_here {k : Int → Option Int} {z left rest : Nat} (h1 : left ≤ 1048576) (h2 : z ≤ 9223372036854775807) (hk : z ≤ left → k ((left - z : Nat) : Int) = some (szr rest (left - z))) :
    (if decide (IntKind.i64.wrap ((left : Int) - (z : Int)) < 0) = true then some (-1) else k (IntKind.i64.wrap ((left : Int) - (z : Int)))) = some (szr (z + rest) left) := by
  rw [sub_len h1 h2]
  by_cases h : left < z
  · rw [if_pos (by simp; omega), szr_gt (by omega)]
  · rw [if_neg (by simp; omega), show ((left : Int) - (z : Int)) = ((left - z : Nat) : Int) from by omega, hk (by omega)]
    congr 1
    unfold szr
    by_cases h2 : rest ≤ left - z
    · rw [if_pos h2, if_pos (by omega)]; congr 1; omega
    · rw [if_neg h2, if_neg (by omega)]
theorem sz_here2 {Y : Option Int} {z left rest : Nat} (h1 : left ≤ 1048576) (h2 : z ≤ 9223372036854775807) (hk : z ≤ left → IntKind.i64.wrap ((left : Int) - (z : Int)) = ((left - z : Nat) : Int) → Y = some (szr rest (left - z))) :
    (if decide (IntKind.i64.wrap ((left : Int) - (z : Int)) < 0) = true then some (-1) else Y) = some (szr (z + rest) left) := by
  by_cases h : z ≤ left
  · have e : IntKind.i64.wrap ((left : Int) - (z : Int)) = ((left - z : Nat) : Int) := by rw [sub_len h1 h2]; omega
    rw [e, if_neg (by simp), hk h e]
    congr 1
    unfold szr
    by_cases h2 : rest ≤ left - z
    · rw [if_pos h2, if_pos (by omega)]; congr 1; omega
    · rw [if_neg h2, if_neg (by omega)]
  · rw [sub_len h1 h2, if_pos (by simp; omega), szr_gt (by omega)]
theorem sz_end {left : Nat} : some ((left : Nat) : Int) = some (szr 0 left) := by simp [szr]
theorem gSz {α : Type} (L : Nat → Int → Int → Option Int) (g : α → Int → Option Int) (s : α → Nat) (l : List α) (hL : ∀ n p i, L (n + 1) p i = (if (decide (i < ((List.length l : Nat) : Int))) = true then (Option.bind (at? l i) fun x => (Option.bind (g x p) fun v => (if (decide (v < 0)) = true then (some (-1)) else (L n v (IntKind.i64.wrap (i + 1)))))) else (some p)))
    (left : Nat) (h1 : left ≤ 1048576) (hg : ∀ x ∈ l, ∀ k : Nat, k ≤ 1048576 → g x k = some (szr (s x) k)) (hl : l.length ≤ 9223372036854775807) :
    (if decide (IntKind.i64.wrap ((left : Int) - ((List.length l : Nat) : Int)) < 0) = true then some (-1) else L fuel (IntKind.i64.wrap ((left : Int) - ((List.length l : Nat) : Int))) 0) = some (szr (szl s l) left) := by
  have hsz := szl_len s l
  have := sz_here (k := fun v => L fuel v 0) (rest := szl s l - l.length) h1 hl fun h => ?_
  · rw [show l.length + (szl s l - l.length) = szl s l from by omega] at this
    exact this
  · have loop : ∀ (post pre : List α) (n l3 : Nat), l = pre ++ post → l3 ≤ left → post.length < n → L n l3 ((List.length pre : Nat) : Int) = some (szr (szl s post - post.length) l3) := by
      intro post
      induction post with
      | nil =>
        intro pre n l3 h _ hn
        obtain ⟨n, rfl⟩ : ∃ m, n = m + 1 := ⟨n - 1, by omega⟩
        rw [hL, ge_app h]
        simp [szl, szr]
      | cons x post ihp =>
        intro pre n l3 hh h4 hn
        obtain ⟨n, rfl⟩ : ∃ m, n = m + 1 := ⟨n - 1, by omega⟩
        have hx : x ∈ l := by rw [hh]; simp
        have hp := szl_len s post
        rw [hL, if_pos (lt_app hh), at_app hh, bind_some']
        have e := sz_step (k := fun v => L n v (IntKind.i64.wrap (((List.length pre : Nat) : Int) + 1))) (rest := szl s post - post.length) (hg x hx l3 (by omega)) fun h5 => by
          rw [wrap_app hh (by unfold Big; omega)]
          exact ihp (pre ++ [x]) n (l3 - s x) (next_app hh) (by omega) (by simp at hn; omega)
        rw [szl, List.length_cons, show 1 + s x + szl s post - (post.length + 1) = s x + (szl s post - post.length) from by omega]
        exact e
    exact loop l [] fuel (left - l.length) (by simp) (by omega) (by rw [fuel_eq]; omega)

/-! ### Copies -/
theorem gTo {α : Type} (L : Nat → List α → Int → Option (List α)) (g : α → Option α) (z : α) (l : List α) (hL : ∀ n acc i, L (n + 1) acc i = (if (decide (i < ((List.length l : Nat) : Int))) = true then (Option.bind (at? l i) fun x => (Option.bind (g x) fun y => (Option.bind (at? acc i) fun _ => (Option.bind (set1? acc i y) fun z => (L n z (IntKind.i64.wrap (i + 1))))))) else (some acc)))
    (hl : l.length ≤ Big) (hg : ∀ x ∈ l, g x = some x) : (Option.bind (rep? ((List.length l : Nat) : Int) z) fun acc => L fuel acc 0) = some l := by
  have loop : ∀ (post pre : List α) (n : Nat), l = pre ++ post → post.length < n → L n (pre ++ List.replicate post.length z) ((List.length pre : Nat) : Int) = some l := by
    intro post
    induction post with
    | nil =>
      intro pre n h hn
      obtain ⟨n, rfl⟩ : ∃ m, n = m + 1 := ⟨n - 1, by omega⟩
      rw [hL, ge_app h]; simp [h]
    | cons x post ih =>
      intro pre n h hn
      obtain ⟨n, rfl⟩ : ∃ m, n = m + 1 := ⟨n - 1, by omega⟩
      rw [hL, if_pos (lt_app h), at_app h, bind_some', hg x (by rw [h]; simp), bind_some', List.length_cons, at_rep, bind_some', set1_app, bind_some', wrap_app h hl]
      exact ih (pre ++ [x]) n (next_app h) (by simp at hn; omega)
  rw [rep_ok hl, bind_some']
  exact loop l [] fuel (by simp) (by rw [fuel_eq]; unfold Big at hl; omega)

/-! ### Comparisons -/
/-- An answer that tells whether something holds. -/
def Tells (o : Option Bool) (p : Prop) : Prop := ∃ b, o = some b ∧ (b = true ↔ p)
theorem Tells.mk {b : Bool} {p : Prop} (h : b = true ↔ p) : Tells (some b) p := ⟨b, rfl, h⟩
theorem Tells.iff {o : Option Bool} {p q : Prop} (h : Tells o p) (hpq : p ↔ q) : Tells o q := by
  obtain ⟨b, h1, h2⟩ := h
  exact ⟨b, h1, h2.trans hpq⟩
theorem Tells.eq {o o' : Option Bool} {p : Prop} (h : Tells o p) (h' : Tells o' p) : o = o' := by
  obtain ⟨b, rfl, h1⟩ := h
  obtain ⟨c, rfl, h2⟩ := h'
  congr 1
  rw [Bool.eq_iff_iff, h1, h2]
theorem Tells.true {o : Option Bool} {p : Prop} (h : Tells o p) (hp : p) : o = some true := by
  obtain ⟨b, rfl, h1⟩ := h
  rw [h1.2 hp]
/-- 'if not a, no': and what follows. -/
theorem tells_ifn {b : Bool} {X : Option Bool} {p q : Prop} (h : b = true ↔ p) (hX : p → Tells X q) : Tells (if (!b) = true then some false else X) (p ∧ q) := by
  cases b with
  | true => have hp := h.1 rfl; exact ((hX hp).iff ⟨fun k => ⟨hp, k⟩, fun k => k.2⟩)
  | false => exact ⟨false, rfl, ⟨fun k => Bool.noConfusion k, fun k => h.2 k.1⟩⟩
theorem tells_if {b : Bool} {X : Option Bool} {p q : Prop} (h : b = true ↔ p) (hX : p → Tells X q) : Tells (if b = true then X else some false) (p ∧ q) := by
  cases b with
  | true => have hp := h.1 rfl; exact ((hX hp).iff ⟨fun k => ⟨hp, k⟩, fun k => k.2⟩)
  | false => exact ⟨false, rfl, ⟨fun k => Bool.noConfusion k, fun k => h.2 k.1⟩⟩
theorem tells_bind {o : Option Bool} {k : Bool → Option Bool} {p r : Prop} (h : Tells o p) (hk : ∀ b, (b = true ↔ p) → Tells (k b) r) : Tells (Option.bind o k) r := by
  obtain ⟨b, rfl, h1⟩ := h
  exact hk b h1
theorem tells_bind_ifn {o : Option Bool} {X : Option Bool} {p q : Prop} (h : Tells o p) (hX : p → Tells X q) : Tells (Option.bind o fun b => if (!b) = true then some false else X) (p ∧ q) :=
  tells_bind h fun b hb => tells_ifn hb hX
theorem tells_bind_if {o : Option Bool} {X : Option Bool} {p q : Prop} (h : Tells o p) (hX : p → Tells X q) : Tells (Option.bind o fun b => if b = true then X else some false) (p ∧ q) :=
  tells_bind h fun b hb => tells_if hb hX
theorem tells_bind_some {o : Option Bool} {p : Prop} (h : Tells o p) : Tells (Option.bind o fun b => some b) p := tells_bind h fun b hb => .mk hb
theorem tells_true : Tells (some true) True := .mk (by simp)
theorem dec_iff {p : Prop} [Decidable p] : decide p = true ↔ p := decide_eq_true_iff
theorem len_iff {α β : Type} {l : List α} {m : List β} : decide (((List.length l : Nat) : Int) = ((List.length m : Nat) : Int)) = true ↔ l.length = m.length := by
  rw [decide_eq_true_iff]; omega
/-- Two lists of one length, compared element for element. -/
theorem gEq {α : Type} (L : Nat → Int → Option Bool) (f : α → α → Option Bool) (l m : List α) (hL : ∀ n i, L (n + 1) i = (if (decide (i < ((List.length l : Nat) : Int))) = true then (Option.bind (at? l i) fun x => (Option.bind (at? m i) fun y => (Option.bind (f x y) fun v => (if (!v) = true then (some false) else (L n (IntKind.i64.wrap (i + 1))))))) else (some true)))
    (hl : l.length ≤ Big) (hlen : l.length = m.length) (hf : ∀ x ∈ l, ∀ y ∈ m, Tells (f x y) (x = y)) : Tells (L fuel 0) (l = m) := by
  have loop : ∀ (post post' pre pre' : List α) (n : Nat), l = pre ++ post → m = pre' ++ post' → pre.length = pre'.length → post.length < n → Tells (L n ((List.length pre : Nat) : Int)) (post = post') := by
    intro post
    induction post with
    | nil =>
      intro post' pre pre' n h h' hpp hn
      obtain ⟨n, rfl⟩ : ∃ m, n = m + 1 := ⟨n - 1, by omega⟩
      rw [hL, ge_app h]
      obtain rfl : post' = [] := List.eq_nil_of_length_eq_zero (by rw [h, h'] at hlen; simp at hlen; omega)
      exact .mk (by simp)
    | cons x post ih =>
      intro post' pre pre' n h h' hpp hn
      obtain ⟨n, rfl⟩ : ∃ m, n = m + 1 := ⟨n - 1, by omega⟩
      cases post' with
      | nil => rw [h, h'] at hlen; simp at hlen; omega
      | cons y post' =>
        rw [hL, if_pos (lt_app h), at_app h, bind_some', hpp, at_app h', bind_some', ← hpp, wrap_app h hl]
        refine (tells_bind_ifn (hf x (by rw [h]; simp) y (by rw [h']; simp)) fun _ => ih post' (pre ++ [x]) (pre' ++ [y]) n (next_app h) (next_app h') (by simp [hpp]) (by simp at hn; omega)).iff ?_
        simp
  exact loop l m [] [] fuel (by simp) (by simp) rfl (by rw [fuel_eq]; unfold Big at hl; omega)
theorem gEqS {α : Type} (L : Nat → Int → Option Bool) (f : α → α → Option Bool) (l m : List α) (hL : ∀ n i, L (n + 1) i = (if (decide (i < ((List.length l : Nat) : Int))) = true then (Option.bind (at? l i) fun x => (Option.bind (at? m i) fun y => (Option.bind (f x y) fun v => (if (!v) = true then (some false) else (L n (IntKind.i64.wrap (i + 1))))))) else (some true)))
    (hl : l.length ≤ Big) (hf : ∀ x ∈ l, ∀ y ∈ m, Tells (f x y) (x = y)) : Tells (if (!decide (((List.length l : Nat) : Int) = ((List.length m : Nat) : Int))) = true then some false else L fuel 0) (l = m) :=
  (tells_ifn len_iff fun h => gEq L f l m hL hl h hf).iff ⟨fun h => h.2, fun h => ⟨by rw [h], h⟩⟩
theorem eqInt64S_tells (l m : List Int) (hl : l.length ≤ Big) : Tells (l_eqInt64S l m) (l = m) := by
  unfold l_eqInt64S
  exact gEqS (fun n i => l_eqInt64S_l1 n l m i) (fun x y => some (decide (x = y))) l m (fun n i => by rw [l_eqInt64S_l1]; rfl) hl fun x _ y _ => .mk dec_iff
/-- Two lists of one length, compared element for element, some rounds a step; behind the last something more. -/
theorem gTellF {α : Type} (L : Nat → Int → Option Bool) (l m : List α) (s : α → Nat) (K c : Nat) (R : Prop)
    (hstep : ∀ (n : Nat) (i : Int) (x y : α) (q : Prop), decide (i < ((List.length l : Nat) : Int)) = true → at? l i = some x → at? m i = some y → x ∈ l → (K + c) * s x + K ≤ n → Tells (L n (IntKind.i64.wrap (i + 1))) q → Tells (L (n + c) i) (x = y ∧ q))
    (hend : ∀ n, Tells (L (n + 1) ((List.length l : Nat) : Int)) R) (hl : l.length ≤ Big) (hlen : l.length = m.length) (n : Nat) (hn : (K + c) * szl s l + 1 ≤ n) : Tells (L n 0) (l = m ∧ R) := by
  have loop : ∀ (post post' pre pre' : List α) (n : Nat), l = pre ++ post → m = pre' ++ post' → pre.length = pre'.length → (K + c) * szl s post + 1 ≤ n → Tells (L n ((List.length pre : Nat) : Int)) (post = post' ∧ R) := by
    intro post
    induction post with
    | nil =>
      intro post' pre pre' n h h' hpp hn
      obtain ⟨n, rfl⟩ : ∃ m, n = m + 1 := ⟨n - 1, by omega⟩
      obtain rfl : post' = [] := List.eq_nil_of_length_eq_zero (by rw [h, h'] at hlen; simp at hlen; omega)
      have := hend n
      rw [h, List.append_nil] at this
      exact this.iff (by simp)
    | cons x post ih =>
      intro post' pre pre' n h h' hpp hn
      rw [szl] at hn
      have e1 : (K + c) * (1 + s x + szl s post) = K + c + (K + c) * s x + (K + c) * szl s post := by rw [Nat.mul_add, Nat.mul_add, Nat.mul_one]
      rw [e1] at hn
      cases post' with
      | nil => rw [h, h'] at hlen; simp at hlen; omega
      | cons y post' =>
        obtain ⟨n, rfl⟩ : ∃ m, n = m + c := ⟨n - c, by omega⟩
        refine (hstep n _ x y (post = post' ∧ R) (lt_app h) (at_app h) (by rw [hpp]; exact at_app h') (by rw [h]; simp) (by omega) ?_).iff ?_
        · rw [wrap_app h hl]
          exact ih post' (pre ++ [x]) (pre' ++ [y]) n (next_app h) (next_app h') (by simp [hpp]) (by omega)
        · rw [List.cons.injEq, and_assoc]
  exact loop l m [] [] n (by simp) (by simp) rfl hn
/-! ### Texts -/
def strSz : List ByteArray → Nat
  | [] => 0
  | s :: l => s.size + strSz l
theorem sameStr_self (s : ByteArray) : sameStr s s = true := by unfold sameStr; simp
theorem sameStr_iff {a b : ByteArray} : sameStr a b = true ↔ a = b := by
  unfold sameStr
  rw [beq_iff_eq, ByteArray.toList_eq, ByteArray.toList_eq]
  exact ⟨fun h => ByteArray.ext (Array.toList_inj.mp h), fun h => by rw [h]⟩
/-! ### The same for types that hold slices of themselves -/
theorem gSzF {α : Type} (L : Nat → Int → Int → Option Int) (G : Nat → α → Int → Option Int) (s : α → Nat) (l : List α)
    (hL : ∀ n p i, L (n + 1) p i = (if (decide (i < ((List.length l : Nat) : Int))) = true then (Option.bind (at? l i) fun x => (Option.bind (G n x p) fun v => (if (decide (v < 0)) = true then (some (-1)) else (L n v (IntKind.i64.wrap (i + 1)))))) else (some p)))
    (left n : Nat) (h1 : left ≤ 1048576) (hg : ∀ x ∈ l, ∀ k m : Nat, k ≤ 1048576 → 4 * k + 4 ≤ m → G m x k = some (szr (s x) k)) (hl : l.length ≤ 9223372036854775807) (hn : 4 * left + 2 ≤ n) :
    (if decide (IntKind.i64.wrap ((left : Int) - ((List.length l : Nat) : Int)) < 0) = true then some (-1) else L n (IntKind.i64.wrap ((left : Int) - ((List.length l : Nat) : Int))) 0) = some (szr (szl s l) left) := by
  have hsz := szl_len s l
  have := sz_here (k := fun v => L n v 0) (rest := szl s l - l.length) h1 hl fun h => ?_
  · rw [show l.length + (szl s l - l.length) = szl s l from by omega] at this
    exact this
  · have loop : ∀ (post pre : List α) (n l3 : Nat), l = pre ++ post → l3 + l.length ≤ left → 1 ≤ n → (post.length ≠ 0 → 4 * l3 + 4 + post.length + 1 ≤ n) → L n l3 ((List.length pre : Nat) : Int) = some (szr (szl s post - post.length) l3) := by
      intro post
      induction post with
      | nil =>
        intro pre n l3 h _ hn _
        obtain ⟨n, rfl⟩ : ∃ m, n = m + 1 := ⟨n - 1, by omega⟩
        rw [hL, ge_app h]
        simp [szl, szr]
      | cons x post ihp =>
        intro pre n l3 hh h4 hn1 hn
        rw [List.length_cons] at hn
        have hn := hn (by omega)
        obtain ⟨n, rfl⟩ : ∃ m, n = m + 1 := ⟨n - 1, by omega⟩
        have hx : x ∈ l := by rw [hh]; simp
        have hp := szl_len s post
        rw [hL, if_pos (lt_app hh), at_app hh, bind_some']
        have e := sz_step (k := fun v => L n v (IntKind.i64.wrap (((List.length pre : Nat) : Int) + 1))) (rest := szl s post - post.length) (hg x hx l3 n (by omega) (by omega)) fun h5 => by
          rw [wrap_app hh (by unfold Big; omega)]
          exact ihp (pre ++ [x]) n (l3 - s x) (next_app hh) (by omega) (by omega) (by omega)
        rw [szl, List.length_cons, show 1 + s x + szl s post - (post.length + 1) = s x + (szl s post - post.length) from by omega]
        exact e
    exact loop l [] n (left - l.length) (by simp) (by omega) (by omega) (by omega)
theorem gToF {α : Type} (L : Nat → List α → Int → Option (List α)) (G : Nat → α → Option α) (z : α) (s : α → Nat) (l : List α) (hL : ∀ n acc i, L (n + 1) acc i = (if (decide (i < ((List.length l : Nat) : Int))) = true then (Option.bind (at? l i) fun x => (Option.bind (G n x) fun y => (Option.bind (at? acc i) fun _ => (Option.bind (set1? acc i y) fun z => (L n z (IntKind.i64.wrap (i + 1))))))) else (some acc)))
    (hl : szl s l ≤ Big) (hg : ∀ x ∈ l, s x ≤ Big → ∀ n, 4 * s x + 4 ≤ n → G n x = some x) (n : Nat) (hn : 4 * szl s l + 2 ≤ n) : (Option.bind (rep? ((List.length l : Nat) : Int) z) fun acc => L n acc 0) = some l := by
  have hlen := szl_len s l
  have loop : ∀ (post pre : List α) (n : Nat), l = pre ++ post → 4 * szl s post + 1 ≤ n → L n (pre ++ List.replicate post.length z) ((List.length pre : Nat) : Int) = some l := by
    intro post
    induction post with
    | nil =>
      intro pre n h hn
      obtain ⟨n, rfl⟩ : ∃ m, n = m + 1 := ⟨n - 1, by omega⟩
      rw [hL, ge_app h]; simp [h]
    | cons x post ih =>
      intro pre n h hn
      rw [szl] at hn
      obtain ⟨n, rfl⟩ : ∃ m, n = m + 1 := ⟨n - 1, by omega⟩
      have hx : x ∈ l := by rw [h]; simp
      rw [hL, if_pos (lt_app h), at_app h, bind_some', hg x hx (by have := szl_mem (s := s) hx; omega) n (by omega), bind_some', List.length_cons, at_rep, bind_some', set1_app, bind_some', wrap_app h (by omega)]
      exact ih (pre ++ [x]) n (next_app h) (by omega)
  rw [rep_ok (by omega), bind_some']
  exact loop l [] n (by simp) (by omega)
theorem gEqF {α : Type} (L : Nat → Int → Option Bool) (G : Nat → α → α → Option Bool) (s : α → Nat) (l : List α) (hL : ∀ n i, L (n + 1) i = (if (decide (i < ((List.length l : Nat) : Int))) = true then (Option.bind (at? l i) fun x => (Option.bind (at? l i) fun y => (Option.bind (G n x y) fun v => (if (!v) = true then (some false) else (L n (IntKind.i64.wrap (i + 1))))))) else (some true)))
    (hl : szl s l ≤ Big) (hg : ∀ x ∈ l, s x ≤ Big → ∀ n, 4 * s x + 4 ≤ n → G n x x = some true) (n : Nat) (hn : 4 * szl s l + 2 ≤ n) : (if (!decide (((List.length l : Nat) : Int) = ((List.length l : Nat) : Int))) = true then some false else L n 0) = some true := by
  have hlen := szl_len s l
  have loop : ∀ (post pre : List α) (n : Nat), l = pre ++ post → 4 * szl s post + 1 ≤ n → L n ((List.length pre : Nat) : Int) = some true := by
    intro post
    induction post with
    | nil =>
      intro pre n h hn
      obtain ⟨n, rfl⟩ : ∃ m, n = m + 1 := ⟨n - 1, by omega⟩
      rw [hL, ge_app h]; rfl
    | cons x post ih =>
      intro pre n h hn
      rw [szl] at hn
      obtain ⟨n, rfl⟩ : ∃ m, n = m + 1 := ⟨n - 1, by omega⟩
      have hx : x ∈ l := by rw [h]; simp
      rw [hL, if_pos (lt_app h), at_app h, bind_some', bind_some', hg x hx (by have := szl_mem (s := s) hx; omega) n (by omega), bind_some', if_neg (by simp), wrap_app h (by omega)]
      exact ih (pre ++ [x]) n (next_app h) (by omega)
  rw [if_neg (by simp)]
  exact loop l [] n (by simp) (by omega)
/-- A list compared with itself. -/
theorem gEqR {α : Type} (L : Nat → Int → Option Bool) (g : α → α → Option Bool) (l : List α) (hL : ∀ n i, L (n + 1) i = (if (decide (i < ((List.length l : Nat) : Int))) = true then (Option.bind (at? l i) fun x => (Option.bind (at? l i) fun y => (Option.bind (g x y) fun v => (if (!v) = true then (some false) else (L n (IntKind.i64.wrap (i + 1))))))) else (some true)))
    (hl : l.length ≤ Big) (hg : ∀ x ∈ l, g x x = some true) : (if (!decide (((List.length l : Nat) : Int) = ((List.length l : Nat) : Int))) = true then some false else L fuel 0) = some true := by
  have loop : ∀ (post pre : List α) (n : Nat), l = pre ++ post → post.length < n → L n ((List.length pre : Nat) : Int) = some true := by
    intro post
    induction post with
    | nil =>
      intro pre n h hn
      obtain ⟨n, rfl⟩ : ∃ m, n = m + 1 := ⟨n - 1, by omega⟩
      rw [hL, ge_app h]; rfl
    | cons x post ih =>
      intro pre n h hn
      rw [List.length_cons] at hn
      obtain ⟨n, rfl⟩ : ∃ m, n = m + 1 := ⟨n - 1, by omega⟩
      have hx : x ∈ l := by rw [h]; simp
      rw [hL, if_pos (lt_app h), at_app h, bind_some', bind_some', hg x hx, bind_some', if_neg (by simp), wrap_app h hl]
      exact ih (pre ++ [x]) n (next_app h) (by omega)
  rw [if_neg (by simp)]
  exact loop l [] fuel (by simp) (by rw [fuel_eq]; unfold Big at hl; omega)
theorem eqr_ifn {b : Bool} {X : Option Bool} (h : b = true) (k : X = some true) : (if (!b) = true then some false else X) = some true := by subst h; exact k
theorem eqr_bind {o X : Option Bool} (h : o = some true) (k : X = some true) : (Option.bind o fun b => if (!b) = true then some false else X) = some true := by subst h; exact k
/-- A law's first steps: an argument's size. -/
theorem law_sz {k : Int → Option Bool} {z left : Nat} {X : Option Int} (hX : X = some (szr z left)) (hk : z ≤ left → k ((left - z : Nat) : Int) = some true) :
    (Option.bind X fun v => if decide (v < 0) = true then some true else k v) = some true := by
  rw [hX, bind_some', szr_neg]
  by_cases h : left < z
  · rw [if_pos (by simpa using h)]
  · rw [if_neg (by simpa using h), szr_le (by omega), hk (by omega)]
theorem law_here {Y : Option Bool} {z left : Nat} (h1 : left ≤ 1048576) (h2 : z ≤ 9223372036854775807) (hk : z ≤ left → IntKind.i64.wrap ((left : Int) - (z : Int)) = ((left - z : Nat) : Int) → Y = some true) :
    (if decide (IntKind.i64.wrap ((left : Int) - (z : Int)) < 0) = true then some true else Y) = some true := by
  by_cases h : z ≤ left
  · have e : IntKind.i64.wrap ((left : Int) - (z : Int)) = ((left - z : Nat) : Int) := by rw [sub_len h1 h2]; omega
    rw [e, if_neg (by simp), hk h e]
  · rw [sub_len h1 h2, if_pos (by simp; omega)]
/-! ### Core terms -/
theorem toCore_e (c : Core) (h : c.sz ≤ Big) : l_toCore fuel c = some c := toCore_eq c (Core.small_of c h) fuel (by have := Core.nodes_le c; rw [fuel_eq]; unfold Big at h; omega)
theorem eqCore_e (c : Core) (h : c.sz ≤ Big) : l_eqCore fuel c c = some true := eqCore_eq c (Core.small_of c h) fuel (by have := Core.nodes_le c; rw [fuel_eq]; unfold Big at h; omega)
theorem Core.szs_szl : ∀ l : List Core, Core.szs l = szl Core.sz l
  | [] => rfl
  | c :: cs => by rw [Core.szs, szl, Core.szs_szl cs]
theorem toCoreS_e (l : List Core) (h : Core.szs l ≤ Big) : l_toCoreS fuel l = some l :=
  toCoreS_eq l (by have := Core.len_szs l; omega) (fun x hx => Core.small_of x (by have := Core.szs_mem hx; omega)) fuel (by have := Core.nodess_le l; rw [fuel_eq]; unfold Big at h; omega)
theorem eqCoreS_e (l : List Core) (h : Core.szs l ≤ Big) : l_eqCoreS fuel l l = some true :=
  eqCoreS_eq l (by have := Core.len_szs l; omega) (fun x hx => Core.small_of x (by have := Core.szs_mem hx; omega)) fuel (by have := Core.nodess_le l; rw [fuel_eq]; unfold Big at h; omega)
end Go.Proofs.Ytgigfdghecdlgaa.Ab
