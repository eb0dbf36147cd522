/-
  The abstract walk, fifteenth part: regions whose order is drawn: one walk of the text serves every order.
-/
import Derived.Test.YtfbnlkaggggmiaaAbN
import Derived.Orders
namespace Go.Proofs.Ytfbnlkaggggmiaa.Ab
set_option linter.unusedVariables false
set_option linter.unusedSimpArgs false
open Go.RowKit

/-! ### What waits for what -/
def Closed (l : List Oper) (S : Nat → Prop) : Prop := ∀ j o, l[j]? = some o → S j → ∀ e ∈ o.after, Region.binds .any e = true → S e.on
theorem mask_spec {acc : List Nat} {o : Oper} {i : Nat} (h : (mask acc o).testBit i = true) : ∃ e ∈ o.after, Region.binds .any e = true ∧ (e.on = i ∨ (acc.getD e.on 0).testBit i = true) := by
  unfold mask at h
  have key : ∀ (es : List Edge) (s : Nat), (es.foldl (fun s e => if Region.binds .any e then s ||| (2 ^ e.on ||| acc.getD e.on 0) else s) s).testBit i = true → s.testBit i = true ∨ ∃ e ∈ es, Region.binds .any e = true ∧ (e.on = i ∨ (acc.getD e.on 0).testBit i = true) := by
    intro es
    induction es with
    | nil => exact fun s h => .inl h
    | cons e es ih =>
      intro s h
      simp only [List.foldl_cons] at h
      rcases ih _ h with h | ⟨x, hx, k⟩
      · split at h
        · rename_i hb
          simp only [Nat.testBit_or, Bool.or_eq_true] at h
          rcases h with h | h | h
          · exact .inl h
          · refine .inr ⟨e, by simp, hb, .inl ?_⟩
            simpa [Nat.testBit_two_pow] using h
          · exact .inr ⟨e, by simp, hb, .inr h⟩
        · exact .inl h
      · exact .inr ⟨x, by simp [hx], k⟩
  rcases key _ _ h with h | ⟨e, he, k⟩
  · simp at h
  · exact ⟨e, Array.mem_toList_iff.1 he, k⟩
theorem depsAux_spec (l : List Oper) : ∀ (rest : List Oper) (acc : List Nat), l = l.take acc.length ++ rest → acc.length + rest.length = l.length →
    (∀ t, t < acc.length → ∀ S, Closed l S → (∀ o, l[t]? = some o → ∀ e ∈ o.after, Region.binds .any e = true → S e.on) → ∀ i, (acc.getD t 0).testBit i = true → S i) →
    ∀ t, t < l.length → ∀ S, Closed l S → (∀ o, l[t]? = some o → ∀ e ∈ o.after, Region.binds .any e = true → S e.on) → ∀ i, ((depsAux acc rest).getD t 0).testBit i = true → S i
  | [], acc, h1, h2, h, t, ht => by
    simp only [depsAux]
    exact h t (by simp at h2; omega)
  | o :: rest, acc, h1, h2, h, t, ht => by
    simp only [depsAux]
    have ho : l[acc.length]? = some o := by
      rw [h1, List.getElem?_append_right (by rw [List.length_take]; omega)]
      have : acc.length - (l.take acc.length).length = 0 := by rw [List.length_take]; simp at h2; omega
      rw [this]; rfl
    refine depsAux_spec l rest (acc ++ [mask acc o]) ?_ (by simp at h2 ⊢; omega) (fun t ht S hS hd i hi => ?_) t ht
    · rw [List.length_append, List.length_singleton, List.take_add_one, ho]
      simp only [Option.toList_some, List.append_assoc, List.singleton_append]
      exact h1
    · rw [List.length_append, List.length_singleton] at ht
      by_cases he : t = acc.length
      · subst he
        have e1 : (acc ++ [mask acc o]).getD acc.length 0 = mask acc o := by simp [List.getD]
        rw [e1] at hi
        obtain ⟨e, hem, hb, hx⟩ := mask_spec hi
        have hon := hd o ho e hem hb
        rcases hx with rfl | hx
        · exact hon
        · by_cases hlt : e.on < acc.length
          · exact h e.on hlt S hS (fun o' ho' e' he' hb' => hS e.on o' ho' hon e' he' hb') i hx
          · simp [List.getD, List.getElem?_eq_none (show acc.length ≤ e.on by omega)] at hx
      · have hlt : t < acc.length := by omega
        have e1 : (acc ++ [mask acc o]).getD t 0 = acc.getD t 0 := by simp [List.getD, List.getElem?_append_left hlt]
        rw [e1] at hi
        exact h t hlt S hS hd i hi
theorem deps_spec (l : List Oper) : ∀ t, t < l.length → ∀ S, Closed l S → (∀ o, l[t]? = some o → ∀ e ∈ o.after, Region.binds .any e = true → S e.on) → ∀ i, ((deps l).getD t 0).testBit i = true → S i :=
  depsAux_spec l l [] (by simp) (by simp) (fun t ht => by simp at ht)

/-! ### The run of the head, in the order of the text -/
section
variable {P : Program} {ops : Array Oper} {base : Nat}
inductive HS (P : Program) (ops : Array Oper) (base i : Nat) (o : Oper) (σ σ' : St) : Option Res → Prop
  | run (r : Res) (hg : ∀ j want, o.guard = some (j, want) → ∃ s, gslot ops j = some s ∧ σ.g s = .bool want) (hev : Ev P (base + i) o σ.e σ.T σ.B r) (hft : freshT σ r.t) (hfb : freshB σ r.b)
      (hs : ∀ x, σ'.g x = if o.dst = some x then r.v else σ.g x) (ht : σ'.t = addT σ.t r.t) (hb : σ'.b = addB σ.b r.b) : HS P ops base i o σ σ' (some r)
  | skip (j : Nat) (want : Bool) (s : Nat) (hg : o.guard = some (j, want)) (hj : gslot ops j = some s) (hb : σ.g s = .bool (!want) ∨ σ.g s = .tup [])
      (hs : ∀ x, σ'.g x = if o.dst = some x then .tup [] else σ.g x) (ht : σ'.t = σ.t) (hb : σ'.b = σ.b) : HS P ops base i o σ σ' none
def Chain (P : Program) (ops : Array Oper) (base : Nat) : Nat → List Oper → St → St → Prop
  | _, [], σ, σ' => σ = σ'
  | i, o :: l, σ, σ' => ∃ r σm, HS P ops base i o σ σm r ∧ Chain P ops base (i + 1) l σm σ'
theorem freshT_congr {σ σ' : St} (h : σ'.t = σ.t) : ∀ {l : List (Nat × Tok)}, freshT σ' l → freshT σ l
  | [], _ => trivial
  | (n, tk) :: l, hf => by
    simp only [freshT] at hf ⊢
    exact ⟨by rw [← h]; exact hf.1, freshT_congr h hf.2⟩
theorem freshB_congr {σ σ' : St} (h : σ'.b = σ.b) : ∀ {l : List (Nat × List AV)}, freshB σ' l → freshB σ l
  | [], _ => trivial
  | (n, tk) :: l, hf => by
    simp only [freshB] at hf ⊢
    exact ⟨by rw [← h]; exact hf.1, freshB_congr h hf.2⟩
theorem e_congr {σ σ' : St} (h : ∀ x, σ'.g x = σ.g x) : σ'.e = σ.e := funext fun x => by cases x <;> simp [St.e, h]
theorem aop_pure {pos : Nat} {o : Oper} {σ : St} {K : St → Prop} (he : isEff o = false) (h : aop P pos o σ K) : ∃ r, Ev P pos o σ.e σ.T σ.B r ∧ freshT σ r.t ∧ freshB σ r.b ∧ K (σ.add o.dst r) := by
  obtain ⟨dst, op, ty, ps, after, guard⟩ := o
  unfold aop at h
  unfold isEff at he
  dsimp only at h he
  split at h
  · cases he
  · cases he
  · cases he
  · cases he
  · exact h
theorem aopL_no {L : Bool} {pos : Nat} {o : Oper} {σ : St} {K : St → Prop} (hL : L = false) (h : aopL P L pos o σ K) : aop P pos o σ K := by
  rcases h with h | ⟨h, -⟩
  · exact h
  · rw [hL] at h; cases h
theorem aops_head {cut : Nat} : ∀ {l1 l2 : List Oper} {i : Nat} {σ : St} {K : St → Prop}, (∀ o ∈ l1, isEff o = false) → i + l1.length ≤ cut → aops P ops base cut i (l1 ++ l2) σ K → ∃ σ', Chain P ops base i l1 σ σ' ∧ aops P ops base cut (i + l1.length) l2 σ' K
  | [], l2, i, σ, K, _, _, h => ⟨σ, rfl, h⟩
  | o :: l1, l2, i, σ, K, he, hcut, h => by
    rw [List.length_cons] at hcut
    have hL : decide (cut ≤ i) = false := by simp; omega
    have heo := he o (by simp)
    rw [List.cons_append] at h
    unfold aops at h
    have next : ∀ σm r, HS P ops base i o σ σm r → aops P ops base cut (i + 1) (l1 ++ l2) σm K → ∃ σ', Chain P ops base i (o :: l1) σ σ' ∧ aops P ops base cut (i + (o :: l1).length) l2 σ' K := fun σm r hs hm => by
      obtain ⟨σ', h1, h2⟩ := aops_head (fun o ho => he o (by simp [ho])) (by omega) hm
      exact ⟨σ', ⟨r, σm, hs, h1⟩, by rw [List.length_cons, show i + (l1.length + 1) = i + 1 + l1.length from by omega]; exact h2⟩
    split at h
    · rename_i hg
      obtain ⟨r, h1, h2, h3, h4⟩ := aop_pure heo (aopL_no hL h)
      refine next _ _ (.run r (fun j want e => by rw [hg] at e; cases e) h1 h2 h3 (fun x => ?_) rfl rfl) h4
      have : (σ.add o.dst r).g x = (σ.put o.dst r.v).g x := rfl
      rw [this, St.g_put]
    · rename_i j want hg
      obtain ⟨s, hj, h⟩ := h
      rcases h with ⟨b, hb, h1, h2⟩ | ⟨hb, h2⟩
      case inr =>
        refine next _ _ (.skip j want s hg hj (.inr hb) (fun x => by rw [St.g_put]) ?_ ?_) h2
        · cases o.dst <;> rfl
        · cases o.dst <;> rfl
      case inl =>
        have hput : ∀ c, b = c → ∀ x, (σ.put (some s) (.bool c)).g x = σ.g x := fun c e x => by
          subst e
          rw [St.g_put]; split
          · rename_i e; cases e; exact hb.symm
          · rfl
        by_cases hbw : b = want
        · obtain ⟨r, k1, k2, k3, k4⟩ := aop_pure heo (aopL_no hL (h1 hbw))
          have hp := hput want hbw
          rw [e_congr hp] at k1
          refine next _ _ (.run r (fun j' want' e => ?_) k1 (freshT_congr (σ := σ) (σ' := σ.put (some s) (.bool want)) rfl k2) (freshB_congr (σ := σ) (σ' := σ.put (some s) (.bool want)) rfl k3) (fun x => ?_) rfl rfl) k4
          · rw [hg] at e; cases e; exact ⟨s, hj, by rw [hb, hbw]⟩
          · have : ((σ.put (some s) (.bool want)).add o.dst r).g x = ((σ.put (some s) (.bool want)).put o.dst r.v).g x := rfl
            rw [this, St.g_put, hp]
        · have hbn : b = !want := by cases b <;> cases want <;> simp_all
          have hp := hput (!want) hbn
          refine next _ _ (.skip j want s hg hj (.inl (by rw [hb, hbn])) (fun x => by rw [St.g_put, hp]) ?_ ?_) (h2 hbn)
          · cases o.dst <;> rfl
          · cases o.dst <;> rfl
theorem chain_states : ∀ {l : List Oper} {i : Nat} {σ σ' : St}, Chain P ops base i l σ σ' → ∃ (f : Nat → St) (r : Nat → Option Res), f i = σ ∧ f (i + l.length) = σ' ∧ ∀ j o, l[j]? = some o → HS P ops base (i + j) o (f (i + j)) (f (i + j + 1)) (r (i + j))
  | [], i, σ, σ', h => ⟨fun _ => σ, fun _ => none, rfl, by simp only [Chain] at h; exact h, fun j o h => by simp at h⟩
  | o :: l, i, σ, σ', h => by
    obtain ⟨r0, σm, h1, h2⟩ := h
    obtain ⟨f, r, k1, k2, k3⟩ := chain_states h2
    refine ⟨fun x => if x = i then σ else f x, fun x => if x = i then r0 else r x, by simp, ?_, fun j o' ho' => ?_⟩
    · show (if i + (o :: l).length = i then σ else f (i + (o :: l).length)) = σ'
      rw [if_neg (by simp), List.length_cons, show i + (l.length + 1) = i + 1 + l.length from by omega]; exact k2
    · cases j with
      | zero =>
        simp only [List.getElem?_cons_zero, Option.some.injEq] at ho'
        subst ho'
        simp only [Nat.add_zero, if_true, if_neg (show i + 1 ≠ i by omega), k1]
        exact h1
      | succ j =>
        have := k3 j o' (by simpa using ho')
        simp only [if_neg (show i + (j + 1) ≠ i by omega), if_neg (show i + (j + 1) + 1 ≠ i by omega)]
        rw [show i + (j + 1) = i + 1 + j from by omega]
        exact this

end

/-! ### What the states of the run have in common -/
section
variable {P : Program} {ops : Array Oper} {base : Nat} {l : List Oper} {f : Nat → St} {r : Nat → Option Res}
/-- A chain of n steps over the first operations of l. -/
structure Run (P : Program) (ops : Array Oper) (base : Nat) (l : List Oper) (n : Nat) (f : Nat → St) (r : Nat → Option Res) : Prop where
  st : ∀ i o, i < n → l[i]? = some o → HS P ops base i o (f i) (f (i + 1)) (r i)
  le : n ≤ l.length
  un : ∀ i j o o' d, i < n → j < n → l[i]? = some o → l[j]? = some o' → o.dst = some d → o'.dst = some d → i = j
variable {n : Nat} (R : Run P ops base l n f r)
include R
theorem Run.op {i : Nat} (hi : i < n) : ∃ o, l[i]? = some o := ⟨l[i]'(by have := R.le; omega), List.getElem?_eq_getElem _⟩
theorem Run.g_step {i : Nat} (hi : i < n) {o : Oper} (ho : l[i]? = some o) (x : Nat) (hx : o.dst ≠ some x) : (f (i + 1)).g x = (f i).g x := by
  have hst := R.st i o hi ho
  generalize r i = ri at hst
  cases hst with
  | run rr hg hev hft hfb hs ht hb => rw [hs, if_neg hx]
  | skip j want s hg hj hb hs ht hb' => rw [hs, if_neg hx]
theorem Run.look_t {i : Nat} (hi : i < n) {x : Nat} {y : Option Tok} (h : look (f i).t x = some y) : look (f (i + 1)).t x = some y := by
  obtain ⟨o, ho⟩ := R.op hi
  have hst := R.st i o hi ho
  generalize r i = ri at hst
  cases hst with
  | run rr hg hev hft hfb hs ht hb =>
    rw [ht, addT_old]
    · exact h
    · intro z hz e
      have := freshT_spec hft z hz
      rw [e, h] at this; cases this
  | skip j want s hg hj hb hs ht hb' => rw [ht]; exact h
theorem Run.look_b {i : Nat} (hi : i < n) {x : Nat} {y : Option (List AV)} (h : look (f i).b x = some y) : look (f (i + 1)).b x = some y := by
  obtain ⟨o, ho⟩ := R.op hi
  have hst := R.st i o hi ho
  generalize r i = ri at hst
  cases hst with
  | run rr hg hev hft hfb hs ht hb =>
    rw [hb, addB_old]
    · exact h
    · intro z hz e
      have := freshB_spec hfb z hz
      rw [e, h] at this; cases this
  | skip j want s hg hj hb hs ht hb' => rw [hb']; exact h
theorem Run.look_t' : ∀ {k i : Nat}, i + k ≤ n → ∀ {x : Nat} {y : Option Tok}, look (f i).t x = some y → look (f (i + k)).t x = some y
  | 0, i, _, x, y, h => h
  | k + 1, i, hk, x, y, h => R.look_t (i := i + k) (by omega) (Run.look_t' (k := k) (by omega) h)
theorem Run.look_b' : ∀ {k i : Nat}, i + k ≤ n → ∀ {x : Nat} {y : Option (List AV)}, look (f i).b x = some y → look (f (i + k)).b x = some y
  | 0, i, _, x, y, h => h
  | k + 1, i, hk, x, y, h => R.look_b (i := i + k) (by omega) (Run.look_b' (k := k) (by omega) h)
theorem Run.look_te {i j : Nat} (hij : i ≤ j) (hj : j ≤ n) {x : Nat} {y : Option Tok} (h : look (f i).t x = some y) : look (f j).t x = some y := by
  have := R.look_t' (k := j - i) (i := i) (by omega) h
  rwa [show i + (j - i) = j from by omega] at this
theorem Run.look_be {i j : Nat} (hij : i ≤ j) (hj : j ≤ n) {x : Nat} {y : Option (List AV)} (h : look (f i).b x = some y) : look (f j).b x = some y := by
  have := R.look_b' (k := j - i) (i := i) (by omega) h
  rwa [show i + (j - i) = j from by omega] at this
/-- A slot that none of the steps writes. -/
theorem Run.g_same : ∀ {k i : Nat}, i + k ≤ n → ∀ {x : Nat}, (∀ j o, i ≤ j → j < i + k → l[j]? = some o → o.dst ≠ some x) → (f (i + k)).g x = (f i).g x
  | 0, i, _, x, h => rfl
  | k + 1, i, hk, x, h => by
    obtain ⟨o, ho⟩ := R.op (i := i + k) (by omega)
    have h1 := R.g_step (i := i + k) (by omega) ho x (h (i + k) o (by omega) (by omega) ho)
    rw [show i + (k + 1) = i + k + 1 from by omega, h1]
    exact Run.g_same (k := k) (by omega) fun j o hj hj' => h j o hj (by omega)
/-- What a slot holds at the end, if step i writes it. -/
theorem Run.g_final {i : Nat} (hi : i < n) {o : Oper} (ho : l[i]? = some o) {x : Nat} (hx : o.dst = some x) {j : Nat} (hj : i < j) (hjn : j ≤ n) : (f j).g x = (f (i + 1)).g x := by
  have := R.g_same (k := j - (i + 1)) (i := i + 1) (by omega) (x := x) fun j' o' h1 h2 ho' hx' => by
    have := R.un i j' o o' x hi (by omega) ho ho' hx hx'
    omega
  rwa [show i + 1 + (j - (i + 1)) = j from by omega] at this
end
end Go.Proofs.Ytfbnlkaggggmiaa.Ab
