/-
  From a row's reading of the arguments to the abstract walk's: data trees of the one form and of the other, what reads is such as memory can hold, a law's call.
-/
import Derived.Test.YtgigfdghecdlgaaAbY
import Derived.Test.YtgigfdghecdlgaaReads
import Derived.HandedShaped
namespace Go.Proofs.Ytgigfdghecdlgaa.Ab
set_option linter.unusedVariables false
open Go.RowKit

mutual
def cv : Go.Proofs.Ytgigfdghecdlgaa.D → D
  | .int k n => .int k n
  | .bool b => .bool b
  | .str s => .str s
  | .sl _ xs => .sl (cvR xs)
def cvR : List (List Go.Proofs.Ytgigfdghecdlgaa.D) → List (List D)
  | [] => []
  | x :: xs => cvC x :: cvR xs
def cvC : List Go.Proofs.Ytgigfdghecdlgaa.D → List D
  | [] => []
  | d :: ds => cv d :: cvC ds
end
theorem cvR_len : ∀ xs : List (List Go.Proofs.Ytgigfdghecdlgaa.D), (cvR xs).length = xs.length
  | [] => rfl
  | x :: xs => by rw [cvR, List.length_cons, List.length_cons, cvR_len xs]
theorem cvC_len : ∀ xs : List Go.Proofs.Ytgigfdghecdlgaa.D, (cvC xs).length = xs.length
  | [] => rfl
  | x :: xs => by rw [cvC, List.length_cons, List.length_cons, cvC_len xs]
theorem cvC_append : ∀ xs ys : List Go.Proofs.Ytgigfdghecdlgaa.D, cvC (xs ++ ys) = cvC xs ++ cvC ys
  | [], ys => rfl
  | x :: xs, ys => by rw [List.cons_append, cvC, cvC, cvC_append xs ys]; rfl
mutual
theorem cv_rep {w} : ∀ {d} {v}, Go.Proofs.Ytgigfdghecdlgaa.Rep w d v → Rep w (cv d) v
  | .int k n, v, h => by simpa [Go.Proofs.Ytgigfdghecdlgaa.Rep, cv, Rep] using h
  | .bool b, v, h => by simpa [Go.Proofs.Ytgigfdghecdlgaa.Rep, cv, Rep] using h
  | .str s, v, h => by simpa [Go.Proofs.Ytgigfdghecdlgaa.Rep, cv, Rep] using h
  | .sl sz xs, v, h => by
    simp only [Go.Proofs.Ytgigfdghecdlgaa.Rep] at h
    obtain ⟨a, c, hv, h1, h2, h3⟩ := h
    simp only [cv, Rep, cvR_len]
    refine ⟨a, c, hv, h1, h2, ?_⟩
    rcases h3 with h3 | ⟨b, off, ha, hr⟩
    · exact .inl (by rw [h3]; rfl)
    · exact .inr ⟨sz, b, off, ha, cvR_rep hr⟩
theorem cvR_rep {w} {sz b} : ∀ {off} {xs}, Go.Proofs.Ytgigfdghecdlgaa.RepR w sz b off xs → RepR w sz b off (cvR xs)
  | _, [], _ => by simp [cvR, RepR]
  | off, x :: xs, h => by
    simp only [Go.Proofs.Ytgigfdghecdlgaa.RepR] at h
    simp only [cvR, RepR]
    exact ⟨by rw [cvC_len]; exact h.1, cvC_rep h.2.1, cvR_rep h.2.2⟩
theorem cvC_rep {w} {b} : ∀ {off} {ds}, Go.Proofs.Ytgigfdghecdlgaa.RepC w b off ds → RepC w b off (cvC ds)
  | _, [], _ => by simp [cvC, RepC]
  | off, d :: ds, h => by
    simp only [Go.Proofs.Ytgigfdghecdlgaa.RepC] at h
    simp only [cvC, RepC]
    obtain ⟨⟨u, hu, hr⟩, h2⟩ := h
    exact ⟨⟨u, hu, cv_rep hr⟩, cvC_rep h2⟩
end

/-! ### What reads is such as memory can hold -/
mutual
def D.ok : D → Prop
  | .gone => True
  | .int k n => (Lit.int k n).wf = true
  | .bool _ => True
  | .str s => s.size ≤ maxLen
  | .sl rows => rows.length ≤ maxLen ∧ oksR rows
  | .fz rows => rows.length ≤ maxLen ∧ oksR rows
  | .ptr ds => oksC ds
  | .nilp => True
def oksR : List (List D) → Prop
  | [] => True
  | r :: rs => oksC r ∧ oksR rs
def oksC : List D → Prop
  | [] => True
  | d :: ds => D.ok d ∧ oksC ds
end
mutual
theorem Rep.ok {w} : ∀ {d} {v}, Rep w d v → D.ok d
  | .gone, v, h => by simp only [D.ok]
  | .int k n, v, h => by simp only [Rep] at h; simp only [D.ok]; exact h.2
  | .bool b, v, h => by simp only [D.ok]
  | .str s, v, h => by simp only [Rep] at h; simp only [D.ok]; exact h.2
  | .sl rows, v, h => by
    simp only [Rep] at h
    obtain ⟨a, c, hv, h1, h2, h3⟩ := h
    simp only [D.ok]
    refine ⟨Nat.le_trans h1 h2, ?_⟩
    rcases h3 with h3 | ⟨sz, b, off, ha, hr⟩
    · rw [h3]; simp [oksR]
    · exact RepR.ok hr
  | .fz rows, v, h => by
    simp only [Rep] at h
    obtain ⟨a, c, hv, h1, h2, h3⟩ := h
    simp only [D.ok]
    refine ⟨Nat.le_trans h1 h2, ?_⟩
    rcases h3 with h3 | ⟨sz, b, off, ha, hr⟩
    · rw [h3]; simp [oksR]
    · exact RepR.ok hr
  | .ptr ds, v, h => by
    simp only [Rep] at h
    obtain ⟨b, off, hv, hc⟩ := h
    simp only [D.ok]
    exact RepC.ok hc
  | .nilp, v, h => by simp only [D.ok]
theorem RepR.ok {w} {sz b} : ∀ {off} {xs}, RepR w sz b off xs → oksR xs
  | _, [], _ => by simp [oksR]
  | off, x :: xs, h => by
    simp only [RepR] at h
    simp only [oksR]
    exact ⟨RepC.ok h.2.1, RepR.ok h.2.2⟩
theorem RepC.ok {w} {b} : ∀ {off} {ds}, RepC w b off ds → oksC ds
  | _, [], _ => by simp [oksC]
  | off, d :: ds, h => by
    simp only [RepC] at h
    simp only [oksC]
    obtain ⟨⟨u, hu, hr⟩, h2⟩ := h
    exact ⟨Rep.ok hr, RepC.ok h2⟩
end
theorem oksR_mem {α : Type} {f : α → List D} {x : α} : ∀ {l : List α}, oksR (List.map f l) → x ∈ l → oksC (f x)
  | y :: ys, h, hx => by
    rw [List.map_cons] at h
    simp only [oksR] at h
    rcases List.mem_cons.1 hx with rfl | hx
    · exact h.1
    · exact oksR_mem h.2 hx
/-- A struct that came in, as values. -/
theorem vsims_of {w} : ∀ {ds} {vs}, Go.Proofs.Ytgigfdghecdlgaa.Reps w ds vs → VSims w Gh.none ((cvC ds).map ofD) vs ∧ oksC (cvC ds)
  | [], [], _ => by simp [cvC, VSims, oksC]
  | d :: ds, v :: vs, h => by
    obtain ⟨h1, h2⟩ := vsims_of h.2
    have h3 := cv_rep h.1
    simp only [cvC, List.map_cons, VSims, oksC]
    exact ⟨⟨v, vs, rfl, VSim.of_rep h3, h1⟩, Rep.ok h3, h2⟩
  | [], _ :: _, h => h.elim
  | _ :: _, [], h => h.elim

/-! ### Types -/
theorem typed_int {P} {n} {t} {k} {ds} (ht : P.underlying t = some (.int k)) (h : Typed P n t ds) : ∃ z, ds = [.int k z] := by
  cases n with
  | zero => simp [Typed] at h
  | succ n => unfold Typed at h; rw [ht] at h; exact h
theorem typed_str {P} {n} {t} {ds} (ht : P.underlying t = some .string) (h : Typed P n t ds) : ∃ s, ds = [.str s] := by
  cases n with
  | zero => simp [Typed] at h
  | succ n => unfold Typed at h; rw [ht] at h; exact h
theorem typed_bool {P} {n} {t} {ds} (ht : P.underlying t = some .bool) (h : Typed P n t ds) : ∃ b, ds = [.bool b] := by
  cases n with
  | zero => simp [Typed] at h
  | succ n => unfold Typed at h; rw [ht] at h; exact h
theorem typed_st {P} {n} {t} {fs} {ds} (ht : P.underlying t = some (.struct fs)) (h : Typed P n t ds) : ∃ m, m < n ∧ Parts (Typed P m) fs.toList ds := by
  cases n with
  | zero => simp [Typed] at h
  | succ n => unfold Typed at h; rw [ht] at h; exact ⟨n, Nat.lt_succ_self n, h⟩
theorem typed_sl {α : Type} (f : α → List D) {P} {n} {t e} {ds} (ht : P.underlying t = some (.slice e)) (hx : ∀ m x, m < n → Typed P m e x → ∃ a, cvC x = f a) (h : Typed P n t ds) :
    ∃ xs : List α, cvC ds = [.sl (List.map f xs)] := by
  cases n with
  | zero => simp [Typed] at h
  | succ n =>
    unfold Typed at h
    rw [ht] at h
    obtain ⟨xs, rfl, hxs⟩ := h
    suffices ∃ zs : List α, cvR xs = zs.map f by
      obtain ⟨zs, hz⟩ := this
      exact ⟨zs, by rw [cvC, cv, hz]; rfl⟩
    induction xs with
    | nil => exact ⟨[], rfl⟩
    | cons x xs ih =>
      obtain ⟨z, hz⟩ := hx n x (Nat.lt_succ_self n) (hxs x (by simp))
      obtain ⟨zs, hzs⟩ := ih fun y hy => hxs y (by simp [hy])
      exact ⟨z :: zs, by rw [cvR, hz, hzs]; rfl⟩

/-! ### A law's call -/
theorem low_le {P : Program} {w : World} (h : w.ShapedOpen P) (hl : decide (P.globals.size < P.low) = true) : P.low ≤ w.heap.size := by
  have hl' := of_decide_eq_true hl
  unfold Program.low at hl' ⊢
  obtain ⟨o, o₀, h1, -⟩ := h.2 ((begin P (fun _ _ => 0) default).world.heap.size - 1) (by omega) (by omega)
  have := lt_of_block h1
  omega
theorem law_calls {P : Program} {f : FuncId} {as : List AV} {us : List Value} {w : World} (h : AC P f as (.bool true)) (hsh : w.ShapedOpen P) (hl : decide (P.globals.size < P.low) = true) (ham : Amb P w) (hv : VSims w Gh.none as us) :
    Calls P f us.toArray w fun e w' => e = .returned (.bool true) ∧ Below w.heap.size w w' := by
  refine (h.2 w us hsh (low_le hsh hl) ham hv).mono ?_
  rintro e w' ⟨v, fp, rfl, h1, -, -, h2⟩
  simp only [RSim] at h1
  exact ⟨by rw [h1.1], h2⟩
theorem vsim_agg {w} {vs} {cs} (h : VSims w Gh.none vs (Value.agg cs).cells.toList) : VSim w Gh.none (.agg vs) (.agg cs) := by
  simp only [VSim]
  exact ⟨cs.toList, by simp, by simpa [Value.cells] using h⟩
end Go.Proofs.Ytgigfdghecdlgaa.Ab
