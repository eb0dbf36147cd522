/-
  The abstract walk as rules, fourth part: results, loops, ranges of numbers.
-/
import Derived.Test.YtfbnlkaggggmiaaAbV
import Derived.IntWalk
namespace Go.Proofs.Ytfbnlkaggggmiaa.Ab
set_option linter.unusedVariables false
open Go.RowKit
section
variable {P : Program} {σ : St} {K : St → Prop} {Q : AE → St → Prop}

@[go_sem] theorem wrap64 {n : Int} (h1 : -9223372036854775808 ≤ n) (h2 : n ≤ 9223372036854775807) : IntKind.i64.wrap n = n := Go.IntWalk.i64_in n ⟨h1, h2⟩

/-! Results. -/
@[go_sem ↓] theorem resA_nil {K : List AV → Prop} : ResA P σ [] K = K [] := rfl
@[go_sem ↓] theorem resA_tmp {t : Tmp} {l : List ResultVar} {K : List AV → Prop} : ResA P σ (.tmp t :: l) K = valX (σ.g t) fun v => ResA P σ l fun vs => K (v :: vs) := rfl
@[go_sem ↓] theorem resA_cell {a : Tmp} {t : TypeId} {l : List ResultVar} {K : List AV → Prop} : ResA P σ (.cell a t :: l) K = loadX P t (σ.g a) σ fun v => ResA P σ l fun vs => K (v :: vs) := rfl
@[go_sem] theorem ret_int {k : IntKind} {n m : Int} : RetR (.int k n) (.int k m) σ K = andX (n = m) (K σ) := by simp [RetR, andX]
@[go_sem] theorem ret_bool {b c : Bool} : RetR (.bool b) (.bool c) σ K = andX (b = c) (K σ) := by simp [RetR, andX]
@[go_sem] theorem ret_str {s s' : ByteArray} : RetR (.str s) (.str s') σ K = andX (s = s') (K σ) := by simp [RetR, andX]
@[go_sem] theorem ret_nilp : RetR .nilp .nilp σ K = K σ := by simp [RetR]
@[go_sem] theorem ret_nils {ap : Option Nat} {rows : List (List D)} : RetR .nils (.ow ap rows) σ K = andX (rows = []) (K σ) := by simp [RetR, andX]
@[go_sem] theorem ret_bsl {b n sz : Nat} {ap : Option Nat} {rows : List (List D)} : RetR (.bsl b n sz) (.ow ap rows) σ K = andX (n = 0) (andX (rows = []) (K σ)) := by simp only [RetR, andX]
@[go_sem] theorem ret_own {t : Nat} {ap : Option Nat} {rows : List (List D)} : RetR (.own t) (.ow ap rows) σ K = optX (σ.T t) fun tk => andX (tk.rows = rows) (andX (ap = none ∨ tk.sz = ap) (K (σ.killT t))) := by simp only [RetR, andX, optX]
@[go_sem] theorem ret_ror {rows rows' : List (List D)} : RetR (.ro rows) (.ro rows') σ K = andX (rows = rows') (K σ) := by simp only [RetR, andX]
@[go_sem] theorem ret_roo {rows rows' : List (List D)} : RetR (.ro rows) (.ow none rows') σ K = andX (rows = []) (andX (rows' = []) (K σ)) := by simp [RetR, andX]
@[go_sem] theorem ret_agg {vs : List AV} {rs : List RV} : RetR (.agg vs) (.agg rs) σ K = RetRs vs rs σ K := by simp only [RetR]
@[go_sem] theorem ret_tup {vs : List AV} {rs : List RV} : RetR (.tup vs) (.tup rs) σ K = RetRs vs rs σ K := by simp only [RetR]
@[go_sem] theorem rets_nil : RetRs [] [] σ K = K σ := by simp only [RetRs]
@[go_sem] theorem rets_cons {v : AV} {vs : List AV} {r : RV} {rs : List RV} : RetRs (v :: vs) (r :: rs) σ K = RetR v r σ fun σ' => RetRs vs rs σ' K := by simp only [RetRs]
def finX (r : RV) (σ : St) (vs : List AV) : Prop := match vs with
  | [v] => RetR v r σ fun _ => True
  | vs => RetR (.tup vs) r σ fun _ => True
@[go_sem ↓] theorem fin_nil {r : RV} : finX r σ [] = RetR (.tup []) r σ fun _ => True := rfl
@[go_sem ↓] theorem fin_one {r : RV} {v : AV} : finX r σ [v] = RetR v r σ fun _ => True := rfl
@[go_sem ↓] theorem fin_two {r : RV} {v u : AV} {vs : List AV} : finX r σ (v :: u :: vs) = RetR (.tup (v :: u :: vs)) r σ fun _ => True := rfl
def endX (P : Program) (l : List ResultVar) (r : RV) (q : AE) (σ : St) : Prop := match q with | .exit _ => False | _ => ResA P σ l (finX r σ)
@[go_sem ↓] theorem end_normal {l : List ResultVar} {r : RV} : endX P l r .normal σ = ResA P σ l (finX r σ) := rfl
@[go_sem ↓] theorem end_ret {l : List ResultVar} {r : RV} : endX P l r .ret σ = ResA P σ l (finX r σ) := rfl

/-- A function, by the walk of its body. -/
theorem ac_fn (hm : P.follows .mixedOrders = true) {f : FuncId} {fn : Func} {c : Code} {l : List ResultVar} {args : List AV} {r : RV} (hf : P.funcs[f]? = some fn) (hb : fn.body = some c) (hr : fn.results = l.toArray) (hnm : (fn.name == "runtime.NumGoroutine") = false)
    (hn : decide (args.length ≤ fn.ntmps) = true) (hok : codeOk fn.ntmps c = true) (h : awp P c (endX P l r) (st0 args)) : AC P f args r := by
  refine ac_of_body hm hf hb hnm (of_decide_eq_true hn) hok ?_
  have e : endQ P fn.results.toList r = endX P l r := by
    rw [hr]
    funext q σ
    cases q <;> rfl
  rw [e]
  exact h
attribute [go_sem] st0 args0

/-! Loops. -/
def againX {X : Type} (R : X → Prop) (inv : X → St) (μ : X → Nat) (x : X) (σ : St) : Prop := ∃ x', Weak σ (inv x') ∧ R x' ∧ μ x' < μ x
def againY {X : Type} (R : X → Prop) (inv : X → St) (μ : X → Nat) (x : X) (σ : St) (_ : Wrap R) (_ : Wrap inv) (_ : Wrap μ) (_ : Wrap x) : Prop := againX R inv μ x σ
@[go_sem ↓] theorem againX_go {X : Type} {R : X → Prop} {inv : X → St} {μ : X → Nat} {x : X} {σ : St} : againX R inv μ x σ = againY R inv μ x σ ⟨⟩ ⟨⟩ ⟨⟩ ⟨⟩ := rfl
theorem x_loop {body : Code} {w1 : Wrap body} {w2 : Wrap Q} {X : Type} (R : X → Prop) (inv : X → St) (μ : X → Nat) (x0 : X) (hw : Weak σ (inv x0)) (hr : R x0) (h : ∀ x, R x → awp P body (AE.then (againX R inv μ x) Q) (inv x)) : loopY P body Q σ w1 w2 := by
  have key : ∀ n x, μ x ≤ n → R x → awp P (.loop body) Q (inv x) := by
    intro n
    induction n with
    | zero =>
      intro x hn hR
      refine loop_unfold (awp_mono (fun q σ hq => ?_) (h x hR))
      cases q with
      | normal => obtain ⟨x', h1, h2, h3⟩ := hq; omega
      | exit id => exact hq
      | ret => exact hq
    | succ n ih =>
      intro x hn hR
      refine loop_unfold (awp_mono (fun q σ hq => ?_) (h x hR))
      cases q with
      | normal => obtain ⟨x', h1, h2, h3⟩ := hq; exact ⟨_, .one h1, ih x' (by omega) h2⟩
      | exit id => exact hq
      | ret => exact hq
  have k0 := key (μ x0) x0 (Nat.le_refl _) hr
  show awp P (.loop body) Q σ
  rw [awp] at k0 ⊢
  intro L hL
  obtain ⟨σ0, h1, h2⟩ := k0 L hL
  exact ⟨σ0, (Wk.one hw).trans h1, h2⟩
theorem wk_of {σ0 : St} (rt rb : List (Nat × Nat)) (h : WeakBy rt rb σ σ0) : Wk σ σ0 := .one ⟨σ, .done σ, rt, rb, h⟩
theorem weak_of {σ0 : St} (rt rb : List (Nat × Nat)) (h : WeakBy rt rb σ σ0) : Weak σ σ0 := ⟨σ, .done σ, rt, rb, h⟩
theorem againX_of {X : Type} {R : X → Prop} {inv : X → St} {μ : X → Nat} {x : X} {w1 : Wrap R} {w2 : Wrap inv} {w3 : Wrap μ} {w4 : Wrap x} (x' : X) (rt rb : List (Nat × Nat)) (h : WeakBy rt rb σ (inv x')) (hr : R x') (hμ : μ x' < μ x) : againY R inv μ x σ w1 w2 w3 w4 := ⟨x', weak_of rt rb h, hr, hμ⟩
attribute [go_sem] WeakBy WeakS WeakT WeakB ren rens known knowns List.nodup_nil List.all_nil List.all_cons AV.int.injEq AV.bool.injEq AV.str.injEq AV.ro.injEq AV.rop.injEq AV.agg.injEq AV.fn.injEq AV.own.injEq AV.box.injEq AV.bsl.injEq AV.elt.injEq List.cons.injEq Tok.mk.injEq Option.isSome_some exists_eq_left' exists_eq_left

/-! Elements. -/
theorem idx_at {rows : List (List D)} {n : Nat} {sz : Nat} {K : List D → Prop} {row : List D} (h : rows[n]? = some row) (hl : row.length = sz) (hk : K row) : idxX rows (n : Int) sz K := ⟨row, ⟨by omega, by simpa using h, hl⟩, hk⟩
end
attribute [go_sem ↓] ret_int ret_bool ret_str ret_nilp ret_nils ret_bsl ret_own ret_ror ret_agg ret_tup rets_nil rets_cons
end Go.Proofs.Ytfbnlkaggggmiaa.Ab
