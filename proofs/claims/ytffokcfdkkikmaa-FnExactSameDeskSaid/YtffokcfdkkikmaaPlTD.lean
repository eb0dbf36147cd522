/-
  The laws' helpers for the types of this group: sizes, copies, comparisons. Printed by wip/ab/genhelp.py. No program is in sight.
-/
import Derived.Test.YtffokcfdkkikmaaModD
import Derived.Test.YtffokcfdkkikmaaPlG
import Derived.Test.YtffokcfdkkikmaaAbZ
import Derived.Test.YtffokcfdkkikmaaPlStr
namespace Go.Proofs.Ytffokcfdkkikmaa.Ab
set_option linter.unusedVariables false
set_option linter.unusedSimpArgs false
open Go.RowKit

mutual
def TType.sz : TType → Nat
  | ⟨x0, x1, x2⟩ => x1.size + (TType.szs x2 + 0)
def TType.szs : List TType → Nat
  | [] => 0
  | c :: cs => 1 + TType.sz c + TType.szs cs
end
theorem TType.szs_eq : ∀ l : List TType, TType.szs l = szl TType.sz l
  | [] => rfl
  | c :: cs => by rw [TType.szs, szl, TType.szs_eq cs]
theorem TType.sz_eq (x : TType) : x.sz = x.name.size + (szl TType.sz x.kids + 0) := by cases x; rw [TType.sz, TType.szs_eq]
theorem TType.eq_iff (x y : TType) : x = y ↔ x.kind = y.kind ∧ x.name = y.name ∧ x.kids = y.kids := by
  cases x; cases y; simp only [TType.mk.injEq]
theorem TType.ind {P : TType → Prop} (h : ∀ c : TType, (∀ k ∈ c.kids, P k) → P c) : ∀ c, P c := by
  suffices ∀ n (c : TType), c.sz < n → P c from fun c => this _ c (Nat.lt_succ_self _)
  intro n
  induction n with
  | zero => intro c hc; omega
  | succ n ih =>
    intro c hc
    refine h c fun k hk => ih k ?_
    have h1 := TType.sz_eq c
    have h2 := szl_mem (s := TType.sz) hk
    omega
inductive TType.Ok : TType → Prop where
  | mk (x : TType) (h_kind : (Lit.int IntKind.i64 x.kind).wf = true) (h_name : x.name.size ≤ 9223372036854775807) (h_kids : x.kids.length ≤ 9223372036854775807) (h : ∀ k ∈ x.kids, TType.Ok k) : TType.Ok x
theorem TType.ok_of : ∀ (x : TType) (h : oksC (TType.ds x)), x.Ok := by
  refine TType.ind fun x ih h => ?_
  rw [TType.ds_eq] at h
  simp only [oksC, D.ok, List.length_map] at h
  obtain ⟨h1, h2, h3, -⟩ := h
  exact ⟨x, (h1), (h2), h3.1, fun k hk => ih k hk (oksR_mem h3.2 hk)⟩
theorem l_szTypeS_of (l : List TType) (hl : l.length ≤ 9223372036854775807) (ih : ∀ x ∈ l, ∀ (left n : Nat), left ≤ 1048576 → 4 * left + 4 ≤ n → l_szType n x left = some (szr x.sz left)) (left n : Nat) (h1 : left ≤ 1048576) (hn : 4 * left + 3 ≤ n) : l_szTypeS n l left = some (szr (szl TType.sz l) left) := by
  obtain ⟨n, rfl⟩ : ∃ m, n = m + 1 := ⟨n - 1, by omega⟩
  rw [l_szTypeS]
  exact gSzF (fun n p i => l_szTypeS_l1 n l p i) l_szType TType.sz l (fun n p i => by rw [l_szTypeS_l1]) left n h1 ih hl (by omega)
theorem szType_eq : ∀ (x : TType), x.Ok → ∀ (left : Nat), left ≤ 1048576 → ∀ n, 4 * left + 4 ≤ n → l_szType n x left = some (szr x.sz left) := by
  suffices ∀ (x : TType), x.Ok → ∀ (left n : Nat), left ≤ 1048576 → 4 * left + 4 ≤ n → l_szType n x left = some (szr x.sz left) from fun x h left h1 n => this x h left n h1
  refine TType.ind fun x ih h left n h1 hn => ?_
  obtain ⟨_, h_kind, h_name, h_kids, hks⟩ := h
  obtain ⟨n, rfl⟩ : ∃ m, n = m + 1 := ⟨n - 1, by omega⟩
  rw [l_szType, TType.sz_eq]
  exact sz_here2 (by omega) h_name fun _ ew => (by rw [ew]; exact sz_step (l_szTypeS_of x.kids h_kids (fun y hy => ih y hy (hks y hy)) _ n (by omega) (by omega)) fun _ => sz_end)
theorem szTypeS_eq (l : List TType) (hl : l.length ≤ 9223372036854775807) (h : ∀ x ∈ l, x.Ok) (left : Nat) (h1 : left ≤ 1048576) (n : Nat) (hn : 4 * left + 3 ≤ n) : l_szTypeS n l left = some (szr (szl TType.sz l) left) :=
  l_szTypeS_of l hl (fun x hx left n h1 hn => szType_eq x (h x hx) left h1 n hn) left n h1 hn
theorem l_toTypeS_of (l : List TType) (hl : szl TType.sz l ≤ Big) (ih : ∀ x ∈ l, x.sz ≤ Big → ∀ n, 4 * x.sz + 4 ≤ n → l_toType n x = some x) (n : Nat) (hn : 4 * szl TType.sz l + 3 ≤ n) : l_toTypeS n l = some l := by
  obtain ⟨n, rfl⟩ : ∃ m, n = m + 1 := ⟨n - 1, by omega⟩
  rw [l_toTypeS]
  exact gToF (fun n acc i => l_toTypeS_l2 n l acc i) l_toType _ TType.sz l (fun n acc i => by rw [l_toTypeS_l2]) hl ih n (by omega)
theorem toType_eq : ∀ (x : TType), x.sz ≤ Big → ∀ n, 4 * x.sz + 4 ≤ n → l_toType n x = some x := by
  refine TType.ind fun x ih h n hn => ?_
  obtain ⟨n, rfl⟩ : ∃ m, n = m + 1 := ⟨n - 1, by omega⟩
  rw [l_toType]
  rw [l_toTypeS_of x.kids (by have := h; rw [TType.sz_eq] at this; omega) (fun y hy => ih y hy) n (by rw [TType.sz_eq] at hn; omega), bind_some']
  cases x; rfl
theorem toTypeS_eq (l : List TType) (hl : szl TType.sz l ≤ Big) (n : Nat) (hn : 4 * szl TType.sz l + 3 ≤ n) : l_toTypeS n l = some l := l_toTypeS_of l hl (fun x _ => toType_eq x) n hn
theorem l_eqTypeS_of (l : List TType) (hl : szl TType.sz l ≤ Big) (ih : ∀ x ∈ l, x.sz ≤ Big → ∀ n, 4 * x.sz + 4 ≤ n → l_eqType n x x = some true) (n : Nat) (hn : 4 * szl TType.sz l + 3 ≤ n) : l_eqTypeS n l l = some true := by
  obtain ⟨n, rfl⟩ : ∃ m, n = m + 1 := ⟨n - 1, by omega⟩
  rw [l_eqTypeS]
  exact gEqF (fun n i => l_eqTypeS_l1 n l l i) l_eqType TType.sz l (fun n i => by rw [l_eqTypeS_l1]) hl ih n (by omega)
theorem eqType_refl : ∀ (x : TType), x.sz ≤ Big → ∀ n, 4 * x.sz + 4 ≤ n → l_eqType n x x = some true := by
  refine TType.ind fun x ih h n hn => ?_
  obtain ⟨n, rfl⟩ : ∃ m, n = m + 1 := ⟨n - 1, by omega⟩
  rw [l_eqType]
  exact eqr_ifn (by simp) <| eqr_ifn (sameStr_self _) <| eqr_bind (l_eqTypeS_of x.kids (by have := h; rw [TType.sz_eq] at this; omega) (fun y hy => ih y hy) n (by rw [TType.sz_eq] at hn; omega)) <| rfl
theorem eqTypeS_refl (l : List TType) (hl : szl TType.sz l ≤ Big) (n : Nat) (hn : 4 * szl TType.sz l + 3 ≤ n) : l_eqTypeS n l l = some true := l_eqTypeS_of l hl (fun x _ => eqType_refl x) n hn
structure Constructor.Ok (x : Constructor) : Prop where
  name : x.name.size ≤ 9223372036854775807
  fields : (x.fields.length ≤ 9223372036854775807 ∧ ∀ e ∈ x.fields, TType.Ok e)
theorem Constructor.ok_of (x : Constructor) (h : oksC (Constructor.ds x)) : x.Ok := by
  rw [Constructor.ds_eq] at h
  simp only [oksC, D.ok, List.length_map] at h
  obtain ⟨h1, h2, -⟩ := h
  exact ⟨h1, ⟨h2.1, fun e he => TType.ok_of e (oksR_mem h2.2 he)⟩⟩
theorem Constructor.eq_iff (x y : Constructor) : x = y ↔ x.name = y.name ∧ x.fields = y.fields := by
  cases x; cases y; simp only [Constructor.mk.injEq]
def Constructor.sz (x : Constructor) : Nat := x.name.size + (szl TType.sz x.fields + 0)
theorem szConstructor_eq (x : Constructor) (h : x.Ok) (left : Nat) (h1 : left ≤ 1048576) : l_szConstructor x left = some (szr x.sz left) := by
  unfold l_szConstructor Constructor.sz
  exact sz_here2 (by omega) h.name fun _ ew => (by rw [ew]; exact sz_step (szTypeS_eq _ h.fields.1 h.fields.2 _ (by omega) fuel (by rw [fuel_eq]; omega)) fun _ => sz_end)
theorem szConstructorS_eq (l : List Constructor) (hl : l.length ≤ 9223372036854775807) (h : ∀ x ∈ l, x.Ok) (left : Nat) (h1 : left ≤ 1048576) : l_szConstructorS l left = some (szr (szl Constructor.sz l) left) := by
  unfold l_szConstructorS
  exact gSz (fun n p i => l_szConstructorS_l1 n l p i) l_szConstructor Constructor.sz l (fun n p i => by rw [l_szConstructorS_l1]) left h1 (fun x hx k hk => szConstructor_eq x (h x hx) k hk) hl
theorem toConstructor_eq (x : Constructor) (h : x.sz ≤ Big) : l_toConstructor x = some x := by
  unfold l_toConstructor
  rw [toTypeS_eq _ (by have := h; simp only [Constructor.sz] at this; omega) fuel (by have := h; simp only [Constructor.sz] at this; rw [fuel_eq]; unfold Big at *; omega), bind_some']
  first | done | rfl
theorem toConstructorS_eq (l : List Constructor) (hl : szl Constructor.sz l ≤ Big) : l_toConstructorS l = some l := by
  unfold l_toConstructorS
  exact gTo (fun n acc i => l_toConstructorS_l2 n l acc i) l_toConstructor _ l (fun n acc i => by rw [l_toConstructorS_l2]) (by have := szl_len Constructor.sz l; omega) (fun x hx => toConstructor_eq x (by have := szl_mem (s := Constructor.sz) hx; omega))
theorem eqConstructor_refl (x : Constructor) (h : x.sz ≤ Big) : l_eqConstructor x x = some true := by
  unfold l_eqConstructor
  exact eqr_ifn (sameStr_self _) <| eqr_bind (eqTypeS_refl _ (by have := h; simp only [Constructor.sz] at this; omega) fuel (by have := h; simp only [Constructor.sz] at this; rw [fuel_eq]; unfold Big at *; omega)) <| rfl
theorem eqConstructorS_refl (l : List Constructor) (hl : szl Constructor.sz l ≤ Big) : l_eqConstructorS l l = some true := by
  unfold l_eqConstructorS
  exact gEqR (fun n i => l_eqConstructorS_l1 n l l i) l_eqConstructor l (fun n i => by rw [l_eqConstructorS_l1]) (by have := szl_len Constructor.sz l; omega) fun x hx => eqConstructor_refl x (by have := szl_mem (s := Constructor.sz) hx; omega)
structure Data.Ok (x : Data) : Prop where
  name : x.name.size ≤ 9223372036854775807
  cons : (x.cons.length ≤ 9223372036854775807 ∧ ∀ e ∈ x.cons, Constructor.Ok e)
theorem Data.ok_of (x : Data) (h : oksC (Data.ds x)) : x.Ok := by
  rw [Data.ds_eq] at h
  simp only [oksC, D.ok, List.length_map] at h
  obtain ⟨h1, h2, -⟩ := h
  exact ⟨h1, ⟨h2.1, fun e he => Constructor.ok_of e (oksR_mem h2.2 he)⟩⟩
theorem Data.eq_iff (x y : Data) : x = y ↔ x.name = y.name ∧ x.cons = y.cons := by
  cases x; cases y; simp only [Data.mk.injEq]
def Data.sz (x : Data) : Nat := x.name.size + (szl Constructor.sz x.cons + 0)
theorem szData_eq (x : Data) (h : x.Ok) (left : Nat) (h1 : left ≤ 1048576) : l_szData x left = some (szr x.sz left) := by
  unfold l_szData Data.sz
  exact sz_here2 (by omega) h.name fun _ ew => (by rw [ew]; exact sz_step (szConstructorS_eq _ h.cons.1 h.cons.2 _ (by omega)) fun _ => sz_end)
theorem szDataS_eq (l : List Data) (hl : l.length ≤ 9223372036854775807) (h : ∀ x ∈ l, x.Ok) (left : Nat) (h1 : left ≤ 1048576) : l_szDataS l left = some (szr (szl Data.sz l) left) := by
  unfold l_szDataS
  exact gSz (fun n p i => l_szDataS_l1 n l p i) l_szData Data.sz l (fun n p i => by rw [l_szDataS_l1]) left h1 (fun x hx k hk => szData_eq x (h x hx) k hk) hl
theorem toData_eq (x : Data) (h : x.sz ≤ Big) : l_toData x = some x := by
  unfold l_toData
  rw [toConstructorS_eq _ (by have := h; simp only [Data.sz] at this; omega), bind_some']
  first | done | rfl
theorem toDataS_eq (l : List Data) (hl : szl Data.sz l ≤ Big) : l_toDataS l = some l := by
  unfold l_toDataS
  exact gTo (fun n acc i => l_toDataS_l2 n l acc i) l_toData _ l (fun n acc i => by rw [l_toDataS_l2]) (by have := szl_len Data.sz l; omega) (fun x hx => toData_eq x (by have := szl_mem (s := Data.sz) hx; omega))
theorem eqData_refl (x : Data) (h : x.sz ≤ Big) : l_eqData x x = some true := by
  unfold l_eqData
  exact eqr_ifn (sameStr_self _) <| eqr_bind (eqConstructorS_refl _ (by have := h; simp only [Data.sz] at this; omega)) <| rfl
theorem eqDataS_refl (l : List Data) (hl : szl Data.sz l ≤ Big) : l_eqDataS l l = some true := by
  unfold l_eqDataS
  exact gEqR (fun n i => l_eqDataS_l1 n l l i) l_eqData l (fun n i => by rw [l_eqDataS_l1]) (by have := szl_len Data.sz l; omega) fun x hx => eqData_refl x (by have := szl_mem (s := Data.sz) hx; omega)
mutual
def Term.sz : Term → Nat
  | ⟨x0, x1, x2, x3, x4, x5⟩ => x2.size + (x3.sz + ((x4.length + strSz x4) + (Term.szs x5 + 0)))
def Term.szs : List Term → Nat
  | [] => 0
  | c :: cs => 1 + Term.sz c + Term.szs cs
end
theorem Term.szs_eq : ∀ l : List Term, Term.szs l = szl Term.sz l
  | [] => rfl
  | c :: cs => by rw [Term.szs, szl, Term.szs_eq cs]
theorem Term.sz_eq (x : Term) : x.sz = x.name.size + (x.typ.sz + ((x.names.length + strSz x.names) + (szl Term.sz x.kids + 0))) := by cases x; rw [Term.sz, Term.szs_eq]
theorem Term.eq_iff (x y : Term) : x = y ↔ x.kind = y.kind ∧ x.num = y.num ∧ x.name = y.name ∧ x.typ = y.typ ∧ x.names = y.names ∧ x.kids = y.kids := by
  cases x; cases y; simp only [Term.mk.injEq]
theorem Term.ind {P : Term → Prop} (h : ∀ c : Term, (∀ k ∈ c.kids, P k) → P c) : ∀ c, P c := by
  suffices ∀ n (c : Term), c.sz < n → P c from fun c => this _ c (Nat.lt_succ_self _)
  intro n
  induction n with
  | zero => intro c hc; omega
  | succ n ih =>
    intro c hc
    refine h c fun k hk => ih k ?_
    have h1 := Term.sz_eq c
    have h2 := szl_mem (s := Term.sz) hk
    omega
inductive Term.Ok : Term → Prop where
  | mk (x : Term) (h_kind : (Lit.int IntKind.i64 x.kind).wf = true) (h_num : (Lit.int IntKind.i64 x.num).wf = true) (h_name : x.name.size ≤ 9223372036854775807) (h_typ : TType.Ok x.typ) (h_names : (x.names.length ≤ 9223372036854775807 ∧ ∀ e ∈ x.names, e.size ≤ 9223372036854775807)) (h_kids : x.kids.length ≤ 9223372036854775807) (h : ∀ k ∈ x.kids, Term.Ok k) : Term.Ok x
theorem Term.ok_of : ∀ (x : Term) (h : oksC (Term.ds x)), x.Ok := by
  refine Term.ind fun x ih h => ?_
  rw [Term.ds_eq] at h
  simp only [oksC, D.ok, List.length_map] at h
  obtain ⟨h1, h2, h3, h4, h5, h6, h7, h8, -⟩ := h
  exact ⟨x, (h1), (h2), (h3), (TType.ok_of _ (by rw [TType.ds_eq]; simp only [oksC, D.ok, List.length_map]; exact ⟨h4, h5, h6, trivial⟩)), (⟨h7.1, fun e he => by have := (oksR_mem h7.2 he); simp only [strD, oksC, D.ok] at this; exact this.1⟩), h8.1, fun k hk => ih k hk (oksR_mem h8.2 hk)⟩
theorem l_szTermS_of (l : List Term) (hl : l.length ≤ 9223372036854775807) (ih : ∀ x ∈ l, ∀ (left n : Nat), left ≤ 1048576 → 4 * left + 4 ≤ n → l_szTerm n x left = some (szr x.sz left)) (left n : Nat) (h1 : left ≤ 1048576) (hn : 4 * left + 3 ≤ n) : l_szTermS n l left = some (szr (szl Term.sz l) left) := by
  obtain ⟨n, rfl⟩ : ∃ m, n = m + 1 := ⟨n - 1, by omega⟩
  rw [l_szTermS]
  exact gSzF (fun n p i => l_szTermS_l1 n l p i) l_szTerm Term.sz l (fun n p i => by rw [l_szTermS_l1]) left n h1 ih hl (by omega)
theorem szTerm_eq : ∀ (x : Term), x.Ok → ∀ (left : Nat), left ≤ 1048576 → ∀ n, 4 * left + 4 ≤ n → l_szTerm n x left = some (szr x.sz left) := by
  suffices ∀ (x : Term), x.Ok → ∀ (left n : Nat), left ≤ 1048576 → 4 * left + 4 ≤ n → l_szTerm n x left = some (szr x.sz left) from fun x h left h1 n => this x h left n h1
  refine Term.ind fun x ih h left n h1 hn => ?_
  obtain ⟨_, h_kind, h_num, h_name, h_typ, h_names, h_kids, hks⟩ := h
  obtain ⟨n, rfl⟩ : ∃ m, n = m + 1 := ⟨n - 1, by omega⟩
  rw [l_szTerm, Term.sz_eq]
  exact sz_here2 (by omega) h_name fun _ ew => (by rw [ew]; exact sz_step (szType_eq _ h_typ _ (by omega) fuel (by rw [fuel_eq]; omega)) fun _ => sz_step (szStringS_eq _ _ (by omega) h_names.1 h_names.2) fun _ => sz_step (l_szTermS_of x.kids h_kids (fun y hy => ih y hy (hks y hy)) _ n (by omega) (by omega)) fun _ => sz_end)
theorem szTermS_eq (l : List Term) (hl : l.length ≤ 9223372036854775807) (h : ∀ x ∈ l, x.Ok) (left : Nat) (h1 : left ≤ 1048576) (n : Nat) (hn : 4 * left + 3 ≤ n) : l_szTermS n l left = some (szr (szl Term.sz l) left) :=
  l_szTermS_of l hl (fun x hx left n h1 hn => szTerm_eq x (h x hx) left h1 n hn) left n h1 hn
theorem l_toTermS_of (l : List Term) (hl : szl Term.sz l ≤ Big) (ih : ∀ x ∈ l, x.sz ≤ Big → ∀ n, 4 * x.sz + 4 ≤ n → l_toTerm n x = some x) (n : Nat) (hn : 4 * szl Term.sz l + 3 ≤ n) : l_toTermS n l = some l := by
  obtain ⟨n, rfl⟩ : ∃ m, n = m + 1 := ⟨n - 1, by omega⟩
  rw [l_toTermS]
  exact gToF (fun n acc i => l_toTermS_l2 n l acc i) l_toTerm _ Term.sz l (fun n acc i => by rw [l_toTermS_l2]) hl ih n (by omega)
theorem toTerm_eq : ∀ (x : Term), x.sz ≤ Big → ∀ n, 4 * x.sz + 4 ≤ n → l_toTerm n x = some x := by
  refine Term.ind fun x ih h n hn => ?_
  obtain ⟨n, rfl⟩ : ∃ m, n = m + 1 := ⟨n - 1, by omega⟩
  rw [l_toTerm]
  rw [toType_eq _ (by have := h; rw [Term.sz_eq] at this; omega) fuel (by have := h; rw [Term.sz_eq] at this; rw [fuel_eq]; unfold Big at *; omega), bind_some']
  rw [toStringS_eq _ (by have := h; rw [Term.sz_eq] at this; omega), bind_some']
  rw [l_toTermS_of x.kids (by have := h; rw [Term.sz_eq] at this; omega) (fun y hy => ih y hy) n (by rw [Term.sz_eq] at hn; omega), bind_some']
  cases x; rfl
theorem toTermS_eq (l : List Term) (hl : szl Term.sz l ≤ Big) (n : Nat) (hn : 4 * szl Term.sz l + 3 ≤ n) : l_toTermS n l = some l := l_toTermS_of l hl (fun x _ => toTerm_eq x) n hn
theorem l_eqTermS_of (l : List Term) (hl : szl Term.sz l ≤ Big) (ih : ∀ x ∈ l, x.sz ≤ Big → ∀ n, 4 * x.sz + 4 ≤ n → l_eqTerm n x x = some true) (n : Nat) (hn : 4 * szl Term.sz l + 3 ≤ n) : l_eqTermS n l l = some true := by
  obtain ⟨n, rfl⟩ : ∃ m, n = m + 1 := ⟨n - 1, by omega⟩
  rw [l_eqTermS]
  exact gEqF (fun n i => l_eqTermS_l1 n l l i) l_eqTerm Term.sz l (fun n i => by rw [l_eqTermS_l1]) hl ih n (by omega)
theorem eqTerm_refl : ∀ (x : Term), x.sz ≤ Big → ∀ n, 4 * x.sz + 4 ≤ n → l_eqTerm n x x = some true := by
  refine Term.ind fun x ih h n hn => ?_
  obtain ⟨n, rfl⟩ : ∃ m, n = m + 1 := ⟨n - 1, by omega⟩
  rw [l_eqTerm]
  exact eqr_ifn (by simp) <| eqr_ifn (by simp) <| eqr_ifn (sameStr_self _) <| eqr_bind (eqType_refl _ (by have := h; rw [Term.sz_eq] at this; omega) fuel (by have := h; rw [Term.sz_eq] at this; rw [fuel_eq]; unfold Big at *; omega)) <| eqr_bind (eqStringS_eq _ (by have := h; rw [Term.sz_eq] at this; omega)) <| eqr_bind (l_eqTermS_of x.kids (by have := h; rw [Term.sz_eq] at this; omega) (fun y hy => ih y hy) n (by rw [Term.sz_eq] at hn; omega)) <| rfl
theorem eqTermS_refl (l : List Term) (hl : szl Term.sz l ≤ Big) (n : Nat) (hn : 4 * szl Term.sz l + 3 ≤ n) : l_eqTermS n l l = some true := l_eqTermS_of l hl (fun x _ => eqTerm_refl x) n hn
structure Def.Ok (x : Def) : Prop where
  name : x.name.size ≤ 9223372036854775807
  typ : TType.Ok x.typ
  body : Term.Ok x.body
theorem Def.ok_of (x : Def) (h : oksC (Def.ds x)) : x.Ok := by
  rw [Def.ds_eq] at h
  simp only [oksC, D.ok, List.length_map] at h
  obtain ⟨h1, h2, h3, h4, h5, h6, h7, h8, h9, h10, h11, h12, -⟩ := h
  exact ⟨h1, TType.ok_of _ (by rw [TType.ds_eq]; simp only [oksC, D.ok, List.length_map]; exact ⟨h2, h3, h4, trivial⟩), Term.ok_of _ (by rw [Term.ds_eq]; simp only [oksC, D.ok, List.length_map]; exact ⟨h5, h6, h7, h8, h9, h10, h11, h12, trivial⟩)⟩
theorem Def.eq_iff (x y : Def) : x = y ↔ x.name = y.name ∧ x.typ = y.typ ∧ x.body = y.body := by
  cases x; cases y; simp only [Def.mk.injEq]
def Def.sz (x : Def) : Nat := x.name.size + (x.typ.sz + (x.body.sz + 0))
theorem szDef_eq (x : Def) (h : x.Ok) (left : Nat) (h1 : left ≤ 1048576) : l_szDef x left = some (szr x.sz left) := by
  unfold l_szDef Def.sz
  exact sz_here2 (by omega) h.name fun _ ew => (by rw [ew]; exact sz_step (szType_eq _ h.typ _ (by omega) fuel (by rw [fuel_eq]; omega)) fun _ => sz_step (szTerm_eq _ h.body _ (by omega) fuel (by rw [fuel_eq]; omega)) fun _ => sz_end)
theorem szDefS_eq (l : List Def) (hl : l.length ≤ 9223372036854775807) (h : ∀ x ∈ l, x.Ok) (left : Nat) (h1 : left ≤ 1048576) : l_szDefS l left = some (szr (szl Def.sz l) left) := by
  unfold l_szDefS
  exact gSz (fun n p i => l_szDefS_l1 n l p i) l_szDef Def.sz l (fun n p i => by rw [l_szDefS_l1]) left h1 (fun x hx k hk => szDef_eq x (h x hx) k hk) hl
theorem toDef_eq (x : Def) (h : x.sz ≤ Big) : l_toDef x = some x := by
  unfold l_toDef
  rw [toType_eq _ (by have := h; simp only [Def.sz] at this; omega) fuel (by have := h; simp only [Def.sz] at this; rw [fuel_eq]; unfold Big at *; omega), bind_some']
  rw [toTerm_eq _ (by have := h; simp only [Def.sz] at this; omega) fuel (by have := h; simp only [Def.sz] at this; rw [fuel_eq]; unfold Big at *; omega), bind_some']
  first | done | rfl
theorem toDefS_eq (l : List Def) (hl : szl Def.sz l ≤ Big) : l_toDefS l = some l := by
  unfold l_toDefS
  exact gTo (fun n acc i => l_toDefS_l2 n l acc i) l_toDef _ l (fun n acc i => by rw [l_toDefS_l2]) (by have := szl_len Def.sz l; omega) (fun x hx => toDef_eq x (by have := szl_mem (s := Def.sz) hx; omega))
theorem eqDef_refl (x : Def) (h : x.sz ≤ Big) : l_eqDef x x = some true := by
  unfold l_eqDef
  exact eqr_ifn (sameStr_self _) <| eqr_bind (eqType_refl _ (by have := h; simp only [Def.sz] at this; omega) fuel (by have := h; simp only [Def.sz] at this; rw [fuel_eq]; unfold Big at *; omega)) <| eqr_bind (eqTerm_refl _ (by have := h; simp only [Def.sz] at this; omega) fuel (by have := h; simp only [Def.sz] at this; rw [fuel_eq]; unfold Big at *; omega)) <| rfl
theorem eqDefS_refl (l : List Def) (hl : szl Def.sz l ≤ Big) : l_eqDefS l l = some true := by
  unfold l_eqDefS
  exact gEqR (fun n i => l_eqDefS_l1 n l l i) l_eqDef l (fun n i => by rw [l_eqDefS_l1]) (by have := szl_len Def.sz l; omega) fun x hx => eqDef_refl x (by have := szl_mem (s := Def.sz) hx; omega)
structure TProgram.Ok (x : TProgram) : Prop where
  datas : (x.datas.length ≤ 9223372036854775807 ∧ ∀ e ∈ x.datas, Data.Ok e)
  defs : (x.defs.length ≤ 9223372036854775807 ∧ ∀ e ∈ x.defs, Def.Ok e)
theorem TProgram.ok_of (x : TProgram) (h : oksC (TProgram.ds x)) : x.Ok := by
  rw [TProgram.ds_eq] at h
  simp only [oksC, D.ok, List.length_map] at h
  obtain ⟨h1, h2, -⟩ := h
  exact ⟨⟨h1.1, fun e he => Data.ok_of e (oksR_mem h1.2 he)⟩, ⟨h2.1, fun e he => Def.ok_of e (oksR_mem h2.2 he)⟩⟩
theorem TProgram.eq_iff (x y : TProgram) : x = y ↔ x.datas = y.datas ∧ x.defs = y.defs := by
  cases x; cases y; simp only [TProgram.mk.injEq]
def TProgram.sz (x : TProgram) : Nat := szl Data.sz x.datas + (szl Def.sz x.defs + 0)
theorem szProgram_eq (x : TProgram) (h : x.Ok) (left : Nat) (h1 : left ≤ 1048576) : l_szProgram x left = some (szr x.sz left) := by
  unfold l_szProgram TProgram.sz
  exact sz_step (szDataS_eq _ h.datas.1 h.datas.2 _ (by omega)) fun _ => sz_step (szDefS_eq _ h.defs.1 h.defs.2 _ (by omega)) fun _ => sz_end
theorem toProgram_eq (x : TProgram) (h : x.sz ≤ Big) : l_toProgram x = some x := by
  unfold l_toProgram
  rw [toDataS_eq _ (by have := h; simp only [TProgram.sz] at this; omega), bind_some']
  rw [toDefS_eq _ (by have := h; simp only [TProgram.sz] at this; omega), bind_some']
  first | done | rfl
theorem eqProgram_refl (x : TProgram) (h : x.sz ≤ Big) : l_eqProgram x x = some true := by
  unfold l_eqProgram
  exact eqr_bind (eqDataS_refl _ (by have := h; simp only [TProgram.sz] at this; omega)) <| eqr_bind (eqDefS_refl _ (by have := h; simp only [TProgram.sz] at this; omega)) <| rfl
structure Desk.Ok (x : Desk) : Prop where
  program : TProgram.Ok x.program
  schedule : (x.schedule.length ≤ 9223372036854775807 ∧ ∀ e ∈ x.schedule, (Lit.int IntKind.i64 e).wf = true)
  machines : (Lit.int IntKind.i64 x.machines).wf = true
theorem Desk.ok_of (x : Desk) (h : oksC (Desk.ds x)) : x.Ok := by
  rw [Desk.ds_eq] at h
  simp only [oksC, D.ok, List.length_map] at h
  obtain ⟨h1, h2, h3, h4, h5, -⟩ := h
  exact ⟨TProgram.ok_of _ (by rw [TProgram.ds_eq]; simp only [oksC, D.ok, List.length_map]; exact ⟨h2, h3, trivial⟩), ⟨h4.1, fun e he => by have := (oksR_mem h4.2 he); simpa only [i64D, oksC, D.ok, and_true] using this⟩, h5⟩
theorem Desk.eq_iff (x y : Desk) : x = y ↔ x.loaded = y.loaded ∧ x.program = y.program ∧ x.schedule = y.schedule ∧ x.machines = y.machines := by
  cases x; cases y; simp only [Desk.mk.injEq]
def Desk.sz (x : Desk) : Nat := x.program.sz + (x.schedule.length + 0)
theorem szDesk_eq (x : Desk) (h : x.Ok) (left : Nat) (h1 : left ≤ 1048576) : l_szDesk x left = some (szr x.sz left) := by
  unfold l_szDesk Desk.sz
  exact sz_step (szProgram_eq _ h.program _ (by omega)) fun _ => sz_step (szInt64S_eq _ _ (by omega) h.schedule.1) fun _ => sz_end
theorem toDesk_eq (x : Desk) (h : x.sz ≤ Big) : l_toDesk x = some x := by
  unfold l_toDesk
  rw [toProgram_eq _ (by have := h; simp only [Desk.sz] at this; omega), bind_some']
  rw [toInt64S_eq _ (by have := h; simp only [Desk.sz] at this; omega), bind_some']
  first | done | rfl
theorem eqDesk_refl (x : Desk) (h : x.sz ≤ Big) : l_eqDesk x x = some true := by
  unfold l_eqDesk
  exact eqr_ifn (by simp) <| eqr_bind (eqProgram_refl _ (by have := h; simp only [Desk.sz] at this; omega)) <| eqr_bind ((eqInt64S_tells _ _ (by have := h; simp only [Desk.sz] at this; omega)).true rfl) <| eqr_ifn (by simp) <| rfl
end Go.Proofs.Ytffokcfdkkikmaa.Ab
