/-
  The abstract walk as rules, last part: the rules with what they must not go into hidden.
-/
import Derived.Test.YtfbnlkaggggmiaaAbW
namespace Go.Proofs.Ytfbnlkaggggmiaa.Ab
set_option linter.unusedVariables false
open Go.RowKit
section
variable {P : Program} {σ : St} {K : St → Prop} {pos : Nat} {dst : Option Tmp} {t t' s d : TypeId} {x y a b c g l : Operand} {f i : Nat} {op : BinOp}
def slY (t : TI) (K : TypeId → Prop) (_ : Wrap K) : Prop := slX t K
@[go_sem ↓] theorem slX_go {t : TI} {K : TypeId → Prop} : slX t K = slY t K ⟨⟩ := rfl
@[go_sem] theorem slY_sl {e : TypeId} {K : TypeId → Prop} {w : Wrap K} : slY (.sl e) K w = K e := rfl
def kindY (t : TI) (K : IntKind → Prop) (_ : Wrap K) : Prop := kindX t K
@[go_sem ↓] theorem kindX_go {t : TI} {K : IntKind → Prop} : kindX t K = kindY t K ⟨⟩ := rfl
@[go_sem] theorem kindY_int {k : IntKind} {K : IntKind → Prop} {w : Wrap K} : kindY (.int k) K w = K k := rfl
def stY (t : TI) (K : List (Nat × TypeId) → Prop) (_ : Wrap K) : Prop := stX' t K
@[go_sem ↓] theorem stX_go {t : TI} {K : List (Nat × TypeId) → Prop} : stX' t K = stY t K ⟨⟩ := rfl
@[go_sem] theorem stY_st {fs : List (Nat × TypeId)} {K : List (Nat × TypeId) → Prop} {w : Wrap K} : stY (.st fs) K w = K fs := rfl
def idxY (rows : List (List D)) (n : Int) (sz : Nat) (K : List D → Prop) (_ : Wrap K) : Prop := idxX rows n sz K
@[go_sem ↓] theorem idxX_go {rows : List (List D)} {n : Int} {sz : Nat} {K : List D → Prop} : idxX rows n sz K = idxY rows n sz K ⟨⟩ := rfl
theorem idx_i {rows : List (List D)} {n sz : Nat} {K : List D → Prop} {w : Wrap K} {row : List D} (h : rows[n]? = some row) (hl : row.length = sz) (hk : K row) : idxY rows (n : Int) sz K w := idx_at h hl hk
def rowY {α : Type} (v : α) (K : α → Prop) (_ : Wrap K) : Prop := rowX v K
@[go_sem ↓] theorem rowX_go {α : Type} {v : α} {K : α → Prop} : rowX v K = rowY v K ⟨⟩ := rfl
theorem row_i {α : Type} {v : α} {K : α → Prop} {w : Wrap K} (y : α) (h : v = y) (hk : K y) : rowY v K w := ⟨y, h, hk⟩
def callY (P : Program) (pos : Nat) (f : FuncId) (args : List AV) (as : Option (List AV)) (dst : Option Tmp) (σ : St) (K : St → Prop) (_ : Wrap K) : Prop := callX P pos f args as dst σ K
@[go_sem ↓] theorem callX_go {f : FuncId} {args : List AV} {as : Option (List AV)} : callX P pos f args as dst σ K = callY P pos f args as dst σ K ⟨⟩ := rfl
theorem call_i {f : FuncId} {args bs : List AV} {w : Wrap K} {rv : RV} (h : AC P f bs rv) (hk : andX (freshT σ (conv (pos * 16) rv).2) (K (σ.add dst ⟨(conv (pos * 16) rv).1, (conv (pos * 16) rv).2, []⟩))) : callY P pos f args (some bs) dst σ K w := call_ac h hk.1 hk.2
def nilY (P : Program) (t : TypeId) (v : AV) (σ : St) (K : Bool → Prop) (_ : Wrap K) : Prop := nilT P t v σ K
theorem nil_i {rows : List (List D)} {K : Bool → Prop} {w : Wrap K} (h : slP (ti P t)) (h0 : rows = [] → K true) (h1 : K false) : nilY P t (.ro rows) σ K w := nilT_ro h h0 h1
@[go_sem] theorem nilY_nils {K : Bool → Prop} {w : Wrap K} : nilY P t .nils σ K w = andX (slP (ti P t)) (K true) := nilT_nils
@[go_sem] theorem nilY_bsl {b n sz : Nat} {K : Bool → Prop} {w : Wrap K} : nilY P t (.bsl b n sz) σ K w = andX (slP (ti P t)) (K false) := nilT_bsl

@[go_sem ↓] theorem w_pick : opX P pos dst (.pick c a b) σ K = valX (σ.e c) fun u => valX (σ.e a) fun v => valX (σ.e b) fun w => pickX u v w fun v => K (σ.put dst v) := o_pick
@[go_sem ↓] theorem w_load : opX P pos dst (.load t a) σ K = valX (σ.e a) fun u => loadX P t u σ fun v => K (σ.put dst v) := o_load
@[go_sem ↓] theorem w_nilCheck : opX P pos dst (.nilCheck x) σ K = valX (σ.e x) fun u => nilX u fun v => K (σ.put dst v) := o_nilCheck
@[go_sem ↓] theorem w_bin_tmp {y : Tmp} : opX P pos dst (.binOp op t x (.tmp y) t') σ K = valX (σ.e x) fun u => valX (σ.g y) fun v => binX P op t u v fun v => K (σ.put dst v) := o_bin_tmp
@[go_sem ↓] theorem w_bin_int {k : IntKind} {n : Int} : opX P pos dst (.binOp op t x (.const (.int k n)) t') σ K = valX (σ.e x) fun u => binX P op t u (.int k n) fun v => K (σ.put dst v) := o_bin_int
@[go_sem ↓] theorem w_bin_bool {b : Bool} : opX P pos dst (.binOp op t x (.const (.bool b)) t') σ K = valX (σ.e x) fun u => binX P op t u (.bool b) fun v => K (σ.put dst v) := o_bin_bool
@[go_sem ↓] theorem w_bin_str {b : ByteArray} : opX P pos dst (.binOp op t x (.const (.string b)) t') σ K = valX (σ.e x) fun u => binX P op t u (.str b) fun v => K (σ.put dst v) := o_bin_str
@[go_sem ↓] theorem w_bin_nilp : opX P pos dst (.binOp op t x (.const (.pointer none)) t') σ K = valX (σ.e x) fun u => binX P op t u .nilp fun v => K (σ.put dst v) := o_bin_nilp
@[go_sem ↓] theorem w_eq_nil : opX P pos dst (.binOp .eql t x (.const (.slice none 0 0)) t') σ K = valX (σ.e x) fun u => nilY P t u σ (fun b => K (σ.put dst (.bool b))) ⟨⟩ := o_eq_nil
@[go_sem ↓] theorem w_ne_nil : opX P pos dst (.binOp .neq t x (.const (.slice none 0 0)) t') σ K = valX (σ.e x) fun u => nilY P t u σ (fun b => K (σ.put dst (.bool !b))) ⟨⟩ := o_ne_nil
@[go_sem ↓] theorem w_unOp {op : UnOp} : opX P pos dst (.unOp op t x) σ K = valX (σ.e x) fun u => unoX op u fun v => K (σ.put dst v) := o_unOp
@[go_sem ↓] theorem w_convert : opX P pos dst (.convert s d x) σ K = valX (σ.e x) fun u => convX P s d u fun v => K (σ.put dst v) := o_convert
@[go_sem ↓] theorem w_fieldAddr : opX P pos dst (.fieldAddr s x f) σ K = valX (σ.e x) fun u => faX P s u f fun v => K (σ.put dst v) := o_fieldAddr
@[go_sem ↓] theorem w_field : opX P pos dst (.field s x f) σ K = valX (σ.e x) fun u => fdX P s u f fun v => K (σ.put dst v) := o_field
@[go_sem ↓] theorem w_indexAddr : opX P pos dst (.indexAddr t x y) σ K = valX (σ.e x) fun u => valX (σ.e y) fun v => iaX P t u v σ fun v => K (σ.put dst v) := o_indexAddr
@[go_sem ↓] theorem w_extract : opX P pos dst (.extract x i) σ K = valX (σ.e x) fun u => extX u i fun v => K (σ.put dst v) := o_extract
@[go_sem ↓] theorem w_len : opX P pos dst (.call ⟨.builtin .len, List.toArray [x], List.toArray [t]⟩) σ K = valX (σ.e x) fun u => lenX P t u σ fun v => K (σ.put dst v) := o_len
@[go_sem ↓] theorem w_max {ts : Array TypeId} : opX P pos dst (.call ⟨.builtin .max, List.toArray [x, y], ts⟩) σ K = valX (σ.e x) fun u => valX (σ.e y) fun v => twoX (fun n m => if n < m then m else n) u v fun v => K (σ.put dst v) := o_max
@[go_sem ↓] theorem w_min {ts : Array TypeId} : opX P pos dst (.call ⟨.builtin .min, List.toArray [x, y], ts⟩) σ K = valX (σ.e x) fun u => valX (σ.e y) fun v => twoX (fun n m => if m < n then m else n) u v fun v => K (σ.put dst v) := o_min
@[go_sem ↓] theorem w_box : opX P pos dst (.box t x) σ K = valX (cellsOf (σ.e x)) fun cs => bxX pos cs dst (.box pos 0) σ K := o_box
@[go_sem ↓] theorem w_alloc : opX P pos dst (.alloc t) σ K = andX (0 < (tz P t).length) (valX ((tz P t).map zAV) fun vs => bxX pos (some vs) dst (.box pos 0) σ K) := o_alloc
@[go_sem ↓] theorem w_build {parts : List (Nat × Operand)} : opX P pos dst (.build t parts.toArray) σ K = stX' (ti P t) fun fs => andX ((fs.all fun q => decide (0 < tsz P q.2)) = true ∧ 0 < (tz P t).length) (valX ((tz P t).map zAV) fun vs => valX (pvs σ parts) fun ps => bpX P fs vs ps fun v => K (σ.put dst v)) := o_build
@[go_sem ↓] theorem w_makeSlice : opX P pos dst (.makeSlice t l c) σ K = slX (ti P t) fun e => valX (σ.e l) fun u => valX (σ.e c) fun v => mkX P pos e u v dst σ K := o_makeSlice
@[go_sem ↓] theorem w_call {args : List Operand} {ts : Array TypeId} : opX P pos dst (.call ⟨.value g, args.toArray, ts⟩) σ K = valX (σ.e g) fun u => valX (evs σ args) fun vs => clX P pos u vs dst σ K := o_call
@[go_sem ↓] theorem w_store : opX P pos dst (.store t a x) σ K = valX (σ.e a) fun u => valX (cellsOf (σ.e x)) fun cs => stX P t u cs σ fun σ' => K (σ'.put dst .any) := o_store
@[go_sem ↓] theorem w_append : opX P pos dst (.call ⟨.builtin .append, List.toArray [x, y], List.toArray [t, t]⟩) σ K = slX (ti P t) fun e => valX (σ.e x) fun u => valX (σ.e y) fun v => apX P pos e u v dst σ K := o_append
@[go_sem ↓] theorem apX_eq {e : TypeId} {u v : AV} : apX P pos e u v dst σ K = andX (0 < tsz P e ∧ (tz P e).length = tsz P e) (AppX e (tsz P e) u σ fun rows σ1 => AppY (tsz P e) v σ1 fun rows2 σ2 =>
      andX ((rows.length + rows2.length) * P.bytesOf e ≤ 140737488355328 ∧ rows.length + rows2.length ≤ maxLen) (andX (look σ2.t (pos * 16) = none) (rowX (rows ++ rows2) fun rows => K ((σ2.setT (pos * 16) ⟨rows, some (e, tsz P e)⟩).put dst (.own (pos * 16)))))) := by simp only [rowX_eq]; rfl
end
attribute [go_sem] zAV

/-! ### Long regions: lists of operations that stand as one behind the other -/
section
variable {P : Program} {σ : St} {K : St → Prop} {ops : Array Oper} {base i : Nat}
@[go_sem] theorem x_app_cons {x : Oper} {xs b : List Oper} {w1 : Wrap ops} {w2} {w3 : Wrap K} : aopsY P ops base i (List.append (x :: xs) b) σ K w1 w2 w3 = aopsY P ops base i (x :: List.append xs b) σ K w1 ⟨⟩ w3 := rfl
@[go_sem] theorem x_app_nil {b : List Oper} {w1 : Wrap ops} {w2} {w3 : Wrap K} : aopsY P ops base i (List.append [] b) σ K w1 w2 w3 = aopsY P ops base i b σ K w1 ⟨⟩ w3 := rfl
@[go_sem] theorem x_app_app {a b c : List Oper} {w1 : Wrap ops} {w2} {w3 : Wrap K} : aopsY P ops base i (List.append (List.append a b) c) σ K w1 w2 w3 = aopsY P ops base i (List.append a (List.append b c)) σ K w1 ⟨⟩ w3 := by
  unfold aopsY; rw [show List.append (List.append a b) c = List.append a (List.append b c) from List.append_assoc a b c]
@[go_sem ↓] theorem slotX_app_zero {dst : Tmp} {op : Op} {type : TypeId} {ps : String} {after : Array Edge} {g : Option (Nat × Bool)} {rest b : List Oper} {K : Tmp → Prop} : slotX (List.toArray (List.append (⟨some dst, op, type, ps, after, g⟩ :: rest) b)) 0 K = K dst := by
  show slotX (List.toArray (_ :: List.append rest b)) 0 K = K dst
  exact slotX_zero
@[go_sem ↓] theorem slotX_app_succ {o : Oper} {rest b : List Oper} {j : Nat} {K : Tmp → Prop} : slotX (List.toArray (List.append (o :: rest) b)) (j + 1) K = slotX (List.toArray (List.append rest b)) j K := by
  show slotX (List.toArray (o :: List.append rest b)) (j + 1) K = _
  exact slotX_succ
@[go_sem ↓] theorem slotX_app_nil {b : List Oper} {j : Nat} {K : Tmp → Prop} : slotX (List.toArray (List.append [] b)) j K = slotX b.toArray j K := rfl
@[go_sem ↓] theorem slotX_app_app {a b c : List Oper} {j : Nat} {K : Tmp → Prop} : slotX (List.toArray (List.append (List.append a b) c)) j K = slotX (List.toArray (List.append a (List.append b c))) j K := by
  rw [show List.append (List.append a b) c = List.append a (List.append b c) from List.append_assoc a b c]
@[go_sem] theorem all_app {a b : List Oper} {p : Oper → Bool} : List.all (List.append a b) p = (List.all a p && List.all b p) := List.all_append
end
end Go.Proofs.Ytfbnlkaggggmiaa.Ab
