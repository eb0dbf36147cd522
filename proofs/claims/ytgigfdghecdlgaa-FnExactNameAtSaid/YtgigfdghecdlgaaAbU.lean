/-
  The abstract walk as rules, second part: the other operations.
-/
import Derived.Test.YtgigfdghecdlgaaAbT
namespace Go.Proofs.Ytgigfdghecdlgaa.Ab
set_option linter.unusedVariables false
open Go.RowKit
section
variable {P : Program} {σ : St} {K : St → Prop} {Q : AE → St → Prop}

theorem ev_add {pos} {dst} {op} (h : ∀ K', aop P pos ⟨dst, op, 0, "", #[], none⟩ σ K' = ∃ r, Ev P pos ⟨dst, op, 0, "", #[], none⟩ σ.e σ.T σ.B r ∧ freshT σ r.t ∧ freshB σ r.b ∧ K' (σ.add dst r)) :
    opX P pos dst op σ K = ∃ r, Ev P pos ⟨dst, op, 0, "", #[], none⟩ σ.e σ.T σ.B r ∧ freshT σ r.t ∧ freshB σ r.b ∧ K (σ.add dst r) := h K

def nilX (v : AV) (K : AV → Prop) : Prop := match v with
  | .box b off => K (.box b off)
  | .rop ds off => K (.rop ds off)
  | .elt t sz i off => K (.elt t sz i off)
  | .els t g p sz i off => K (.els t g p sz i off)
  | _ => False
@[go_sem] theorem nilX_box {b off} {K} : nilX (.box b off) K = K (.box b off) := rfl
@[go_sem] theorem nilX_rop {ds} {off} {K} : nilX (.rop ds off) K = K (.rop ds off) := rfl
@[go_sem] theorem nilX_elt {t sz i off} {K} : nilX (.elt t sz i off) K = K (.elt t sz i off) := rfl
@[go_sem] theorem nilX_els {t g} {p} {sz i off} {K} : nilX (.els t g p sz i off) K = K (.els t g p sz i off) := rfl
theorem o_nilCheck {pos} {dst} {x} : opX P pos dst (.nilCheck x) σ K = nilX (σ.e x) fun v => K (σ.put dst v) := by
  rw [ev_eq (p := fun v => nilX (σ.e x) fun u => v = u) (fun _ => by simp only [aop]) (fun r => by
    simp only [Ev, nilX]
    generalize σ.e x = v
    cases v <;> simp)]
  unfold nilX
  generalize σ.e x = v
  cases v <;> simp

def binX (P : Program) (op : BinOp) (t : TypeId) (x y : AV) (K : AV → Prop) : Prop := ∃ v, Bin P op t x y v ∧ K v
def notNil (op : BinOp) (y : Operand) : Bool := match op, y with
  | .eql, .const (.slice none 0 0) => false
  | .neq, .const (.slice none 0 0) => false
  | _, _ => true
theorem o_bin {pos} {dst} {op} {t t'} {x y} (hn : notNil op y = true) : opX P pos dst (.binOp op t x y t') σ K = binX P op t (σ.e x) (σ.e y) fun v => K (σ.put dst v) :=
  ev_eq (p := fun v => Bin P op t (σ.e x) (σ.e y) v) (fun _ => by
    unfold aop
    dsimp only
    split
    · rename_i h; simp only [Op.binOp.injEq] at h; obtain ⟨rfl, rfl, rfl, rfl, rfl⟩ := h; simp [notNil] at hn
    · rename_i h; simp only [Op.binOp.injEq] at h; obtain ⟨rfl, rfl, rfl, rfl, rfl⟩ := h; simp [notNil] at hn
    · rename_i h; cases h
    · rename_i h; cases h
    · rename_i h; cases h
    · rfl) (fun r => by simp only [Ev])
section
variable {pos : Nat} {dst : Option Tmp} {op : BinOp} {t t' : TypeId} {x : Operand}
theorem o_bin_tmp {y} : opX P pos dst (.binOp op t x (.tmp y) t') σ K = binX P op t (σ.e x) (σ.g y) fun v => K (σ.put dst v) := o_bin (by cases op <;> rfl)
theorem o_bin_int {k} {n} : opX P pos dst (.binOp op t x (.const (.int k n)) t') σ K = binX P op t (σ.e x) (.int k n) fun v => K (σ.put dst v) := o_bin (by cases op <;> rfl)
theorem o_bin_bool {b} : opX P pos dst (.binOp op t x (.const (.bool b)) t') σ K = binX P op t (σ.e x) (.bool b) fun v => K (σ.put dst v) := o_bin (by cases op <;> rfl)
theorem o_bin_str {s} : opX P pos dst (.binOp op t x (.const (.string s)) t') σ K = binX P op t (σ.e x) (.str s) fun v => K (σ.put dst v) := o_bin (by cases op <;> rfl)
theorem o_bin_nilp : opX P pos dst (.binOp op t x (.const (.pointer none)) t') σ K = binX P op t (σ.e x) .nilp fun v => K (σ.put dst v) := o_bin (by cases op <;> rfl)
/-- A slice compared with nil. -/
def nilT (P : Program) (t : TypeId) (v : AV) (σ : St) (K : Bool → Prop) : Prop := (∃ e, ti P t = .sl e) ∧ nilable v = true ∧ ∀ b, NilB σ.T v b → K b
def slP (t : TI) : Prop := ∃ e, t = .sl e
@[go_sem] theorem slP_sl {e} : slP (.sl e) = True := by simp [slP]
@[go_sem] theorem nilT_nils {K} : nilT P t .nils σ K = andX (slP (ti P t)) (K true) := by simp [nilT, nilable, NilB, andX, slP]
@[go_sem] theorem nilT_bsl {b n sz} {K} : nilT P t (.bsl b n sz) σ K = andX (slP (ti P t)) (K false) := by simp [nilT, nilable, NilB, andX, slP]
theorem nilT_ro {rows} {K} (h : slP (ti P t)) (h0 : rows = [] → K true) (h1 : K false) : nilT P t (.ro rows) σ K :=
  ⟨h, rfl, fun b hb => by
    cases b with
    | false => exact h1
    | true =>
      refine h0 ?_
      by_cases hr : rows = []
      · exact hr
      · exact absurd (hb hr) (by simp)⟩
theorem o_eq_nil : opX P pos dst (.binOp .eql t x (.const (.slice none 0 0)) t') σ K = nilT P t (σ.e x) σ fun b => K (σ.put dst (.bool b)) := by
  unfold opX; simp only [aop, nilT]
theorem o_ne_nil : opX P pos dst (.binOp .neq t x (.const (.slice none 0 0)) t') σ K = nilT P t (σ.e x) σ fun b => K (σ.put dst (.bool !b)) := by
  unfold opX; simp only [aop, nilT]
end
section
variable {t : TypeId} {k : IntKind} {a b : Int} {K : AV → Prop}
@[go_sem] theorem bin_add : binX P .add t (.int k a) (.int k b) K = K (.int k (k.wrap (a + b))) := by simp [binX, Bin, arith]
@[go_sem] theorem bin_sub : binX P .sub t (.int k a) (.int k b) K = K (.int k (k.wrap (a - b))) := by simp [binX, Bin, arith]
@[go_sem] theorem bin_mul : binX P .mul t (.int k a) (.int k b) K = K (.int k (k.wrap (a * b))) := by simp [binX, Bin, arith]
@[go_sem] theorem bin_eql : binX P .eql t (.int k a) (.int k b) K = K (.bool (decide (a = b))) := by simp [binX, Bin, arith]
@[go_sem] theorem bin_neq : binX P .neq t (.int k a) (.int k b) K = K (.bool (!decide (a = b))) := by simp [binX, Bin, arith]
@[go_sem] theorem bin_lss : binX P .lss t (.int k a) (.int k b) K = K (.bool (decide (a < b))) := by simp [binX, Bin, arith]
@[go_sem] theorem bin_leq : binX P .leq t (.int k a) (.int k b) K = K (.bool (decide (a ≤ b))) := by simp [binX, Bin, arith]
@[go_sem] theorem bin_gtr : binX P .gtr t (.int k a) (.int k b) K = K (.bool (decide (b < a))) := by simp [binX, Bin, arith]
@[go_sem] theorem bin_geq : binX P .geq t (.int k a) (.int k b) K = K (.bool (decide (b ≤ a))) := by simp [binX, Bin, arith]
@[go_sem] theorem bin_shl {k'} : binX P .shl t (.int k a) (.int k' b) K = andX (0 ≤ b) (K (.int k (k.wrap (a * 2 ^ min b.toNat k.bits)))) := by
  simp only [binX, Bin, andX]
  exact propext ⟨fun ⟨v, ⟨h1, h2⟩, h3⟩ => ⟨h1, h2 ▸ h3⟩, fun ⟨h1, h2⟩ => ⟨_, ⟨h1, rfl⟩, h2⟩⟩
@[go_sem] theorem bin_shr {k'} : binX P .shr t (.int k a) (.int k' b) K = andX (0 ≤ b) (K (.int k (a / 2 ^ min b.toNat k.bits))) := by
  simp only [binX, Bin, andX]
  exact propext ⟨fun ⟨v, ⟨h1, h2⟩, h3⟩ => ⟨h1, h2 ▸ h3⟩, fun ⟨h1, h2⟩ => ⟨_, ⟨h1, rfl⟩, h2⟩⟩
@[go_sem] theorem bin_and : binX P .and t (.int k a) (.int k b) K = K (.int k (bits .and k a b)) := by simp [binX, Bin]
@[go_sem] theorem bin_or : binX P .or t (.int k a) (.int k b) K = K (.int k (bits .or k a b)) := by simp [binX, Bin]
@[go_sem] theorem bin_xor : binX P .xor t (.int k a) (.int k b) K = K (.int k (bits .xor k a b)) := by simp [binX, Bin]
@[go_sem] theorem bin_andNot : binX P .andNot t (.int k a) (.int k b) K = K (.int k (bits .andNot k a b)) := by simp [binX, Bin]
@[go_sem] theorem bin_quo : binX P .quo t (.int k a) (.int k b) K = andX (b ≠ 0) (K (.int k (k.wrap (a.tdiv b)))) := by
  simp only [binX, Bin, andX, true_and]
  exact propext ⟨fun ⟨v, ⟨h1, h2⟩, h3⟩ => ⟨h1, h2 ▸ h3⟩, fun ⟨h1, h2⟩ => ⟨_, ⟨h1, rfl⟩, h2⟩⟩
@[go_sem] theorem bin_rem : binX P .rem t (.int k a) (.int k b) K = andX (b ≠ 0) (K (.int k (a.tmod b))) := by
  simp only [binX, Bin, andX, true_and]
  exact propext ⟨fun ⟨v, ⟨h1, h2⟩, h3⟩ => ⟨h1, h2 ▸ h3⟩, fun ⟨h1, h2⟩ => ⟨_, ⟨h1, rfl⟩, h2⟩⟩
end
section
variable {t : TypeId} {a b : ByteArray} {c d : Bool} {K : AV → Prop}
/-- Are two strings alike? -/
def sameStr (a b : ByteArray) : Bool := a.toList == b.toList
@[go_sem] theorem bin_seql : binX P .eql t (.str a) (.str b) K = K (.bool (sameStr a b)) := by simp [binX, Bin, sameStr]
@[go_sem] theorem bin_sneq : binX P .neq t (.str a) (.str b) K = K (.bool (!sameStr a b)) := by simp [binX, Bin, sameStr]
@[go_sem] theorem bin_sadd : binX P .add t (.str a) (.str b) K = andX (a.size + b.size ≤ maxLen) (K (.str (a ++ b))) := by
  simp only [binX, Bin, andX]
  exact propext ⟨fun ⟨v, ⟨h1, h2⟩, h3⟩ => ⟨h1, h2 ▸ h3⟩, fun ⟨h1, h2⟩ => ⟨_, ⟨h1, rfl⟩, h2⟩⟩
/-- Structs of numbers, compared. -/
def eqsX (o : Option (List KK)) (xs ys : List AV) (K : Bool → Prop) : Prop := ∃ ks b, o = some ks ∧ cmpInts ks xs ys = some b ∧ K b
def eqoX (o : Option Bool) (K : Bool → Prop) : Prop := ∃ b, o = some b ∧ K b
@[go_sem] theorem eqsX_some {ks} {xs ys} {K} : eqsX (some ks) xs ys K = eqoX (cmpInts ks xs ys) K := by
  simp [eqsX, eqoX]
@[go_sem] theorem eqoX_some {b} {K} : eqoX (some b) K = K b := by simp [eqoX]
@[go_sem] theorem cmpI_cons {k} {ks} {a b} {xs ys} : cmpInts (.int k :: ks) (.int k a :: xs) (.int k b :: ys) = (cmpInts ks xs ys).map (decide (a = b) && ·) := by
  rw [cmpInts]; simp
@[go_sem] theorem cmpI_bool {ks} {a b} {xs ys} : cmpInts (.bool :: ks) (.bool a :: xs) (.bool b :: ys) = (cmpInts ks xs ys).map (a == b && ·) := by
  rw [cmpInts]
@[go_sem] theorem cmpI_str {ks} {a b} {xs ys} : cmpInts (.str :: ks) (.str a :: xs) (.str b :: ys) = (cmpInts ks xs ys).map (sameStr a b && ·) := by
  rw [cmpInts]; rfl
@[go_sem] theorem cmpI_nil : cmpInts [] [] [] = some true := by
  rw [cmpInts]
@[go_sem] theorem map_some' {α β : Type} {f : α → β} {a : α} : Option.map f (some a) = some (f a) := rfl
@[go_sem] theorem bin_aeql {xs ys} : binX P .eql t (.agg xs) (.agg ys) K = eqsX (structKs P t) xs ys fun b => K (.bool b) := by
  unfold binX Bin eqsX
  exact propext ⟨fun ⟨v, ⟨ks, b, h1, h2, h3⟩, h⟩ => ⟨ks, b, h1, h2, by simp only at h3; subst h3; exact h⟩, fun ⟨ks, b, h1, h2, h⟩ => ⟨_, ⟨ks, b, h1, h2, rfl⟩, h⟩⟩
@[go_sem] theorem bin_aneq {xs ys} : binX P .neq t (.agg xs) (.agg ys) K = eqsX (structKs P t) xs ys fun b => K (.bool !b) := by
  unfold binX Bin eqsX
  exact propext ⟨fun ⟨v, ⟨ks, b, h1, h2, h3⟩, h⟩ => ⟨ks, b, h1, h2, by simp only at h3; subst h3; exact h⟩, fun ⟨ks, b, h1, h2, h⟩ => ⟨_, ⟨ks, b, h1, h2, rfl⟩, h⟩⟩
def boolT (P : Program) (t : TypeId) : Prop := match ti P t with | .bool => True | _ => False
@[go_sem] theorem bin_beql : binX P .eql t (.bool c) (.bool d) K = andX (boolT P t) (K (.bool (c == d))) := by
  simp only [binX, Bin, andX, boolT]
  split <;> simp_all
@[go_sem] theorem bin_bneq : binX P .neq t (.bool c) (.bool d) K = andX (boolT P t) (K (.bool (!(c == d)))) := by
  simp only [binX, Bin, andX, boolT]
  split <;> simp_all
def ptrT (P : Program) (t : TypeId) : Prop := match ti P t with | .ptr _ => True | _ => False
@[go_sem] theorem bin_nn : binX P .eql t .nilp .nilp K = andX (ptrT P t) (K (.bool true)) := by
  simp only [binX, Bin, andX, ptrT]
  split <;> simp_all
@[go_sem] theorem bin_nnn : binX P .neq t .nilp .nilp K = andX (ptrT P t) (K (.bool false)) := by
  simp only [binX, Bin, andX, ptrT]
  split <;> simp_all
@[go_sem] theorem bin_bn {x off} : binX P .eql t (.box x off) .nilp K = andX (ptrT P t) (K (.bool false)) := by
  simp only [binX, Bin, andX, ptrT]
  split <;> simp_all
@[go_sem] theorem bin_bnn {x off} : binX P .neq t (.box x off) .nilp K = andX (ptrT P t) (K (.bool true)) := by
  simp only [binX, Bin, andX, ptrT]
  split <;> simp_all
@[go_sem] theorem bin_rn {ds} {off} : binX P .eql t (.rop ds off) .nilp K = andX (ptrT P t) (K (.bool false)) := by
  simp only [binX, Bin, andX, ptrT]
  split <;> simp_all
@[go_sem] theorem bin_rnn {ds} {off} : binX P .neq t (.rop ds off) .nilp K = andX (ptrT P t) (K (.bool true)) := by
  simp only [binX, Bin, andX, ptrT]
  split <;> simp_all
attribute [go_sem] boolT ptrT
end

def unoX (op : UnOp) (x : AV) (K : AV → Prop) : Prop := ∃ v, Uno op x v ∧ K v
theorem o_unOp {pos} {dst} {op} {t} {x} : opX P pos dst (.unOp op t x) σ K = unoX op (σ.e x) fun v => K (σ.put dst v) :=
  ev_eq (p := fun v => Uno op (σ.e x) v) (fun _ => by simp only [aop]) (fun r => by simp only [Ev])
@[go_sem] theorem uno_not {b} {K} : unoX .not (.bool b) K = K (.bool (!b)) := by simp [unoX, Uno]
@[go_sem] theorem uno_xor {k} {n} {K} : unoX .xor (.int k n) K = K (.int k (bits .xor k (if k.signed then -1 else k.max) n)) := by simp [unoX, Uno]
@[go_sem] theorem uno_neg {k} {n} {K} : unoX .neg (.int k n) K = K (.int k (k.wrap (0 - n))) := by simp [unoX, Uno]

def convX (P : Program) (s d : TypeId) (x : AV) (σ : St) (K : AV → Prop) : Prop := match ti P d, x with
  | .int k, .int _ n => (ti P s).sc = true ∧ K (.int k (k.wrap n))
  | .str, y => ∃ el ns, ti P s = .sl el ∧ ti P el = .int .u8 ∧ ns.length ≤ maxLen ∧ cl σ.T σ.B y = some (.ro (u8rows ns)) ∧ K (.str (strOfNums ns))
  | _, _ => False
def convA (P : Program) (s d : TypeId) (x : AV) (σ : St) (v : AV) : Prop := match ti P d, x with
  | .int k, .int _ n => (ti P s).sc = true ∧ v = .int k (k.wrap n)
  | .str, y => ∃ el ns, ti P s = .sl el ∧ ti P el = .int .u8 ∧ ns.length ≤ maxLen ∧ cl σ.T σ.B y = some (.ro (u8rows ns)) ∧ v = .str (strOfNums ns)
  | _, _ => False
theorem o_convert {pos} {dst} {s d} {x} : opX P pos dst (.convert s d x) σ K = convX P s d (σ.e x) σ fun v => K (σ.put dst v) := by
  rw [ev_eq (p := fun v => convA P s d (σ.e x) σ v) (fun _ => by simp only [aop]) (fun r => by
    simp only [Ev, convA]
    generalize σ.e x = v
    generalize ti P d = q
    cases q <;> cases v <;> first
      | (
        refine propext ⟨?_, ?_⟩
        · intro h; obtain ⟨el, ns, h1, h2, h3, h4, rfl⟩ := h; exact ⟨_, ⟨el, ns, h1, h2, h3, h4, rfl⟩, rfl⟩
        · intro h; obtain ⟨_, ⟨el, ns, h1, h2, h3, h4, rfl⟩, rfl⟩ := h; exact ⟨el, ns, h1, h2, h3, h4, rfl⟩)
      | simp [and_assoc])]
  unfold convX convA
  generalize σ.e x = v
  generalize ti P d = q
  have key : ∀ y : AV, (∃ v, (∃ el ns, ti P s = .sl el ∧ ti P el = .int .u8 ∧ ns.length ≤ maxLen ∧ cl σ.T σ.B y = some (.ro (u8rows ns)) ∧ v = .str (strOfNums ns)) ∧ K (σ.put dst v)) = ∃ el ns, ti P s = .sl el ∧ ti P el = .int .u8 ∧ ns.length ≤ maxLen ∧ cl σ.T σ.B y = some (.ro (u8rows ns)) ∧ K (σ.put dst (.str (strOfNums ns))) := fun y => by
    refine propext ⟨?_, ?_⟩
    · rintro ⟨v, ⟨el, ns, h1, h2, h3, h4, rfl⟩, h5⟩; exact ⟨el, ns, h1, h2, h3, h4, h5⟩
    · rintro ⟨el, ns, h1, h2, h3, h4, h5⟩; exact ⟨_, ⟨el, ns, h1, h2, h3, h4, rfl⟩, h5⟩
  cases q <;> cases v <;> first | exact key _ | simp [and_assoc]
def kindX (t : TI) (K : IntKind → Prop) : Prop := match t with | .int k => K k | _ => False
@[go_sem] theorem kindX_int {k} {K} : kindX (.int k) K = K k := rfl
@[go_sem] theorem convX_int {s d} {k'} {n} {K} : convX P s d (.int k' n) σ K = kindX (ti P d) fun k => andX ((ti P s).sc = true) (K (.int k (k.wrap n))) := by
  unfold convX kindX andX
  generalize ti P d = q
  cases q <;> simp [cl, u8rows]
def u8sl (P : Program) (q : TI) : Prop := ∃ el, q = .sl el ∧ ti P el = .int .u8
def isU8 (q : TI) : Prop := q = .int .u8
@[go_sem] theorem isU8_int : isU8 (.int .u8) = True := by simp [isU8]
@[go_sem] theorem u8sl_sl {el} : u8sl P (.sl el) = isU8 (ti P el) := by simp [u8sl, isU8]
def strX (P : Program) (q qs : TI) (o : Option AV) (K : AV → Prop) : Prop := q = .str ∧ u8sl P qs ∧ ∃ ns, ns.length ≤ maxLen ∧ o = some (.ro (u8rows ns)) ∧ K (.str (strOfNums ns))
def strY (o : Option AV) (K : AV → Prop) (_ : Wrap K) : Prop := ∃ ns, ns.length ≤ maxLen ∧ o = some (.ro (u8rows ns)) ∧ K (.str (strOfNums ns))
@[go_sem] theorem strX_str {qs} {o} {K} : strX P .str qs o K = andX (u8sl P qs) (strY o K ⟨⟩) := by simp [strX, andX, strY]
theorem convX_of {s d} {x} {K} (hx : ∀ k n, x ≠ .int k n) : convX P s d x σ K = valX (cl σ.T σ.B x) fun o => strX P (ti P d) (ti P s) o K := by
  unfold convX strX valX u8sl
  generalize ti P d = q
  cases q
  case str =>
    refine propext ⟨fun h => ?_, fun h => ?_⟩
    · cases x <;> (obtain ⟨el, ns, h1, h2, h3, h4, h5⟩ := h; exact ⟨rfl, ⟨el, h1, h2⟩, ns, h3, h4, h5⟩)
    · cases x <;> (obtain ⟨-, ⟨el, h1, h2⟩, ns, h3, h4, h5⟩ := h; exact ⟨el, ns, h1, h2, h3, h4, h5⟩)
  case int k => cases x <;> first | exact absurd rfl (hx _ _) | simp
  all_goals simp
@[go_sem] theorem convX_own {s d} {t} {K} : convX P s d (.own t) σ K = valX (cl σ.T σ.B (.own t)) fun o => strX P (ti P d) (ti P s) o K := convX_of (by simp)
@[go_sem] theorem convX_ro {s d} {r} {K} : convX P s d (.ro r) σ K = valX (cl σ.T σ.B (.ro r)) fun o => strX P (ti P d) (ti P s) o K := convX_of (by simp)
@[go_sem] theorem convX_bsl {s d} {b n z} {K} : convX P s d (.bsl b n z) σ K = valX (cl σ.T σ.B (.bsl b n z)) fun o => strX P (ti P d) (ti P s) o K := convX_of (by simp)
@[go_sem] theorem convX_nils {s d} {K} : convX P s d .nils σ K = valX (cl σ.T σ.B .nils) fun o => strX P (ti P d) (ti P s) o K := convX_of (by simp)
theorem str_i {ns} {K} {w} (hl : ns.length ≤ maxLen) (hk : K (.str (strOfNums ns))) : strY (some (.ro (List.map (fun n => [D.int .u8 n]) ns))) K w := ⟨ns, hl, rfl, hk⟩

def faX (P : Program) (s : TypeId) (v : AV) (f : Nat) (K : AV → Prop) : Prop := match v with
  | .box b off => ∃ q, fOff P s f = some q ∧ 0 < tsz P q.2 ∧ K (.box b (off + q.1))
  | .rop ds off => ∃ q, fOff P s f = some q ∧ 0 < tsz P q.2 ∧ K (.rop ds (off + q.1))
  | .elt t sz i off => ∃ q, fOff P s f = some q ∧ 0 < tsz P q.2 ∧ K (.elt t sz i (off + q.1))
  | .els t g p sz i off => ∃ q, fOff P s f = some q ∧ 0 < tsz P q.2 ∧ K (.els t g p sz i (off + q.1))
  | _ => False
theorem o_fieldAddr {pos} {dst} {s} {x} {f} : opX P pos dst (.fieldAddr s x f) σ K = faX P s (σ.e x) f fun v => K (σ.put dst v) := by
  rw [ev_eq (p := fun v => faX P s (σ.e x) f fun u => v = u) (fun _ => by simp only [aop]) (fun r => by
    simp only [Ev, faX]
    generalize σ.e x = v
    split
    · exact propext ⟨fun ⟨q, h1, h2, h3⟩ => ⟨_, ⟨q, h1, h2, rfl⟩, h3⟩, fun ⟨v, ⟨q, h1, h2, h4⟩, h3⟩ => ⟨q, h1, h2, h4 ▸ h3⟩⟩
    · exact propext ⟨fun ⟨q, h1, h2, h3⟩ => ⟨_, ⟨q, h1, h2, rfl⟩, h3⟩, fun ⟨v, ⟨q, h1, h2, h4⟩, h3⟩ => ⟨q, h1, h2, h4 ▸ h3⟩⟩
    · exact propext ⟨fun ⟨q, h1, h2, h3⟩ => ⟨_, ⟨q, h1, h2, rfl⟩, h3⟩, fun ⟨v, ⟨q, h1, h2, h4⟩, h3⟩ => ⟨q, h1, h2, h4 ▸ h3⟩⟩
    · exact propext ⟨fun ⟨q, h1, h2, h3⟩ => ⟨_, ⟨q, h1, h2, rfl⟩, h3⟩, fun ⟨v, ⟨q, h1, h2, h4⟩, h3⟩ => ⟨q, h1, h2, h4 ▸ h3⟩⟩
    · simp)]
  unfold faX
  split
  · exact propext ⟨fun ⟨v, ⟨q, h1, h2, h4⟩, h3⟩ => ⟨q, h1, h2, h4 ▸ h3⟩, fun ⟨q, h1, h2, h3⟩ => ⟨_, ⟨q, h1, h2, rfl⟩, h3⟩⟩
  · exact propext ⟨fun ⟨v, ⟨q, h1, h2, h4⟩, h3⟩ => ⟨q, h1, h2, h4 ▸ h3⟩, fun ⟨q, h1, h2, h3⟩ => ⟨_, ⟨q, h1, h2, rfl⟩, h3⟩⟩
  · exact propext ⟨fun ⟨v, ⟨q, h1, h2, h4⟩, h3⟩ => ⟨q, h1, h2, h4 ▸ h3⟩, fun ⟨q, h1, h2, h3⟩ => ⟨_, ⟨q, h1, h2, rfl⟩, h3⟩⟩
  · exact propext ⟨fun ⟨v, ⟨q, h1, h2, h4⟩, h3⟩ => ⟨q, h1, h2, h4 ▸ h3⟩, fun ⟨q, h1, h2, h3⟩ => ⟨_, ⟨q, h1, h2, rfl⟩, h3⟩⟩
  · simp
@[go_sem] theorem faX_box {s} {b off f} {K} : faX P s (.box b off) f K = optX (fOff P s f) fun q => andX (0 < tsz P q.2) (valX (off + q.1) fun o => K (.box b o)) := rfl
@[go_sem] theorem faX_rop {s} {ds} {off f} {K} : faX P s (.rop ds off) f K = optX (fOff P s f) fun q => andX (0 < tsz P q.2) (valX (off + q.1) fun o => K (.rop ds o)) := rfl
@[go_sem] theorem faX_els {s} {t g} {p} {sz i off f} {K} : faX P s (.els t g p sz i off) f K = optX (fOff P s f) fun q => andX (0 < tsz P q.2) (valX (off + q.1) fun o => K (.els t g p sz i o)) := rfl
@[go_sem] theorem faX_elt {s} {t sz i off f} {K} : faX P s (.elt t sz i off) f K = optX (fOff P s f) fun q => andX (0 < tsz P q.2) (valX (off + q.1) fun o => K (.elt t sz i o)) := rfl

def fdX (P : Program) (s : TypeId) (v : AV) (f : Nat) (K : AV → Prop) : Prop := match v with
  | .agg vs => optX (fOff P s f) fun q => iteX (ti P q.2).isAgg (andX (q.1 + tsz P q.2 ≤ vs.length) (valX (.agg (vcells vs q.1 (tsz P q.2))) K)) (andX ((ti P q.2).sc = true) (optX vs[q.1]? K))
  | _ => False
@[go_sem] theorem fdX_agg {s} {vs} {f} {K} : fdX P s (.agg vs) f K = optX (fOff P s f) fun q => iteX (ti P q.2).isAgg (andX (q.1 + tsz P q.2 ≤ vs.length) (valX (.agg (vcells vs q.1 (tsz P q.2))) K)) (andX ((ti P q.2).sc = true) (optX vs[q.1]? K)) := rfl
theorem o_field {pos} {dst} {s} {x} {f} : opX P pos dst (.field s x f) σ K = fdX P s (σ.e x) f fun v => K (σ.put dst v) := by
  rw [ev_eq (p := fun v => fdX P s (σ.e x) f fun u => v = u) (fun _ => by simp only [aop]) (fun r => by
    simp only [Ev, fdX]
    generalize σ.e x = v
    split
    · rename_i vs
      simp only [optX, iteX, andX, valX]
      refine propext ⟨?_, ?_⟩
      · rintro ⟨q, h1, h2⟩
        split at h2
        · rename_i hi; exact ⟨_, ⟨q, h1, .inl ⟨hi, h2.1, rfl⟩⟩, h2.2⟩
        · rename_i hi; obtain ⟨h3, v, h4, h5⟩ := h2; exact ⟨v, ⟨q, h1, .inr ⟨by simpa using hi, h3, v, h4, rfl⟩⟩, h5⟩
      · rintro ⟨v, ⟨q, h1, (⟨hi, h2, rfl⟩ | ⟨hi, h3, u, h4, rfl⟩)⟩, h5⟩
        · exact ⟨q, h1, by rw [if_pos hi]; exact ⟨h2, h5⟩⟩
        · exact ⟨q, h1, by rw [if_neg (by simp [hi])]; exact ⟨h3, v, h4, h5⟩⟩
    · simp)]
  unfold fdX
  split
  · simp only [optX, iteX, andX, valX]
    refine propext ⟨?_, ?_⟩
    · rintro ⟨v, ⟨q, h1, (⟨hi, h2, rfl⟩ | ⟨hi, h3, u, h4, rfl⟩)⟩, h5⟩
      · exact ⟨q, h1, .inl ⟨hi, h2, h5⟩⟩
      · exact ⟨q, h1, .inr ⟨hi, h3, v, h4, h5⟩⟩
    · rintro ⟨q, h1, (⟨hi, h2, h5⟩ | ⟨hi, h3, u, h4, h5⟩)⟩
      · exact ⟨_, ⟨q, h1, .inl ⟨hi, h2, rfl⟩⟩, h5⟩
      · exact ⟨u, ⟨q, h1, .inr ⟨hi, h3, u, h4, rfl⟩⟩, h5⟩
  · simp
attribute [go_sem] fOff

/-! Elements. -/
def idxX (rows : List (List D)) (n : Int) (sz : Nat) (K : List D → Prop) : Prop := ∃ row, RowAt rows n sz row ∧ K row
def iaX (P : Program) (t : TypeId) (x i : AV) (σ : St) (K : AV → Prop) : Prop := ∃ v, IdxA P σ.T t x i v ∧ K v
def slX (t : TI) (K : TypeId → Prop) : Prop := match t with | .sl e => K e | _ => False
@[go_sem] theorem slX_sl {e} {K} : slX (.sl e) K = K e := rfl
/-! Elements of arrays of numbers, bytes of strings. -/
def elX (P : Program) (t : TypeId) (x i : AV) (K : AV → Prop) : Prop := ∃ v, ElemA P t x i v ∧ K v
def arX (t : TI) (K : Nat → TypeId → Prop) : Prop := match t with | .arr n e => K n e | _ => False
@[go_sem ↓] theorem arX_arr {n} {e} {K} : arX (.arr n e) K = K n e := rfl
def inX (t : TI) (K : IntKind → Prop) : Prop := match t with | .int k => K k | _ => False
@[go_sem ↓] theorem inX_int {k} {K} : inX (.int k) K = K k := rfl
@[go_sem] theorem intsK_nil {k} : intsK k [] = some [] := rfl
@[go_sem] theorem intsK_cons {k} {n} {vs} : intsK k (.int k n :: vs) = (intsK k vs).map (n :: ·) := by rw [intsK, if_pos rfl]
theorem o_index {pos} {dst} {t} {x i} : opX P pos dst (.index t x i) σ K = elX P t (σ.e x) (σ.e i) fun v => K (σ.put dst v) :=
  ev_eq (p := fun v => ElemA P t (σ.e x) (σ.e i) v) (fun _ => by simp only [aop]) (fun r => by simp only [Ev])
@[go_sem ↓] theorem elX_arr {t} {vs} {k} {n} {K} : elX P t (.agg vs) (.int k n) K = arX (ti P t) fun l e => inX (ti P e) fun kd => andX (tsz P e = 1) (optX (intsK kd vs) fun ns => andX (l = ns.length) (optX (atI ns n) fun m => K (.int kd m))) := by
  simp only [elX, ElemA, arX, inX, andX, optX]
  generalize ti P t = q
  cases q with
  | arr l e =>
    simp only
    generalize ti P e = q
    cases q with
    | int kd => exact propext ⟨fun ⟨v, ⟨h1, ns, h2, h3, m, h4, h5⟩, h⟩ => ⟨h1, ns, h2, h3, m, h4, h5 ▸ h⟩, fun ⟨h1, ns, h2, h3, m, h4, h⟩ => ⟨_, ⟨h1, ns, h2, h3, m, h4, rfl⟩, h⟩⟩
    | _ => simp
  | _ => simp
@[go_sem ↓] theorem elX_str {t} {s} {k} {n} {K} : elX P t (.str s) (.int k n) K = andX (ti P t = .str) (optX (atB s n) fun m => K (.int .u8 m)) := by
  simp only [elX, ElemA, andX, optX]
  exact propext ⟨fun ⟨v, ⟨h1, m, h2, h3⟩, h⟩ => ⟨h1, m, h2, h3 ▸ h⟩, fun ⟨h1, m, h2, h⟩ => ⟨_, ⟨h1, m, h2, rfl⟩, h⟩⟩
/-! Parts of slices and strings. -/
def slcX (P : Program) (T : Nat → Option Tok) (t : TypeId) (x : AV) (l h : Option AV) (K : AV → Prop) : Prop := ∃ v, (SliceA P t x l h v ∨ SliP P T t x l h v) ∧ K v
theorem o_slice {pos} {dst} {t} {x} {l h} : opX P pos dst (.slice t x l h none) σ K = slcX P σ.T t (σ.e x) (l.map σ.e) (h.map σ.e) fun v => K (σ.put dst v) :=
  ev_eq (p := fun v => SliceA P t (σ.e x) (l.map σ.e) (h.map σ.e) v ∨ SliP P σ.T t (σ.e x) (l.map σ.e) (h.map σ.e) v) (fun _ => by simp only [aop]) (fun r => by simp only [Ev])
@[go_sem ↓] theorem slcX_ro {t} {rows} {l h} {T} {K} : slcX P T t (.ro rows) l h K = slX (ti P t) fun el => andX (0 < tsz P el) (andX (∀ row ∈ rows, row.length = tsz P el) (optX (bndI l 0) fun i => optX (bndI h rows.length) fun j => optX (cutL rows i j) fun r => K (.ro r))) := by
  simp only [slcX, SliceA, SliP, or_false, slX, andX, optX]
  generalize ti P t = q
  cases q with
  | sl el => exact propext ⟨fun ⟨v, ⟨el', h0, ⟨h1, h2⟩, i, h3, j, h4, r, h5, h6⟩, h7⟩ => by cases h0; exact ⟨h1, h2, i, h3, j, h4, r, h5, h6 ▸ h7⟩, fun ⟨h1, h2, i, h3, j, h4, r, h5, h7⟩ => ⟨_, ⟨_, rfl, ⟨h1, h2⟩, i, h3, j, h4, r, h5, rfl⟩, h7⟩⟩
  | _ => simp
@[go_sem ↓] theorem slcX_str {t} {s} {l h} {T} {K} : slcX P T t (.str s) l h K = andX (ti P t = .str) (optX (bndI l 0) fun i => optX (bndI h s.size) fun j => optX (cutB s i j) fun r => K (.str r)) := by
  simp only [slcX, SliceA, SliP, or_false, andX, optX]
  exact propext ⟨fun ⟨v, ⟨h0, i, h3, j, h4, r, h5, h6⟩, h7⟩ => ⟨h0, i, h3, j, h4, r, h5, h6 ▸ h7⟩, fun ⟨h0, i, h3, j, h4, r, h5, h7⟩ => ⟨_, ⟨h0, i, h3, j, h4, r, h5, rfl⟩, h7⟩⟩
@[go_sem] theorem bnd_none {d} : bndI none d = some d := rfl
@[go_sem] theorem bnd_some {k} {n d} : bndI (some (.int k n)) d = some n := rfl
theorem o_indexAddr {pos} {dst} {t} {x i} : opX P pos dst (.indexAddr t x i) σ K = iaX P t (σ.e x) (σ.e i) σ fun v => K (σ.put dst v) :=
  ev_eq (p := fun v => IdxA P σ.T t (σ.e x) (σ.e i) v) (fun _ => by simp only [aop]) (fun r => by simp only [Ev])
@[go_sem] theorem iaX_ro {t} {rows} {k} {n} {K} : iaX P t (.ro rows) (.int k n) σ K = slX (ti P t) fun e => andX (0 < tsz P e) (idxX rows n (tsz P e) fun row => K (.rop (row.map ofD) 0)) := by
  simp only [iaX, IdxA, slX, andX, idxX]
  generalize ti P t = q
  cases q with
  | sl e => exact propext ⟨fun ⟨v, ⟨h1, row, h2, h3⟩, h4⟩ => ⟨h1, row, h2, h3 ▸ h4⟩, fun ⟨h1, row, h2, h3⟩ => ⟨_, ⟨h1, row, h2, rfl⟩, h3⟩⟩
  | _ => simp
@[go_sem] theorem iaX_own {t} {t'} {k} {n} {K} : iaX P t (.own t') (.int k n) σ K = slX (ti P t) fun e => andX (0 < tsz P e) (optX (σ.T t') fun tk => idxX tk.rows n (tsz P e) fun _ => K (.elt t' (tsz P e) n.toNat 0)) := by
  simp only [iaX, IdxA, slX, andX, idxX, optX]
  generalize ti P t = q
  cases q with
  | sl e => exact propext ⟨fun ⟨v, ⟨h1, tk, row, h0, h2, h3⟩, h4⟩ => ⟨h1, tk, h0, row, h2, h3 ▸ h4⟩, fun ⟨h1, tk, h0, row, h2, h3⟩ => ⟨_, ⟨h1, tk, row, h0, h2, rfl⟩, h3⟩⟩
  | _ => simp
@[go_sem] theorem iaX_sub {t} {t' g} {p} {k} {n} {K} : iaX P t (.sub t' g p) (.int k n) σ K = slX (ti P t) fun e => andX (0 < tsz P e) (optX (subR σ.T t' g p) fun rows => idxX rows n (tsz P e) fun _ => K (.els t' g p (tsz P e) n.toNat 0)) := by
  simp only [iaX, IdxA, slX, andX, idxX, optX]
  generalize ti P t = q
  cases q with
  | sl e => exact propext ⟨fun ⟨v, ⟨h1, tk, row, h0, h2, h3⟩, h4⟩ => ⟨h1, tk, h0, row, h2, h3 ▸ h4⟩, fun ⟨h1, tk, h0, row, h2, h3⟩ => ⟨_, ⟨h1, tk, row, h0, h2, rfl⟩, h3⟩⟩
  | _ => simp

def extX (v : AV) (i : Nat) (K : AV → Prop) : Prop := match v with | .tup vs => optX vs[i]? K | _ => False
@[go_sem] theorem extX_tup {vs} {i} {K} : extX (.tup vs) i K = optX vs[i]? K := rfl
theorem o_extract {pos} {dst} {x} {i} : opX P pos dst (.extract x i) σ K = extX (σ.e x) i fun v => K (σ.put dst v) := by
  rw [ev_eq (p := fun v => extX (σ.e x) i fun u => v = u) (fun _ => by simp only [aop]) (fun r => by
    simp only [Ev, extX]
    generalize σ.e x = v
    cases v <;> simp [optX])]
  unfold extX
  generalize σ.e x = v
  cases v <;> simp [optX]

def evs (σ : St) : List Operand → List AV
  | [] => []
  | x :: xs => σ.e x :: evs σ xs
theorem evs_map {xs} : evs σ xs = xs.map σ.e := by induction xs with | nil => rfl | cons x xs ih => simp [evs, ih]
attribute [go_sem] evs
@[go_sem ↓] theorem o_makeFunc {pos} {dst} {f} {caps} : opX P pos dst (.makeFunc (.func f) (List.toArray []) caps.toArray) σ K = valX (.fn f (evs σ caps)) fun v => K (σ.put dst v) := by
  rw [ev_eq (p := fun v => v = .fn f (evs σ caps)) (fun _ => by simp only [aop]) (fun r => by simp [Ev, evs_map])]
  simp [valX]

def lenX (P : Program) (t : TypeId) (x : AV) (σ : St) (K : AV → Prop) : Prop := ∃ v, LenA P σ.T σ.B t x v ∧ K v
theorem o_len {pos} {dst} {x} {t} : opX P pos dst (.call ⟨.builtin .len, List.toArray [x], List.toArray [t]⟩) σ K = lenX P t (σ.e x) σ fun v => K (σ.put dst v) :=
  ev_eq (p := fun v => LenA P σ.T σ.B t (σ.e x) v) (fun _ => by simp only [aop]) (fun r => by simp only [Ev])

def twoX (f : Int → Int → Int) (x y : AV) (K : AV → Prop) : Prop := match x, y with
  | .int k n, .int k' m => k = k' ∧ K (.int k (f n m))
  | _, _ => False
@[go_sem] theorem twoX_int {f} {k} {n m} {K} : twoX f (.int k n) (.int k m) K = valX (f n m) fun r => K (.int k r) := by simp [twoX, valX]
theorem o_max {pos} {dst} {x y} {ts} : opX P pos dst (.call ⟨.builtin .max, List.toArray [x, y], ts⟩) σ K = twoX (fun n m => if n < m then m else n) (σ.e x) (σ.e y) fun v => K (σ.put dst v) := by
  rw [ev_eq (p := fun v => twoX (fun n m => if n < m then m else n) (σ.e x) (σ.e y) fun u => v = u) (fun _ => by simp only [aop]) (fun r => by
    simp only [Ev, twoX]
    generalize σ.e x = u
    generalize σ.e y = v
    cases u <;> cases v <;> simp [and_assoc])]
  unfold twoX
  generalize σ.e x = u
  generalize σ.e y = v
  cases u <;> cases v <;> simp [and_assoc]
theorem o_min {pos} {dst} {x y} {ts} : opX P pos dst (.call ⟨.builtin .min, List.toArray [x, y], ts⟩) σ K = twoX (fun n m => if m < n then m else n) (σ.e x) (σ.e y) fun v => K (σ.put dst v) := by
  rw [ev_eq (p := fun v => twoX (fun n m => if m < n then m else n) (σ.e x) (σ.e y) fun u => v = u) (fun _ => by simp only [aop]) (fun r => by
    simp only [Ev, twoX]
    generalize σ.e x = u
    generalize σ.e y = v
    cases u <;> cases v <;> simp [and_assoc])]
  unfold twoX
  generalize σ.e x = u
  generalize σ.e y = v
  cases u <;> cases v <;> simp [and_assoc]
end
attribute [go_sem ↓] nilX_box nilX_rop nilX_elt nilX_els nilT_nils nilT_bsl bin_add bin_sub bin_mul bin_eql bin_neq bin_lss bin_leq bin_gtr bin_geq bin_shl bin_shr bin_and bin_or bin_xor bin_andNot bin_quo bin_rem bin_seql bin_sneq bin_sadd bin_beql bin_bneq bin_nn bin_nnn bin_bn bin_bnn bin_rn bin_rnn bin_aeql bin_aneq uno_not uno_neg uno_xor kindX_int convX_int faX_box faX_rop faX_elt faX_els fdX_agg slX_sl iaX_ro iaX_own iaX_sub extX_tup twoX_int
end Go.Proofs.Ytgigfdghecdlgaa.Ab
