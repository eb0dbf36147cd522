/-
  The abstract walk: places in a function's text, values that name nothing of the call's own, steps of models.
-/
import Derived.Test.YtgigfdghecdlgaaAbV
namespace Go.Proofs.Ytgigfdghecdlgaa.Ab
set_option linter.unusedVariables false
open Go.RowKit

/-! ### Places in a function's text -/
def pos (P : Program) : Code → List Nat → (AE → St → Prop) → St → Prop
  | c, [], Q => awp P c Q
  | .seq a b, 0 :: p, Q => pos P a p (AE.then (seqX (plain a) (awp P b Q)) Q)
  | .seq a b, _ :: p, Q => pos P b p Q
  | .cond _ a b, 0 :: p, Q => pos P a p Q
  | .cond _ a b, _ :: p, Q => pos P b p Q
  | .block id c, _ :: p, Q => pos P c p (AE.inBlock id Q)
  | .loop c, _ :: p, Q => pos P c p (AE.then (lpX P c Q) Q)
  | _, _, _ => fun _ => False
def posF (P : Program) (fn : Func) (p : List Nat) (r : RV) (σ : St) : Prop := pos P (fn.body.getD .skip) p (endX P fn.results.toList r) σ
/-! What a function leaves of what it was lent. -/
def retY (r : AV) (qt : List (Nat × Tok)) (qb : List (Nat × List AV)) (v : AV) (σ : St) : Prop := Wk ⟨[(0, v)], σ.t, σ.b⟩ ⟨[(0, r)], someT qt, someB qb⟩
def finGX (r : AV) (qt : List (Nat × Tok)) (qb : List (Nat × List AV)) (σ : St) (vs : List AV) : Prop := retY r qt qb (oneA vs) σ
@[go_sem ↓] theorem finG_nil {r} {qt} {qb} {σ} : finGX r qt qb σ [] = retY r qt qb (.tup []) σ := rfl
@[go_sem ↓] theorem finG_one {r v} {qt} {qb} {σ} : finGX r qt qb σ [v] = retY r qt qb v σ := rfl
@[go_sem ↓] theorem finG_two {r v u} {vs} {qt} {qb} {σ} : finGX r qt qb σ (v :: u :: vs) = retY r qt qb (.tup (v :: u :: vs)) σ := rfl
def endGX (P : Program) (l : List ResultVar) (r : AV) (qt : List (Nat × Tok)) (qb : List (Nat × List AV)) (q : AE) (σ : St) : Prop := match q with | .exit _ => False | _ => ResA P σ l (finGX r qt qb σ)
@[go_sem ↓] theorem endG_normal {P} {l} {r} {qt} {qb} {σ} : endGX P l r qt qb .normal σ = ResA P σ l (finGX r qt qb σ) := rfl
@[go_sem ↓] theorem endG_ret {P} {l} {r} {qt} {qb} {σ} : endGX P l r qt qb .ret σ = ResA P σ l (finGX r qt qb σ) := rfl
theorem ret_i {r v} {qt} {qb} {σ σ1} (hn : Nils ⟨[(0, v)], σ.t, σ.b⟩ σ1) (rt rb : List (Nat × Nat)) (h : WeakBy rt rb σ1 ⟨[(0, r)], someT qt, someB qb⟩) : retY r qt qb v σ := .one ⟨σ1, hn, rt, rb, h⟩
attribute [go_sem] someT someB stG PinT PinB oneA
theorem ag_fn {P} (hm : P.follows .mixedOrders = true) {f} {fn} {c} {l} {args} {pt} {pb} {r} {qt} {qb} (hf : P.funcs[f]? = some fn) (hb : fn.body = some c) (hr : fn.results = l.toArray) (hnm : (fn.name == "runtime.NumGoroutine") = false)
    (hn : decide (args.length ≤ fn.ntmps) = true) (hok : codeOk fn.ntmps c = true) (h : awp P c (endGX P l r qt qb) (stG args pt pb)) : AG P f args pt pb r qt qb := by
  refine ag_of_body hm hf hb hnm (of_decide_eq_true hn) hok ?_
  have e : endG P fn.results.toList r qt qb = endGX P l r qt qb := by
    rw [hr]
    funext q σ
    cases q <;> rfl
  rw [e]
  exact h
def posG (P : Program) (fn : Func) (p : List Nat) (r : AV) (qt : List (Nat × Tok)) (qb : List (Nat × List AV)) (σ : St) : Prop := pos P (fn.body.getD .skip) p (endGX P fn.results.toList r qt qb) σ
section
variable {P : Program} {σ : St} {Q : AE → St → Prop}
theorem posG_of {fn} {c} {l} {p} {r} {qt} {qb} (hb : fn.body = some c) (hr : fn.results = l.toArray) (h : pos P c p (endGX P l r qt qb) σ) : posG P fn p r qt qb σ := by
  unfold posG; rw [hb, hr]; exact h
theorem posG_to {fn} {c} {l} {p} {r} {qt} {qb} (hb : fn.body = some c) (hr : fn.results = l.toArray) (h : posG P fn p r qt qb σ) : pos P c p (endGX P l r qt qb) σ := by
  unfold posG at h; rw [hb, hr] at h; exact h
theorem posF_of {fn} {c} {l} {p} {r} (hb : fn.body = some c) (hr : fn.results = l.toArray) (h : pos P c p (endX P l r) σ) : posF P fn p r σ := by
  unfold posF; rw [hb, hr]; exact h
theorem posF_to {fn} {c} {l} {p} {r} (hb : fn.body = some c) (hr : fn.results = l.toArray) (h : posF P fn p r σ) : pos P c p (endX P l r) σ := by
  unfold posF at h; rw [hb, hr] at h; exact h
@[go_sem ↓] theorem pos_nil {c} : pos P c [] Q σ = awp P c Q σ := by cases c <;> rfl
@[go_sem ↓] theorem pos_seq0 {a b} {p} : pos P (.seq a b) (0 :: p) Q σ = pos P a p (AE.then (seqX (plain a) (awp P b Q)) Q) σ := rfl
@[go_sem ↓] theorem pos_seq1 {a b} {p} : pos P (.seq a b) (1 :: p) Q σ = pos P b p Q σ := rfl
@[go_sem ↓] theorem pos_cond0 {c} {a b} {p} : pos P (.cond c a b) (0 :: p) Q σ = pos P a p Q σ := rfl
@[go_sem ↓] theorem pos_cond1 {c} {a b} {p} : pos P (.cond c a b) (1 :: p) Q σ = pos P b p Q σ := rfl
@[go_sem ↓] theorem pos_block {id} {c} {p} : pos P (.block id c) (0 :: p) Q σ = pos P c p (AE.inBlock id Q) σ := rfl
@[go_sem ↓] theorem pos_loop {c} {p} : pos P (.loop c) (0 :: p) Q σ = pos P c p (AE.then (lpX P c Q) Q) σ := rfl
theorem awp_wk {c} {σ σ1} (hw : Wk σ σ1) (h : awp P (.loop c) Q σ1) : awp P (.loop c) Q σ := by
  rw [awp] at h ⊢
  intro L hL
  obtain ⟨σ0, h1, h2⟩ := h L hL
  exact ⟨σ0, hw.trans h1, h2⟩
theorem loop_to {b} {w1} {w2} {σ1} (h : awp P (.loop b) Q σ1) (hw : Wk σ σ1) : loopY P b Q σ w1 w2 := awp_wk hw h
end

/-! ### Values that name nothing of the call's own -/
mutual
theorem known_pure {rt rb} : ∀ {a}, pureA a = true → known rt rb a = true ∧ ren rt rb a = a
  | .int _ _, _ => ⟨rfl, rfl⟩
  | .bool _, _ => ⟨rfl, rfl⟩
  | .str _, _ => ⟨rfl, rfl⟩
  | .ro _, _ => ⟨rfl, rfl⟩
  | .nilp, _ => ⟨rfl, rfl⟩
  | .rop vs off, h => by
    simp only [pureA] at h
    obtain ⟨h1, h2⟩ := knowns_pure (rt := rt) (rb := rb) h
    simp only [known, ren]
    exact ⟨h1, by rw [h2]⟩
  | .fn f vs, h => by
    simp only [pureA] at h
    obtain ⟨h1, h2⟩ := knowns_pure (rt := rt) (rb := rb) h
    simp only [known, ren]
    exact ⟨h1, by rw [h2]⟩
  | .agg vs, h => by
    simp only [pureA] at h
    obtain ⟨h1, h2⟩ := knowns_pure (rt := rt) (rb := rb) h
    simp only [known, ren]
    exact ⟨h1, by rw [h2]⟩
theorem knowns_pure {rt rb} : ∀ {as}, pureAs as = true → knowns rt rb as = true ∧ rens rt rb as = as
  | [], _ => ⟨rfl, rfl⟩
  | a :: as, h => by
    simp only [pureAs, Bool.and_eq_true] at h
    obtain ⟨h1, h2⟩ := known_pure (rt := rt) (rb := rb) h.1
    obtain ⟨h3, h4⟩ := knowns_pure (rt := rt) (rb := rb) h.2
    simp only [knowns, rens, h1, h2, h3, h4, Bool.and_self, and_self]
end
mutual
theorem cl_pure {T} {B} : ∀ {a}, pureA a = true → cl T B a = some a
  | .int _ _, _ => rfl
  | .bool _, _ => rfl
  | .str _, _ => rfl
  | .ro _, _ => rfl
  | .nilp, _ => rfl
  | .rop vs off, h => by simp only [pureA] at h; simp only [cl, cls_pure h, Option.map_some]
  | .fn f vs, h => by simp only [pureA] at h; simp only [cl, cls_pure h, Option.map_some]
  | .agg vs, h => by simp only [pureA] at h; simp only [cl, cls_pure h, Option.map_some]
theorem cls_pure {T} {B} : ∀ {as}, pureAs as = true → cls T B as = some as
  | [], _ => rfl
  | a :: as, h => by
    simp only [pureAs, Bool.and_eq_true] at h
    simp only [cls, cl_pure h.1, cls_pure h.2]
end
/-- What the walk asks of the captured values of a function that is handed in. -/
structure Still (vs : List AV) : Prop where
  p : pureAs vs = true
  k : ∀ rt rb, knowns rt rb vs = true
  r : ∀ rt rb, rens rt rb vs = vs
  c : ∀ T B, cls T B vs = some vs
theorem Still.of {vs} (h : pureAs vs = true) : Still vs := ⟨h, fun _ _ => (knowns_pure h).1, fun _ _ => (knowns_pure h).2, fun _ _ => cls_pure h⟩

/-! ### An argument that tells more than is asked -/
def Sub (a b : AV) : Prop := ∀ w v, VSim w Gh.none a v → VSim w Gh.none b v
theorem Sub.refl (a : AV) : Sub a a := fun _ _ h => h
theorem Sub.rop {vs us} {off} (h : (vs.drop off).take us.length = us) : Sub (.rop vs off) (.rop us 0) := fun w v hv => by
  simp only [VSim] at hv ⊢
  obtain ⟨b, o, xs, rfl, h1, h2⟩ := hv
  refine ⟨b, o + off, (xs.drop off).take us.length, rfl, ?_, fun j u hu => ?_⟩
  · have := h1.take_drop off us.length
    unfold vcells at this
    rw [h] at this; exact this
  · rw [List.getElem?_take] at hu
    split at hu
    · rw [List.getElem?_drop] at hu
      rw [Nat.add_assoc]; exact h2 _ _ hu
    · cases hu
def Subs : List AV → List AV → Prop
  | [], [] => True
  | a :: as, b :: bs => Sub a b ∧ Subs as bs
  | _, _ => False
theorem Subs.nil : Subs [] [] := trivial
theorem Subs.cons {a b} {as bs} (h : Sub a b) (k : Subs as bs) : Subs (a :: as) (b :: bs) := ⟨h, k⟩
theorem Subs.vsims {w} : ∀ {as bs} {us}, Subs as bs → VSims w Gh.none as us → VSims w Gh.none bs us
  | [], [], us, _, h => h
  | a :: as, b :: bs, us, h, hv => by
    simp only [VSims] at hv ⊢
    obtain ⟨u, us', rfl, h1, h2⟩ := hv
    exact ⟨u, us', rfl, h.1 _ _ h1, Subs.vsims h.2 h2⟩
  | [], _ :: _, _, h, _ => h.elim
  | _ :: _, [], _, h, _ => h.elim
theorem ac_sub {P} {f} {as bs} {r} (k : AC P f bs r) (h : Subs as bs) : AC P f as r :=
  ⟨k.1, fun w us h1 h2 ha h3 => k.2 w us h1 h2 ha (h.vsims h3)⟩

/-! ### Maps with numbers as keys -/
def prB (p : Int × Bool) : List D := [.int .i64 p.1, .bool p.2]
def prI (p : Int × Int) : List D := [.int .i64 p.1, .int .i64 p.2]
def mget? {β : Type} : List (Int × β) → Int → Option β
  | [], _ => none
  | p :: l, k => if k = p.1 then some p.2 else mget? l k
def mputP {β : Type} : List (Int × β) → Int → β → List (Int × β)
  | [], k, v => [(k, v)]
  | p :: l, k, v => if k = p.1 then (k, v) :: l else p :: mputP l k v
/-- A store into a map; none where the memory of a machine would not do. -/
def mput? {β : Type} (l : List (Int × β)) (k : Int) (v : β) : Option (List (Int × β)) := if l.length < 68719476736 then some (mputP l k v) else none
theorem mput_some {β : Type} {l r : List (Int × β)} {k : Int} {v : β} (h : mput? l k v = some r) : l.length < 68719476736 ∧ mputP l k v = r := by
  unfold mput? at h
  split at h
  · exact ⟨‹_›, Option.some.inj h⟩
  · cases h
theorem mfind_prB {l} {k} : mfind (.int .i64 k) (List.map prB l) = (mget? l k).map D.bool := by
  induction l with
  | nil => rfl
  | cons p l ih =>
    simp only [List.map_cons, prB, mfind, mget?, sameD, beq_self_eq_true, Bool.true_and, decide_eq_true_eq]
    split
    · rfl
    · exact ih
theorem mfind_prI {l} {k} : mfind (.int .i64 k) (List.map prI l) = (mget? l k).map (D.int .i64) := by
  induction l with
  | nil => rfl
  | cons p l ih =>
    simp only [List.map_cons, prI, mfind, mget?, sameD, beq_self_eq_true, Bool.true_and, decide_eq_true_eq]
    split
    · rfl
    · exact ih
theorem mput_prB {l} {k} {v} : mput (.int .i64 k) (.bool v) (List.map prB l) = List.map prB (mputP l k v) := by
  induction l with
  | nil => rfl
  | cons p l ih =>
    simp only [List.map_cons, prB, mput, mputP, sameD, beq_self_eq_true, Bool.true_and, decide_eq_true_eq]
    split
    · rfl
    · rw [List.map_cons, ← ih]; rfl
theorem mput_prI {l} {k v} : mput (.int .i64 k) (.int .i64 v) (List.map prI l) = List.map prI (mputP l k v) := by
  induction l with
  | nil => rfl
  | cons p l ih =>
    simp only [List.map_cons, prI, mput, mputP, sameD, beq_self_eq_true, Bool.true_and, decide_eq_true_eq]
    split
    · rfl
    · rw [List.map_cons, ← ih]; rfl
attribute [go_sem] mfind_prB mfind_prI
@[go_sem] theorem look_B {o : Option Bool} {z : Bool} : ((o.map D.bool).map ofD).getD (.bool z) = .bool (o.getD z) := by cases o <;> rfl
@[go_sem] theorem look_I {o : Option Int} {z : Int} : ((o.map (D.int .i64)).map ofD).getD (.int .i64 z) = .int .i64 (o.getD z) := by cases o <;> rfl
@[go_sem] theorem isSome_map' {α β : Type} {o : Option α} {f : α → β} : (o.map f).isSome = o.isSome := by cases o <;> rfl
/-! ### Steps of models -/
/-- As many rounds as no program of ours takes. -/
@[irreducible] def fuel : Nat := 4611686018427387904
theorem fuel_eq : fuel = 4611686018427387904 := by unfold fuel; rfl
def at? {α : Type} (l : List α) (i : Int) : Option α := if 0 ≤ i then l[i.toNat]? else none
/-- Two lists in one; none where the memory of a machine would not do. -/
def app? {α : Type} (a b : List α) : Option (List α) := if a.length + b.length ≤ 68719476736 then some (a ++ b) else none
def sapp? (a b : ByteArray) : Option ByteArray := if a.size + b.size ≤ 9223372036854775807 then some (a ++ b) else none
def rep? {α : Type} (n : Int) (z : α) : Option (List α) := if 0 ≤ n ∧ n ≤ 68719476736 then some (List.replicate n.toNat z) else none
def set? {α : Type} (l : List α) (i : Int) (x : α) : List α := l.set i.toNat x
def set1? {α : Type} (l : List α) (i : Int) (x : α) : Option (List α) := some (set? l i x)
theorem set1_some {α : Type} {l : List α} {i : Int} {x : α} {r : List α} (h : set1? l i x = some r) : l.set i.toNat x = r := Option.some.inj h
/-- What may stand behind a division. -/
def nz? (b : Int) : Option Unit := if b = 0 then none else some ()
theorem nz_some {b} {u} (h : nz? b = some u) : b ≠ 0 := by
  unfold nz? at h
  split at h
  · cases h
  · assumption
/-- What may stand behind a shift. -/
def nn? (b : Int) : Option Unit := if 0 ≤ b then some () else none
theorem nn_some {b} {u} (h : nn? b = some u) : 0 ≤ b := by
  unfold nn? at h
  split at h
  · assumption
  · cases h
/-- A list that must be empty. -/
def emp? {α : Type} (l : List α) : Option Unit := match l with
  | [] => some ()
  | _ :: _ => none
theorem emp_some {α : Type} {l : List α} {u : Unit} (h : emp? l = some u) : l = [] := by
  cases l with
  | nil => rfl
  | cons x l => cases h
/-- Bytes as a string. -/
def strN? (ns : List Int) : Option ByteArray := if ns.length ≤ 9223372036854775807 then some (strOfNums ns) else none
theorem strN_some {ns} {v} (h : strN? ns = some v) : ns.length ≤ maxLen ∧ strOfNums ns = v := by
  unfold strN? at h
  split at h
  · exact ⟨by unfold maxLen; assumption, Option.some.inj h⟩
  · cases h
theorem bindE {α β : Type} {x : Option α} {k : α → Option β} {r : β} (h : Option.bind x k = some r) : ∃ v, x = some v ∧ k v = some r := by
  cases x with
  | none => cases h
  | some v => exact ⟨v, rfl, h⟩
theorem ifT {α : Type} {c : Bool} {a b r : α} (hb : c = true) (h : (if c = true then a else b) = r) : a = r := by rw [if_pos hb] at h; exact h
theorem ifF {α : Type} {c : Bool} {a b r : α} (hb : c = false) (h : (if c = true then a else b) = r) : b = r := by subst hb; exact h
/-- A condition that the model asks too. -/
theorem cond_h {b : Bool} {p q : Prop} {w : Wrap p} {w' : Wrap q} {α : Type} {x y r : α} (h : (if b = true then x else y) = r) (hp : x = r → p) (hq : y = r → q) : condY b p q w w' := ⟨fun e => hp (ifT e h), fun e => hq (ifF e h)⟩
theorem at_some {α : Type} {l : List α} {i : Int} {x : α} (h : at? l i = some x) : 0 ≤ i ∧ l[i.toNat]? = some x := by
  unfold at? at h
  split at h
  · exact ⟨‹_›, h⟩
  · cases h
theorem app_some {α : Type} {a b l : List α} (h : app? a b = some l) : a.length + b.length ≤ 68719476736 ∧ a ++ b = l := by
  unfold app? at h
  split at h
  · exact ⟨‹_›, Option.some.inj h⟩
  · cases h
theorem sapp_some {a b l} (h : sapp? a b = some l) : a.size + b.size ≤ maxLen ∧ a ++ b = l := by
  unfold sapp? at h
  split at h
  · refine ⟨?_, Option.some.inj h⟩; unfold maxLen; omega
  · cases h
theorem rep_some {α : Type} {n : Int} {z : α} {l : List α} (h : rep? n z = some l) : 0 ≤ n ∧ n ≤ 68719476736 ∧ List.replicate n.toNat z = l := by
  unfold rep? at h
  split at h
  · exact ⟨(‹_ ∧ _› : _).1, (‹_ ∧ _› : _).2, Option.some.inj h⟩
  · cases h
theorem idx_m {α : Type} {f : α → List D} {l : List α} {n : Int} {sz : Nat} {K : List D → Prop} {w : Wrap K} {x : α} (h : at? l n = some x) (hl : (f x).length = sz) (hk : K (f x)) : idxY (List.map f l) n sz K w := by
  obtain ⟨h0, h1⟩ := at_some h
  exact ⟨f x, ⟨h0, by rw [List.getElem?_map, h1]; rfl, hl⟩, hk⟩
theorem cut_map {α β : Type} {f : α → β} {l r : List α} {i j : Int} (h : cutL l i j = some r) : cutL (List.map f l) i j = some (List.map f r) := by
  unfold cutL at h ⊢
  rw [List.length_map]
  split at h
  · rename_i h0
    rw [if_pos h0]
    cases h
    simp only [List.map_take, List.map_drop]
  · cases h
section
variable {P : Program} {σ : St} {Q : AE → St → Prop}
/-! A step to a place whose walk is known, in one. -/
theorem seqG {K} {w1} {w2} {σ1} {fn} {c} {l} {p} {r} {qt} {qb} (h : posG P fn p r qt qb σ1) (rt rb : List (Nat × Nat)) (hb : fn.body = some c := by rfl) (hr : fn.results = l.toArray := by rfl) (e : pos P c p (endGX P l r qt qb) σ1 → K σ1 := by exact fun h => h) (hw : WeakBy rt rb σ σ1 := by simp only [go_sem]) : seqY false K σ w1 w2 := seq_to (e (posG_to hb hr h)) (.one ⟨_, .done _, rt, rb, hw⟩)
theorem lpG {b} {w1} {w2} {w3} {σ1} {fn} {c} {l} {p} {r} {qt} {qb} (h : posG P fn p r qt qb σ1) (rt rb : List (Nat × Nat)) (hb : fn.body = some c := by rfl) (hr : fn.results = l.toArray := by rfl) (e : pos P c p (endGX P l r qt qb) σ1 → awp P (.loop b) Q σ1 := by exact fun h => h) (hw : WeakBy rt rb σ σ1 := by simp only [go_sem]) : lpY P b Q σ w1 w2 w3 := lp_to (e (posG_to hb hr h)) (.one ⟨_, .done _, rt, rb, hw⟩)
theorem loG {b} {w1} {w2} {σ1} {fn} {c} {l} {p} {r} {qt} {qb} (h : posG P fn p r qt qb σ1) (rt rb : List (Nat × Nat)) (hb : fn.body = some c := by rfl) (hr : fn.results = l.toArray := by rfl) (e : pos P c p (endGX P l r qt qb) σ1 → awp P (.loop b) Q σ1 := by exact fun h => h) (hw : WeakBy rt rb σ σ1 := by simp only [go_sem]) : loopY P b Q σ w1 w2 := loop_to (e (posG_to hb hr h)) (.one ⟨_, .done _, rt, rb, hw⟩)
theorem seqF {K} {w1} {w2} {σ1} {fn} {c} {l} {p} {r} (h : posF P fn p r σ1) (rt rb : List (Nat × Nat)) (hb : fn.body = some c := by rfl) (hr : fn.results = l.toArray := by rfl) (e : pos P c p (endX P l r) σ1 → K σ1 := by exact fun h => h) (hw : WeakBy rt rb σ σ1 := by simp only [go_sem]) : seqY false K σ w1 w2 := seq_to (e (posF_to hb hr h)) (.one ⟨_, .done _, rt, rb, hw⟩)
theorem lpF {b} {w1} {w2} {w3} {σ1} {fn} {c} {l} {p} {r} (h : posF P fn p r σ1) (rt rb : List (Nat × Nat)) (hb : fn.body = some c := by rfl) (hr : fn.results = l.toArray := by rfl) (e : pos P c p (endX P l r) σ1 → awp P (.loop b) Q σ1 := by exact fun h => h) (hw : WeakBy rt rb σ σ1 := by simp only [go_sem]) : lpY P b Q σ w1 w2 w3 := lp_to (e (posF_to hb hr h)) (.one ⟨_, .done _, rt, rb, hw⟩)
theorem loF {b} {w1} {w2} {σ1} {fn} {c} {l} {p} {r} (h : posF P fn p r σ1) (rt rb : List (Nat × Nat)) (hb : fn.body = some c := by rfl) (hr : fn.results = l.toArray := by rfl) (e : pos P c p (endX P l r) σ1 → awp P (.loop b) Q σ1 := by exact fun h => h) (hw : WeakBy rt rb σ σ1 := by simp only [go_sem]) : loopY P b Q σ w1 w2 := loop_to (e (posF_to hb hr h)) (.one ⟨_, .done _, rt, rb, hw⟩)
theorem seqZ {K} {w1} {w2} {q : Prop} (h : q) (e : q → K σ := by first | (intro h; simp only [go_sem]; exact h) | exact fun h => h) : seqY false K σ w1 w2 := seq_go (e h)
theorem acF {f} {c} {l} {args} {r} {fn} (hf : P.funcs[f]? = some fn) (hm : P.follows .mixedOrders = true) (hb : fn.body = some c := by rfl) (hr : fn.results = l.toArray := by rfl) (hnm : (fn.name == "runtime.NumGoroutine") = false := by rfl)
    (hn : decide (args.length ≤ fn.ntmps) = true := by kernel_rfl) (hok : codeOk fn.ntmps c = true := by kernel_rfl) (h : awp P c (endX P l r) (st0 args)) : AC P f args r := ac_fn hm hf hb hr hnm hn hok h
theorem agF {f} {c} {l} {args} {pt} {pb} {r} {qt} {qb} {fn} (hf : P.funcs[f]? = some fn) (hm : P.follows .mixedOrders = true) (hb : fn.body = some c := by rfl) (hr : fn.results = l.toArray := by rfl) (hnm : (fn.name == "runtime.NumGoroutine") = false := by rfl)
    (hn : decide (args.length ≤ fn.ntmps) = true := by kernel_rfl) (hok : codeOk fn.ntmps c = true := by kernel_rfl) (h : awp P c (endGX P l r qt qb) (stG args pt pb)) : AG P f args pt pb r qt qb := ag_fn hm hf hb hr hnm hn hok h
theorem caG {K} {pos} {dst} {L} {wL} {f} {args} {o} {w} {as} {pt} {pb} {r} {qt} {qb} (y : Way) (h : AG P f as pt pb r qt qb)
    (hc : CarveK y.cv σ fun σ1 => andX (condG y args as pt pb σ1) (UncarveK y.cv (σ1.after y qt qb) fun σ2 => K (σ2.put dst (bak y r)))) (hL : L = true := by kernel_rfl) (hB : condB y as pt pb qt qb = true := by kernel_rfl) : callY P L pos f args o dst σ K w wL := call_g y hL h hB hc
end
/-- A walk's step in simpler words, behind a rule. -/
theorem Z {P Q : Prop} (h : Q) (e : Q → P := by first | (intro h; simp only [go_sem]; exact h) | exact fun h => h) : P := e h
theorem par_m {α : Type} {f : α → List D} {xs ys : List α} {i j : Int} {sz : Nat} (h : cutL xs i j = some ys) (hf : ∀ x, (f x).length = sz) : parR sz i.toNat (j - i).toNat (List.map f xs) = some (List.map f ys) := by
  unfold cutL at h
  unfold parR
  split at h
  · rename_i h0
    cases h
    rw [if_pos ⟨fun row hr => by obtain ⟨x, -, rfl⟩ := List.mem_map.1 hr; exact hf x, by rw [List.length_map]; omega⟩]
    simp only [List.map_take, List.map_drop]
  · cases h
theorem subR_of {σ : St} {t g : Nat} {q : Pth} {tk : Tok} {r : List (List D)} (hT : σ.T t = some tk) (hg : tk.gen = g) (h : getP q tk.rows = some r) : subR σ.T t g q = some r := by
  unfold subR
  rw [hT]
  simp [hg, h]
attribute [go_sem] List.length_replicate
theorem row_m {α : Type} {f : α → List D} {l : List α} {n : Int} {x : α} (h : at? l n = some x) : (List.map f l)[n.toNat]? = some (f x) := by
  rw [List.getElem?_map, (at_some h).2]; rfl

/-! ### Rows of data -/
def i64D (n : Int) : List D := [.int .i64 n]
def u8D (n : Int) : List D := [.int .u8 n]
def boolD (b : Bool) : List D := [.bool b]
def strD (s : ByteArray) : List D := [.str s]
def slD {α : Type} (f : α → List D) (l : List α) : List D := [.sl (List.map f l)]
attribute [go_sem] i64D u8D boolD strD slD List.map_cons List.map_nil List.length_map List.nodup_cons List.mem_cons List.not_mem_nil not_or or_false or_true true_or false_or not_false_eq_true
end Go.Proofs.Ytgigfdghecdlgaa.Ab

/-
  The abstract walk: rows of data that are appended.
-/
namespace Go.Proofs.Ytgigfdghecdlgaa.Ab
set_option linter.unusedVariables false
theorem flat_rows_of {α : Type} {f : α → List D} {sz : Nat} (h : ∀ x, (f x).length = sz ∧ ∀ d ∈ f x, d.flat = true) (l : List α) : ∀ row ∈ List.map f l, row.length = sz ∧ ∀ d ∈ row, d.flat = true := by
  intro row hr
  obtain ⟨x, -, rfl⟩ := List.mem_map.1 hr
  exact h x
theorem len_rows_of {α : Type} {f : α → List D} {sz : Nat} (h : ∀ x, (f x).length = sz) (l : List α) : ∀ row ∈ List.map f l, row.length = sz := by
  intro row hr
  obtain ⟨x, -, rfl⟩ := List.mem_map.1 hr
  exact h x
/-! Rows whose slices are shared. -/
theorem ng_rows_of {α : Type} {f : α → List D} {sz : Nat} (h : ∀ x, (f x).length = sz ∧ ∀ d ∈ f x, d ≠ .gone) (l : List α) : ∀ row ∈ List.map f l, row.length = sz ∧ ∀ d ∈ row, d ≠ .gone := by
  intro row hr
  obtain ⟨x, -, rfl⟩ := List.mem_map.1 hr
  exact h x
theorem fzR_map {α : Type} {f g} (h : ∀ x, fzC (f x) = g x) (l : List α) : fzR (List.map f l) = List.map g l := by
  unfold fzR
  rw [List.map_map]
  exact List.map_congr_left fun x _ => h x
theorem erR_map {α : Type} {f g} (h : ∀ x, erC (f x) = g x) : ∀ l : List α, erR (List.map f l) = List.map g l
  | [] => by simp only [List.map_nil, erR]
  | x :: xs => by rw [List.map_cons, List.map_cons, erR, h x, erR_map h xs]
def D.ngb : D → Bool
  | .gone => false
  | _ => true
theorem noGone {ds : List D} (h : ds.all D.ngb = true) : ∀ d ∈ ds, d ≠ .gone := fun d hd e => by
  have := List.all_eq_true.1 h d hd
  rw [e] at this; cases this
@[go_sem] theorem erR_nil : erR [] = [] := by simp only [erR]
attribute [go_sem] rpS rpB avGet avPut only nilRo
/-! Pointers to memory that is not written any more: in rows; or nil. -/
def pD {α : Type} (f : α → List D) (x : α) : List D := [.ptr (f x)]
attribute [go_sem] pD
@[go_sem] theorem pD_er {α : Type} {f : α → List D} {l : List α} : erR (List.map (pD f) l) = List.map (pD f) l := erR_map (fun c => by simp only [pD, erC, er]) l
@[go_sem] theorem pD_fz {α : Type} {f : α → List D} {l : List α} : fzR (List.map (pD f) l) = List.map (pD f) l := fzR_map (fun _ => rfl) l
def nop {α : Type} (f : α → List AV) : Option α → AV
  | none => .nilp
  | some x => .rop (f x) 0
@[go_sem] theorem nop_n {α : Type} {f : α → List AV} : nop f none = .nilp := rfl
@[go_sem] theorem nop_s {α : Type} {f : α → List AV} {x : α} : nop f (some x) = .rop (f x) 0 := rfl
def opt2 {α β : Type} (o : Option α) (a : Option β) (k : α → Option β) : Option β := match o with
  | none => a
  | some x => k x
theorem opt2N {α β : Type} {a r : Option β} {k : α → Option β} (h : opt2 none a k = r) : a = r := h
theorem opt2S {α β : Type} {x : α} {a r : Option β} {k : α → Option β} (h : opt2 (some x) a k = r) : k x = r := h
end Go.Proofs.Ytgigfdghecdlgaa.Ab
