/-
  Erasure of core terms: both sides, by one plain function. No program is in sight.
-/
import Derived.Test.YtffokcfdkkikmaaPlWf
import Derived.Test.YtffokcfdkkikmaaPlLeft
namespace Go.Proofs.Ytffokcfdkkikmaa.Ab
set_option linter.unusedVariables false
set_option linter.unusedSimpArgs false
open Go.RowKit

def Core.fit (c : Core) : Bool := decide (c.depth ≤ 80 ∧ c.nodes ≤ 400)
def fitO (c : Core) : Option Core := if c.fit = true then some c else none
/-- What an erased node becomes, of its erased kids. -/
def erN (k v : Int) (d : List Int) (l : List Core) : Core := if k = 6 then l.headD noCore else if k = 7 then (l.getD 1 noCore).mv (putF (l.headD noCore)) 0 else ⟨k, v, d, l⟩
mutual
def Core.er : Core → Option Core
  | ⟨k, v, d, ks⟩ => (Core.ers ks).bind fun l => fitO (erN k v d l)
def Core.ers : List Core → Option (List Core)
  | [] => some []
  | c :: cs => (Core.er c).bind fun e => (Core.ers cs).bind fun l => some (e :: l)
end
theorem Core.er_eq (c : Core) : c.er = (Core.ers c.kids).bind fun l => fitO (erN c.kind c.value c.data l) := by cases c; rw [Core.er]
theorem ers_append {x : Core} {post : List Core} : ∀ {pre : List Core} {acc : List Core}, Core.ers pre = some acc → Core.ers (pre ++ x :: post) = x.er.bind fun e => (Core.ers post).bind fun l => some (acc ++ e :: l)
  | [], acc, h => by rw [Core.ers] at h; cases h; rw [List.nil_append, Core.ers]; rfl
  | c :: cs, acc, h => by
    rw [Core.ers] at h
    cases hc : c.er with
    | none => rw [hc] at h; cases h
    | some e =>
      cases hcs : Core.ers cs with
      | none => rw [hc, hcs] at h; cases h
      | some l =>
        rw [hc, hcs] at h
        cases h
        rw [List.cons_append, Core.ers, hc, ers_append hcs]
        cases x.er with
        | none => rfl
        | some e2 => cases Core.ers post <;> rfl
theorem ers_snoc {x e : Core} {pre acc : List Core} (h : Core.ers pre = some acc) (hx : x.er = some e) : Core.ers (pre ++ [x]) = some (acc ++ [e]) := by
  rw [ers_append h, hx, Core.ers]; rfl
theorem two_kids {c : Core} (h : nodeOk c = true) (h1 : c.kind = 7) : c.kids.length = 2 := by
  unfold nodeOk shape at h
  rw [h1] at h
  simp at h
  omega
theorem one_kid {c : Core} (h : nodeOk c = true) (h1 : c.kind = 6) : c.kids.length = 1 := by
  unfold nodeOk shape at h
  rw [h1] at h
  simp at h
  omega
/-- A term as it is while it is erased, with A variables around it. -/
structure Good (A : Nat) (e : Core) : Prop where
  wf : e.wf = true
  below : e.above A = false
  fit : e.fit = true
theorem Good.parts {A : Nat} {e : Core} (h : Good A e) : e.depth ≤ 80 ∧ e.nodes ≤ 400 := by have := h.fit; unfold Core.fit at this; simpa using this
theorem Good.small {A : Nat} {e : Core} (h : Good A e) : e.Small := small_of_wf e h.wf (by have := h.parts; unfold Big; omega)
theorem ers_good (k : Int) : ∀ (l l' : List Core) (i A : Nat), (∀ x ∈ l, x.wf = true → ∀ A, A + x.depth ≤ 81 → x.above A = false → ∀ e, x.er = some e → Good A e) → Core.wfs l = true → Core.aboves k l i A = false → A + Core.depths l ≤ 80 → Core.ers l = some l' →
    l'.length = l.length ∧ Core.wfs l' = true ∧ Core.aboves k l' i A = false ∧ Core.nodess l' ≤ 400 * l.length ∧ ∀ x ∈ l', x.wf = true ∧ x.fit = true
  | [], l', i, A, _, _, _, _, h => by rw [Core.ers] at h; cases h; exact ⟨rfl, by rw [Core.wfs], by rw [Core.aboves], by rw [Core.nodess]; omega, fun x hx => by cases hx⟩
  | c :: cs, l', i, A, ih, hw, ha, hd, h => by
    rw [Core.wfs, Bool.and_eq_true] at hw
    rw [Core.aboves, Bool.or_eq_false_iff] at ha
    rw [Core.depths] at hd
    rw [Core.ers] at h
    have hb := bnd_le k i
    cases hc : c.er with
    | none => rw [hc] at h; cases h
    | some e =>
      cases hcs : Core.ers cs with
      | none => rw [hc, hcs] at h; cases h
      | some l =>
        rw [hc, hcs] at h
        cases h
        have g := ih c (by simp) hw.1 (A + bnd k i) (by omega) ha.1 e hc
        obtain ⟨h1, h2, h3, h4, h5⟩ := ers_good k cs l (i + 1) A (fun x hx => ih x (by simp [hx])) hw.2 ha.2 (by omega) hcs
        have := g.parts
        refine ⟨by simp [h1], by rw [Core.wfs, g.wf, h2]; rfl, by rw [Core.aboves, g.below, h3]; rfl, by rw [Core.nodess, List.length_cons]; omega, fun x hx => ?_⟩
        rcases List.mem_cons.1 hx with rfl | hx
        · exact ⟨g.wf, g.fit⟩
        · exact h5 x hx
/-- What is known of the erased kids of a node. -/
theorem node_good (c : Core) (hw : c.wf = true) (A : Nat) (hA : A + c.depth ≤ 81) (ha : c.above A = false) (l : List Core) (hlen : l.length = c.kids.length) (hwl : Core.wfs l = true) (hal : c.kind ≠ 1 → Core.aboves c.kind l 0 A = false) (hfit : ∀ x ∈ l, x.wf = true ∧ x.fit = true) :
    (erN c.kind c.value c.data l).wf = true ∧ (erN c.kind c.value c.data l).above A = false := by
  obtain ⟨hno, hwk⟩ := nodeOk_of hw
  unfold erN
  by_cases h6 : c.kind = 6
  · rw [if_pos h6]
    have h1 := one_kid hno h6
    match l, hlen with
    | [e], _ =>
      have := hal (by omega)
      rw [Core.aboves, Core.aboves, Bool.or_false, h6] at this
      exact ⟨(hfit e (by simp)).1, this⟩
    | [], hlen => simp at hlen; omega
    | _ :: _ :: _, hlen => simp at hlen; omega
  rw [if_neg h6]
  by_cases h7 : c.kind = 7
  · rw [if_pos h7]
    have h1 := two_kids hno h7
    match l, hlen with
    | [t, u], _ =>
      have := hal (by omega)
      rw [h7, Core.aboves, Core.aboves, Core.aboves, Bool.or_false, Bool.or_eq_false_iff] at this
      have ht : t.above A = false := this.1
      have hu : u.above (A + 1) = false := this.2
      obtain ⟨w1, f1⟩ := hfit t (by simp)
      obtain ⟨w2, f2⟩ := hfit u (by simp)
      unfold Core.fit at f1 f2
      simp at f1 f2
      exact ⟨put_wf A t w1 ht (by omega) u 0 w2 (by rw [Nat.add_zero]; exact hu) (by omega), put_above A t ht u 0 (by rw [Nat.add_zero]; exact hu)⟩
    | [], hlen => simp at hlen; omega
    | [_], hlen => simp at hlen; omega
    | _ :: _ :: _ :: _, hlen => simp at hlen; omega
  rw [if_neg h7]
  constructor
  · rw [Core.wf, nodeOk_len hlen, hwl]
    have : nodeOk ⟨c.kind, c.value, c.data, c.kids⟩ = true := hno
    rw [this]; rfl
  · rw [Core.above]
    by_cases h1 : c.kind = 1
    · rw [Core.above_eq, if_pos h1] at ha
      rw [if_pos h1]; exact ha
    · rw [if_neg h1]; exact hal h1
theorem er_good : ∀ (c : Core), c.wf = true → ∀ A, A + c.depth ≤ 81 → c.above A = false → ∀ e, c.er = some e → Good A e := by
  refine Core.ind fun c ih hw A hA ha e he => ?_
  obtain ⟨hno, hwk⟩ := nodeOk_of hw
  rw [Core.er_eq] at he
  cases hl : Core.ers c.kids with
  | none => rw [hl] at he; cases he
  | some l =>
    rw [hl] at he
    replace he : fitO (erN c.kind c.value c.data l) = some e := he
    unfold fitO at he
    split at he
    · rename_i hf
      cases he
      rw [Core.depth_eq] at hA
      have hab : c.kind ≠ 1 → Core.aboves c.kind c.kids 0 A = false := fun h1 => by rw [Core.above_eq, if_neg h1] at ha; exact ha
      by_cases h1 : c.kind = 1
      · have hk := var_kids hno h1
        rw [hk, Core.ers] at hl
        cases hl
        obtain ⟨g1, g2⟩ := node_good c hw A (by rw [Core.depth_eq]; omega) ha [] (by rw [hk]) (by rw [Core.wfs]) (fun h => absurd h1 h) (fun x hx => by cases hx)
        exact ⟨g1, g2, hf⟩
      · obtain ⟨k1, k2, k3, k4, k5⟩ := ers_good c.kind c.kids l 0 A (fun x hx hwx => ih x hx hwx) hwk (hab h1) (by omega) hl
        obtain ⟨g1, g2⟩ := node_good c hw A (by rw [Core.depth_eq]; omega) ha l k1 k2 (fun _ => k3) k5
        exact ⟨g1, g2, hf⟩
    · cases he
/-- What the kids of a node come to. -/
theorem kids_good (c : Core) (hw : c.wf = true) (A : Nat) (hA : A + c.depth ≤ 81) (ha : c.above A = false) {l : List Core} (hl : Core.ers c.kids = some l) : l.length = c.kids.length ∧ Core.nodess l ≤ 400 * c.kids.length ∧ (∀ x ∈ l, x.wf = true ∧ x.fit = true) ∧ (erN c.kind c.value c.data l).wf = true := by
  obtain ⟨hno, hwk⟩ := nodeOk_of hw
  by_cases h1 : c.kind = 1
  · have hk := var_kids hno h1
    have hl' := hl
    rw [hk, Core.ers] at hl'
    cases hl'
    have := node_good c hw A hA ha [] (by rw [hk]) (by rw [Core.wfs]) (fun h => absurd h1 h) (fun x hx => by cases hx)
    exact ⟨by rw [hk], by rw [Core.nodess]; omega, (fun x hx => by cases hx), this.1⟩
  · have hab : Core.aboves c.kind c.kids 0 A = false := by rw [Core.above_eq, if_neg h1] at ha; exact ha
    have hA' := hA
    rw [Core.depth_eq] at hA'
    obtain ⟨k1, k2, k3, k4, k5⟩ := ers_good c.kind c.kids l 0 A (fun x hx hwx => er_good x hwx) hwk hab (by omega) hl
    exact ⟨k1, k4, k5, (node_good c hw A hA ha l k1 k2 (fun _ => k3) k5).1⟩
theorem coreFits_fit (c : Core) (hs : c.Small) (hN : c.nodes ≤ Big) : i_coreFits c = some c.fit := coreFits_eq c hs hN
theorem l08Fits_eq (c : Core) (hs : c.Small) (hN : c.nodes ≤ Big) : s_l08Fits c = some c.fit := by
  unfold s_l08Fits
  have e := l08Left_eq c hs 400 fuel (by unfold Big; omega) (fuel_nodes hN)
  rw [show ((400 : Nat) : Int) = 400 from rfl] at e
  rw [e, bind_some', l06Depth_eq c hs hN fuel (fuel_nodes hN)]
  unfold Core.fit szr
  by_cases h : c.nodes ≤ 400
  · rw [if_pos h, if_pos (by simp), bind_some']
    congr 1
    simp [h]
    omega
  · rw [if_neg h, if_neg (by simp)]
    congr 1
    simp [h]
/-- The end of a node's erasure, on both sides. -/
theorem tail_eq (c : Core) (hs : c.Small) (hw : c.wf = true) (hN : c.nodes ≤ 400) (A : Nat) (hA : A + c.depth ≤ 81) (ha : c.above A = false) {l : List Core} (hl : Core.ers c.kids = some l) :
    ((if (decide (c.kind = 6)) = true then (Option.bind (at? l 0) fun v => (i_erase_j3 v.kind v.value v.data v.kids)) else (if (decide (c.kind = 7)) = true then (Option.bind (at? l 1) fun v => (Option.bind (at? l 0) fun u => (Option.bind (i_instantiate v u) fun w => (i_erase_j3 w.kind w.value w.data w.kids)))) else (i_erase_j3 c.kind c.value c.data l))) = some (erN c.kind c.value c.data l, (erN c.kind c.value c.data l).fit)) ∧
    ((if (decide (c.kind = 6)) = true then (Option.bind (at? l 0) fun v => (some (v, (0 : Int)))) else (if (decide (c.kind = 7)) = true then (Option.bind (at? l 1) fun v => (Option.bind (at? l 0) fun u => (Option.bind (s_l06Instance v u) fun w => (some (w.1, w.2))))) else (Option.bind (s_l08Fits (⟨c.kind, c.value, c.data, l⟩ : Core)) fun b => (if (!b) = true then (some ((⟨0, 0, [], []⟩ : Core), 4)) else (some ((⟨c.kind, c.value, c.data, l⟩ : Core), 0)))))) = some (if (erN c.kind c.value c.data l).fit = true then (erN c.kind c.value c.data l, 0) else (noCore, 4))) := by
  obtain ⟨hno, hwk⟩ := nodeOk_of hw
  obtain ⟨k1, k2, k3, k4⟩ := kids_good c hw A hA ha hl
  have j3 : ∀ e : Core, e.Small → e.nodes ≤ Big → i_erase_j3 e.kind e.value e.data e.kids = some (e, e.fit) := fun e h1 h2 => by
    unfold i_erase_j3
    rw [show (⟨e.kind, e.value, e.data, e.kids⟩ : Core) = e from by cases e; rfl, coreFits_fit e h1 h2]; rfl
  have hkl : c.kids.length ≤ 400 := by have := len_nodess c.kids; rw [Core.nodes_eq] at hN; omega
  by_cases h6 : c.kind = 6
  · have h1 := one_kid hno h6
    match l, k1, k3 with
    | [e], _, k3 =>
      obtain ⟨w, f⟩ := k3 e (by simp)
      have f' := f
      unfold Core.fit at f'
      simp at f'
      have hsm := small_of_wf e w (by unfold Big; omega)
      have hE : erN c.kind c.value c.data [e] = e := by unfold erN; rw [if_pos h6]; rfl
      rw [hE, if_pos f]
      simp only [h6, decide_true, reduceIte]
      exact ⟨j3 e hsm (by unfold Big; omega), rfl⟩
    | [], k1, _ => simp at k1; omega
    | _ :: _ :: _, k1, _ => simp at k1; omega
  simp only [h6, decide_false, Bool.false_eq_true, reduceIte]
  by_cases h7 : c.kind = 7
  · have h1 := two_kids hno h7
    match l, k1, k3, k4 with
    | [t, u], _, k3, k4 =>
      obtain ⟨w1, f1⟩ := k3 t (by simp)
      obtain ⟨w2, f2⟩ := k3 u (by simp)
      unfold Core.fit at f1 f2
      simp at f1 f2
      have s1 := small_of_wf t w1 (by unfold Big; omega)
      have s2 := small_of_wf u w2 (by unfold Big; omega)
      have hE : erN c.kind c.value c.data [t, u] = u.mv (putF t) 0 := by unfold erN; rw [if_neg h6, if_pos h7]; rfl
      rw [hE] at k4 ⊢
      have ho := Core.occ_le u 0
      have hpn := put_nodes t w1 u 0 w2
      have hmul : u.occ 0 * t.nodes ≤ 160000 := Nat.le_trans (Nat.mul_le_mul (show u.occ 0 ≤ 400 by omega) f1.2) (by decide)
      have hpN : (u.mv (putF t) 0).nodes ≤ Big := by unfold Big; omega
      simp only [h7, decide_true, reduceIte]
      constructor
      · show Option.bind (some u) _ = _
        rw [bind_some']
        show Option.bind (some t) _ = _
        rw [bind_some', i_instantiate_eq u t s2 w2 (by unfold Big; omega) s1 w1 (by unfold Big; omega), bind_some', j3 _ (put_small s1 s2 0) hpN]
      · show Option.bind (some u) _ = _
        rw [bind_some']
        show Option.bind (some t) _ = _
        rw [bind_some', l06Instance_eq u t s2 s1 w2 w1 f2.1 f2.2 f1.1 f1.2, bind_some', not_great _ k4]
        unfold Core.fit
        by_cases hf : (u.mv (putF t) 0).depth ≤ 80 ∧ (u.mv (putF t) 0).nodes ≤ 400
        · simp only [hf, and_self, decide_true, reduceIte, Bool.false_eq_true]
        · simp only [hf, decide_false, reduceIte, Bool.false_eq_true]
    | [], k1, _, _ => simp at k1; omega
    | [_], k1, _, _ => simp at k1; omega
    | _ :: _ :: _ :: _, k1, _, _ => simp at k1; omega
  simp only [h7, decide_false, Bool.false_eq_true, reduceIte]
  have hE : erN c.kind c.value c.data l = ⟨c.kind, c.value, c.data, l⟩ := by unfold erN; rw [if_neg h6, if_neg h7]
  rw [hE] at k4 ⊢
  have hn : (⟨c.kind, c.value, c.data, l⟩ : Core).nodes ≤ Big := by rw [Core.nodes]; unfold Big; omega
  have hsm := small_of_wf _ k4 hn
  refine ⟨j3 ⟨c.kind, c.value, c.data, l⟩ hsm hn, ?_⟩
  rw [l08Fits_eq _ hsm hn, bind_some']
  cases (⟨c.kind, c.value, c.data, l⟩ : Core).fit <;> rfl
theorem iErase_eq : ∀ (c : Core), c.Small → c.wf = true → c.nodes ≤ 400 → ∀ (A n : Nat), A + c.depth ≤ 81 → c.above A = false → 16 * c.nodes ≤ n → ∃ x b, i_erase n c = some (x, b) ∧ (match c.er with | some e => x = e ∧ b = true | none => b = false) := by
  refine Core.ind fun c ih hs hw hN A n hA ha hn => ?_
  have hs' := hs
  obtain ⟨_, hdl, hk, hf⟩ := hs'
  obtain ⟨hno, hwk⟩ := nodeOk_of hw
  have hN' := hN
  rw [Core.nodes_eq] at hn hN'
  have hA' := hA
  rw [Core.depth_eq] at hA'
  obtain ⟨n, rfl⟩ : ∃ m, n = m + 1 := ⟨n - 1, by omega⟩
  rw [i_erase, cloneInt_eq _ hdl, bind_some']
  have loop : ∀ (post pre acc : List Core) (n i : Nat), c.kids = pre ++ post → pre.length = i → Core.ers pre = some acc → acc.length = pre.length → 16 * Core.nodess post + 1 ≤ n → (post = [] ∨ Core.aboves c.kind post i A = false) →
      ∃ x b, i_erase_l2 n c c.data acc ((List.length pre : Nat) : Int) = some (x, b) ∧ (match c.er with | some e => x = e ∧ b = true | none => b = false) := by
    intro post
    induction post with
    | nil =>
      intro pre acc n i h hi hacc hal hn _
      obtain ⟨n, rfl⟩ : ∃ m, n = m + 1 := ⟨n - 1, by omega⟩
      have hk0 : c.kids = pre := by rw [h, List.append_nil]
      rw [i_erase_l2, ge_app h, if_neg (by simp)]
      rw [← hk0] at hacc
      refine ⟨_, _, (tail_eq c hs hw hN A hA ha hacc).1, ?_⟩
      rw [Core.er_eq, hacc]
      show (match fitO (erN c.kind c.value c.data acc) with | some e => _ | none => _)
      unfold fitO
      cases hfit : (erN c.kind c.value c.data acc).fit with
      | true => rw [if_pos rfl]; exact ⟨rfl, rfl⟩
      | false => rw [if_neg (by simp)]
    | cons x post ihp =>
      intro pre acc n i h hi hacc hal hn hab
      replace hab := hab.resolve_left (by simp)
      rw [Core.aboves, Bool.or_eq_false_iff] at hab
      rw [Core.nodess] at hn
      have := x.nodes_pos
      obtain ⟨n, rfl⟩ : ∃ m, n = m + 1 := ⟨n - 1, by omega⟩
      have hx : x ∈ c.kids := by rw [h]; simp
      have hxd := kid_depth hx
      have hxn := nodess_mem hx
      have hb := bnd_le c.kind i
      have hpl : pre.length + 1 ≤ c.kids.length := by rw [h]; simp
      obtain ⟨y, b, h1, h2⟩ := ih x hx (hf x hx) (wfs_mem hx hwk) (by omega) (A + bnd c.kind i) n (by omega) hab.1 (by omega)
      rw [i_erase_l2, if_pos (lt_app h), at_app h, bind_some', h1, bind_some']
      cases hxe : x.er with
      | none =>
        rw [hxe] at h2
        subst h2
        refine ⟨⟨0, 0, [], []⟩, false, rfl, ?_⟩
        rw [Core.er_eq, h, ers_append hacc, hxe]; rfl
      | some e =>
        rw [hxe] at h2
        obtain ⟨rfl, rfl⟩ := h2
        rw [if_neg (by simp), app_ok (by simp; omega), bind_some', wrap_app h hk]
        exact ihp (pre ++ [x]) (acc ++ [y]) n (i + 1) (next_app h) (by simp [hi]) (ers_snoc hacc hxe) (by simp [hal]) (by omega) (.inr hab.2)
  refine loop c.kids [] [] n 0 (by simp) rfl (by rw [Core.ers]) rfl (by omega) ?_
  by_cases h1 : c.kind = 1
  · exact .inl (var_kids hno h1)
  · rw [Core.above_eq, if_neg h1] at ha; exact .inr ha
theorem sErase_eq : ∀ (c : Core), c.Small → c.wf = true → c.nodes ≤ 400 → ∀ (A n : Nat), A + c.depth ≤ 81 → c.above A = false → 16 * c.nodes ≤ n → s_l08Erase n c = some (match c.er with | some e => (e, 0) | none => (noCore, 4)) := by
  refine Core.ind fun c ih hs hw hN A n hA ha hn => ?_
  have hs' := hs
  obtain ⟨_, hdl, hk, hf⟩ := hs'
  obtain ⟨hno, hwk⟩ := nodeOk_of hw
  have hN' := hN
  rw [Core.nodes_eq] at hn hN'
  have hA' := hA
  rw [Core.depth_eq] at hA'
  obtain ⟨n, rfl⟩ : ∃ m, n = m + 1 := ⟨n - 1, by omega⟩
  rw [s_l08Erase, own_eq _ hdl, bind_some']
  have loop : ∀ (post pre acc : List Core) (n i : Nat), c.kids = pre ++ post → pre.length = i → Core.ers pre = some acc → acc.length = pre.length → 16 * Core.nodess post + 1 ≤ n → (post = [] ∨ Core.aboves c.kind post i A = false) →
      s_l08Erase_l2 n c c.data acc ((List.length pre : Nat) : Int) = some (match c.er with | some e => (e, 0) | none => (noCore, 4)) := by
    intro post
    induction post with
    | nil =>
      intro pre acc n i h hi hacc hal hn _
      obtain ⟨n, rfl⟩ : ∃ m, n = m + 1 := ⟨n - 1, by omega⟩
      have hk0 : c.kids = pre := by rw [h, List.append_nil]
      rw [s_l08Erase_l2, ge_app h, if_neg (by simp)]
      rw [← hk0] at hacc
      rw [(tail_eq c hs hw hN A hA ha hacc).2, Core.er_eq, hacc]
      show _ = some (match fitO (erN c.kind c.value c.data acc) with | some e => _ | none => _)
      unfold fitO
      cases hfit : (erN c.kind c.value c.data acc).fit <;> rfl
    | cons x post ihp =>
      intro pre acc n i h hi hacc hal hn hab
      replace hab := hab.resolve_left (by simp)
      rw [Core.aboves, Bool.or_eq_false_iff] at hab
      rw [Core.nodess] at hn
      have := x.nodes_pos
      obtain ⟨n, rfl⟩ : ∃ m, n = m + 1 := ⟨n - 1, by omega⟩
      have hx : x ∈ c.kids := by rw [h]; simp
      have hxd := kid_depth hx
      have hxn := nodess_mem hx
      have hb := bnd_le c.kind i
      have hpl : pre.length + 1 ≤ c.kids.length := by rw [h]; simp
      have h1 := ih x hx (hf x hx) (wfs_mem hx hwk) (by omega) (A + bnd c.kind i) n (by omega) hab.1 (by omega)
      rw [s_l08Erase_l2, if_pos (lt_app h), at_app h, bind_some', h1, bind_some']
      cases hxe : x.er with
      | none =>
        rw [Core.er_eq, h, ers_append hacc, hxe]; rfl
      | some e =>
        simp only [decide_true, Bool.not_true, Bool.false_eq_true, reduceIte]
        rw [app_ok (by simp; omega), bind_some', ← hal]
        rw [show at? (acc ++ [(⟨0, 0, [], []⟩ : Core)]) ((List.length acc : Nat) : Int) = some ⟨0, 0, [], []⟩ from at_app rfl, bind_some']
        rw [show set1? (acc ++ [(⟨0, 0, [], []⟩ : Core)]) ((List.length acc : Nat) : Int) e = some (acc ++ [e]) from by unfold set1? set?; simp, bind_some', hal, wrap_app h hk]
        exact ihp (pre ++ [x]) (acc ++ [e]) n (i + 1) (next_app h) (by simp [hi]) (ers_snoc hacc hxe) (by simp [hal]) (by omega) (.inr hab.2)
  refine loop c.kids [] [] n 0 (by simp) rfl (by rw [Core.ers]) rfl (by omega) ?_
  by_cases h1 : c.kind = 1
  · exact .inl (var_kids hno h1)
  · rw [Core.above_eq, if_neg h1] at ha; exact .inr ha
theorem closed_parts {c : Core} (h : c.closed = true) : c.valid = true ∧ c.above 0 = false := by
  unfold Core.closed at h
  simp at h
  exact h
theorem data_le {c : Core} (h : nodeOk c = true) : c.data.length ≤ 4 := by
  unfold nodeOk at h
  simp only [Bool.and_eq_true] at h
  exact nodeOk_data h.1.1.2
theorem szs_wf {l : List Core} (h : ∀ x ∈ l, x.sz ≤ 5 * x.nodes) : Core.szs l ≤ 6 * Core.nodess l := by
  induction l with
  | nil => simp [Core.szs]
  | cons c cs ih =>
    rw [Core.szs, Core.nodess]
    have := h c (by simp)
    have := c.nodes_pos
    have := ih fun x hx => h x (by simp [hx])
    omega
theorem sz_wf : ∀ (c : Core), c.wf = true → c.sz + 1 ≤ 5 * c.nodes := by
  refine Core.ind fun c ih hw => ?_
  obtain ⟨hno, hwk⟩ := nodeOk_of hw
  rw [Core.sz_eq, Core.nodes_eq]
  have hd := data_le hno
  have key : ∀ l : List Core, (∀ x ∈ l, x.sz + 1 ≤ 5 * x.nodes) → Core.szs l ≤ 5 * Core.nodess l := by
    intro l
    induction l with
    | nil => intro _; simp [Core.szs]
    | cons x xs ihl =>
      intro h
      rw [Core.szs, Core.nodess]
      have := h x (by simp)
      have := ihl fun y hy => h y (by simp [hy])
      omega
  have := key c.kids fun x hx => ih x hx (wfs_mem hx hwk)
  omega
theorem EraseCore_two (c : Core) (hs : c.Small) (hN : c.nodes ≤ Big) : ∃ r, s_EraseCore c = some r ∧ i_EraseCore c = some r ∧ r.1.sz ≤ 2000 ∧ (c.closed = true → s_l08Erase fuel c = some r) := by
  unfold s_EraseCore i_EraseCore
  rw [l06Closed_eq c hs hN, IsClosed_eq c hs hN, bind_some', bind_some']
  cases hc : c.closed with
  | false => exact ⟨(noCore, 1), by simp [noCore], by simp [noCore], by rw [noCore_sz]; omega, fun h => by cases h⟩
  | true =>
    obtain ⟨hv, hab⟩ := closed_parts hc
    obtain ⟨hw, hd, hn⟩ := valid_parts hv
    rw [if_neg (by simp), if_neg (by simp)]
    have e1 := sErase_eq c hs hw hn 0 fuel (by omega) hab (fuel_nodes hN)
    obtain ⟨x, b, e2, e3⟩ := iErase_eq c hs hw hn 0 fuel (by omega) hab (fuel_nodes hN)
    refine ⟨_, by rw [e1, bind_some'], ?_, ?_, fun _ => e1⟩
    · rw [e2, bind_some']
      cases he : c.er with
      | none => rw [he] at e3; subst e3; rfl
      | some e => rw [he] at e3; obtain ⟨rfl, rfl⟩ := e3; rfl
    · cases he : c.er with
      | none => show noCore.sz ≤ 2000; rw [noCore_sz]; omega
      | some e =>
        have g := er_good c hw 0 (by omega) hab e he
        have := g.parts
        have := sz_wf e g.wf
        show e.sz ≤ 2000
        omega
theorem EraseCore_same (c : Core) (hc : c.sz ≤ 1048576) : ∃ r, s_EraseCore c = some r ∧ i_EraseCore c = some r ∧ r.1.sz ≤ Big := by
  obtain ⟨r, h1, h2, h3, -⟩ := EraseCore_two c (Core.small_of c (by unfold Big; omega)) (by have := Core.nodes_le c; unfold Big; omega)
  exact ⟨r, h1, h2, by unfold Big; omega⟩
end Go.Proofs.Ytffokcfdkkikmaa.Ab
