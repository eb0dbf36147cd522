/-
  The redexes of a labelled tree, and the node at a position. No program is in sight.
-/
import Derived.Test.YtgigfdghecdlgaaPlLt
namespace Go.Proofs.Ytgigfdghecdlgaa.Ab
set_option linter.unusedVariables false
set_option linter.unusedSimpArgs false
open Go.RowKit

def enumP : List Core → Nat → List (Core × Nat)
  | [], _ => []
  | c :: cs, p => (c, p) :: enumP cs (p + 1)
theorem enumP_app (b : List Core) : ∀ (a : List Core) (p : Nat), enumP (a ++ b) p = enumP a p ++ enumP b (p + a.length)
  | [], p => by simp [enumP]
  | c :: cs, p => by rw [List.cons_append, enumP, enumP, enumP_app b cs, List.cons_append, List.length_cons, show p + 1 + cs.length = p + (cs.length + 1) from by omega]
mutual
theorem all_len : ∀ c : Core, c.all.length = c.nodes
  | ⟨k, v, d, ks⟩ => by rw [Core.all, Core.nodes, List.length_cons, alls_len ks]; omega
theorem alls_len : ∀ l : List Core, (Core.alls l).length = Core.nodess l
  | [] => by simp [Core.alls, Core.nodess]
  | c :: cs => by rw [Core.alls, Core.nodess, List.length_append, all_len c, alls_len cs]
end
def isRed (q : Core × Nat) : Bool := !decide (rk q.1 = 0)
def redl (l : List Core) (p : Nat) : List (Core × Nat) := (enumP l p).filter isRed
theorem redl_app {a b : List Core} {p : Nat} : redl (a ++ b) p = redl a p ++ redl b (p + a.length) := by unfold redl; rw [enumP_app, List.filter_append]
theorem redl_cons {c : Core} {b : List Core} {p : Nat} : redl (c :: b) p = (if rk c = 0 then [] else [(c, p)]) ++ redl b (p + 1) := by
  unfold redl
  rw [enumP, List.filter_cons]
  unfold isRed
  by_cases h : rk c = 0
  · rw [if_pos h]; simp [h]
  · rw [if_neg h]; simp [h]
theorem lns_app (L : List ByteArray) (b : List Core) : ∀ (a : List Core) (p : Nat), Core.lns L (a ++ b) p = Core.lns L a p ++ Core.lns L b (p + Core.nodess a)
  | [], p => by simp [Core.lns, Core.nodess]
  | c :: cs, p => by rw [List.cons_append, Core.lns, Core.lns, lns_app L b cs, Core.nodess, Nat.add_assoc]; rfl
theorem lts_app (L : List ByteArray) (b : List Core) : ∀ (a : List Core) (p : Nat), Core.lts L (a ++ b) p = Core.lts L a p ++ Core.lts L b (p + Core.nodess a)
  | [], p => by simp [Core.lts, Core.nodess]
  | c :: cs, p => by rw [List.cons_append, Core.lts, Core.lts, lts_app L b cs, Core.nodess, Nat.add_assoc]; rfl
def lnP (L : List ByteArray) (q : Core × Nat) : LabelNode := q.1.ln L q.2
theorem iReds_eq (L : List ByteArray) : ∀ (c : Core), c.wf = true → ∀ (n p : Nat) (out : List LabelNode), 4 * c.nodes ≤ n → out.length + c.nodes ≤ Big →
    i_labelNode_redexes n (c.ln L p) out = some (out ++ (redl c.all p).map (lnP L)) := by
  refine Core.ind fun c ih hw n p out hn ho => ?_
  rw [Core.wf_eq, Bool.and_eq_true] at hw
  have hnd := c.nodes_eq
  have hkl := nodess_len c.kids
  have hc : (c.ln L p).core = c := by rw [Core.ln_eq]
  have hk : (c.ln L p).kids = Core.lns L c.kids (p + 1) := by rw [Core.ln_eq]
  have loop : ∀ (post pre : List Core) (n : Nat) (out : List LabelNode), c.kids = pre ++ post → 4 * Core.nodess post + 1 ≤ n → out.length + Core.nodess post ≤ Big →
      i_labelNode_redexes_l3 n (c.ln L p) out ((List.length pre : Nat) : Int) = some (out ++ (redl (Core.alls post) (p + 1 + Core.nodess pre)).map (lnP L)) := by
    intro post
    induction post with
    | nil =>
      intro pre n out h hn ho
      obtain ⟨n, rfl⟩ : ∃ m, n = m + 1 := ⟨n - 1, by omega⟩
      have h' : c.kids = pre := by rw [h, List.append_nil]
      rw [i_labelNode_redexes_l3, hk, lns_len, h', if_neg (by simp)]
      simp [Core.alls, redl, enumP]
    | cons y post ihp =>
      intro pre n out h hn ho
      rw [Core.nodess] at hn ho
      have hy := y.nodes_pos
      obtain ⟨n, rfl⟩ : ∃ m, n = m + 1 := ⟨n - 1, by omega⟩
      have hm : y ∈ c.kids := by rw [h]; simp
      have h2 : Core.lns L c.kids (p + 1) = Core.lns L pre (p + 1) ++ y.ln L (p + 1 + Core.nodess pre) :: Core.lns L post (p + 1 + Core.nodess pre + y.nodes) := by
        rw [h, lns_app, Core.lns]
      have hl : ((List.length pre : Nat) : Int) = ((List.length (Core.lns L pre (p + 1)) : Nat) : Int) := by rw [lns_len]
      have hR : (redl y.all (p + 1 + Core.nodess pre)).length ≤ y.nodes := by
        have h1 : ∀ (l : List Core) (q : Nat), (enumP l q).length = l.length := by
          intro l
          induction l with
          | nil => intro q; rfl
          | cons a l ih => intro q; rw [enumP, List.length_cons, List.length_cons, ih]
        have := List.length_filter_le isRed (enumP y.all (p + 1 + Core.nodess pre))
        rw [h1, all_len] at this
        exact this
      rw [i_labelNode_redexes_l3, hk, hl, if_pos (lt_app h2), at_app h2, bind_some', ih y hm (wfs_mem hm hw.2) n _ out (by omega) (by omega), bind_some', wrap_app h2 (by rw [lns_len]; omega)]
      have := ihp (pre ++ [y]) n (out ++ (redl y.all (p + 1 + Core.nodess pre)).map (lnP L)) (next_app h) (by omega) (by rw [List.length_append, List.length_map]; omega)
      rw [nodess_snoc] at this
      rw [show List.length (Core.lns L pre (p + 1) ++ [y.ln L (p + 1 + Core.nodess pre)]) = List.length (pre ++ [y]) from by simp [lns_len], this, Core.alls, redl_app, all_len, List.map_append, List.append_assoc, Nat.add_assoc (p + 1)]
  obtain ⟨n, rfl⟩ : ∃ m, n = m + 1 := ⟨n - 1, by omega⟩
  obtain ⟨n, rfl⟩ : ∃ m, n = m + 1 := ⟨n - 1, by omega⟩
  rw [i_labelNode_redexes, hc, iRedexKind_eq c hw.1, bind_some', Core.all_eq, redl_cons]
  have l0 := fun o ho' => loop c.kids [] n o rfl (by omega) ho'
  simp only [Core.nodess, Nat.add_zero, List.length_nil, Int.natCast_zero] at l0
  by_cases h : rk c = 0
  · rw [if_neg (by simp [h]), i_labelNode_redexes_j1, l0 out (by omega), if_pos h, List.nil_append]
  · rw [if_pos (by simp [h]), app_ok (by simp; omega), bind_some', i_labelNode_redexes_j1, l0 _ (by simp; omega), if_neg h, List.map_append, List.append_assoc]
    rfl
def fndR (L : List ByteArray) (t : L38T) (p a s : Nat) : Option Core → L38T × Bool × Int
  | some e => (e.lt L (p + a), true, 0)
  | none => (t, false, ((a - s : Nat) : Int))
theorem sFind_eq (L : List ByteArray) : ∀ (c : Core) (n p a : Nat), 4 * c.nodes ≤ n → c.nodes ≤ Big → a ≤ Big → s_l38Find n (c.lt L p) (a : Int) = some (fndR L (c.lt L p) p a c.nodes c.all[a]?) := by
  refine Core.ind fun c ih n p a hn hN ha => ?_
  have hnd := c.nodes_eq
  have hkl := nodess_len c.kids
  have hk : (c.lt L p).kids = Core.lts L c.kids (p + 1) := by rw [Core.lt_eq]
  have loop : ∀ (post pre : List Core) (n a : Nat), c.kids = pre ++ post → 4 * Core.nodess post + 1 ≤ n → a ≤ Big →
      s_l38Find_l1 n (c.lt L p) (a : Int) ((List.length pre : Nat) : Int) = some (fndR L (c.lt L p) (p + 1 + Core.nodess pre) a (Core.nodess post) (Core.alls post)[a]?) := by
    intro post
    induction post with
    | nil =>
      intro pre n a h hn ha
      obtain ⟨n, rfl⟩ : ∃ m, n = m + 1 := ⟨n - 1, by omega⟩
      have h' : c.kids = pre := by rw [h, List.append_nil]
      rw [s_l38Find_l1, hk, lts_len, h', if_neg (by simp)]
      simp [Core.alls, fndR, Core.nodess]
    | cons y post ihp =>
      intro pre n a h hn ha
      rw [Core.nodess] at hn
      have hy := y.nodes_pos
      obtain ⟨n, rfl⟩ : ∃ m, n = m + 1 := ⟨n - 1, by omega⟩
      have hm : y ∈ c.kids := by rw [h]; simp
      have hsum : Core.nodess c.kids = Core.nodess pre + (y.nodes + Core.nodess post) := by rw [h, nodess_app, Core.nodess]
      have h2 : Core.lts L c.kids (p + 1) = Core.lts L pre (p + 1) ++ y.lt L (p + 1 + Core.nodess pre) :: Core.lts L post (p + 1 + Core.nodess pre + y.nodes) := by
        rw [h, lts_app, Core.lts]
      have hl : ((List.length pre : Nat) : Int) = ((List.length (Core.lts L pre (p + 1)) : Nat) : Int) := by rw [lts_len]
      rw [s_l38Find_l1, hk, hl, if_pos (lt_app h2), at_app h2, bind_some', ih y hm n _ a (by omega) (by omega) ha, bind_some', Core.alls]
      by_cases hlt : a < y.nodes
      · have e1 : y.all[a]? = some (y.all[a]'(by rw [all_len]; exact hlt)) := List.getElem?_eq_getElem _
        rw [List.getElem?_append_left (by rw [all_len]; exact hlt), e1]
        simp [fndR]
      · have e1 : y.all[a]? = none := List.getElem?_eq_none (by rw [all_len]; omega)
        rw [List.getElem?_append_right (by rw [all_len]; omega), e1, all_len]
        have := ihp (pre ++ [y]) n (a - y.nodes) (next_app h) (by omega) (by omega)
        rw [nodess_snoc] at this
        simp only [fndR, Bool.false_eq_true, reduceIte]
        rw [wrap_app h2 (by rw [lts_len]; omega), show List.length (Core.lts L pre (p + 1) ++ [y.lt L (p + 1 + Core.nodess pre)]) = List.length (pre ++ [y]) from by simp [lts_len], this]
        cases (Core.alls post)[a - y.nodes]? with
        | none => simp only [fndR]; rw [Core.nodess]; congr 4; omega
        | some e => simp only [fndR]; rw [show p + 1 + (Core.nodess pre + y.nodes) + (a - y.nodes) = p + 1 + Core.nodess pre + a from by omega]
  obtain ⟨n, rfl⟩ : ∃ m, n = m + 1 := ⟨n - 1, by omega⟩
  rw [s_l38Find, Core.all_eq]
  rcases Nat.eq_zero_or_pos a with rfl | h0
  · rw [if_pos (by simp)]; simp [fndR]
  · obtain ⟨a, rfl⟩ : ∃ b, a = b + 1 := ⟨a - 1, by omega⟩
    rw [if_neg (by simp; omega), w64 (by omega) (by unfold Big at ha; omega), show (((a + 1 : Nat) : Int) - 1) = (a : Int) from by omega]
    have := loop c.kids [] n a rfl (by omega) (by omega)
    simp only [Core.nodess, Nat.add_zero, List.length_nil, Int.natCast_zero] at this
    rw [this, List.getElem?_cons_succ]
    cases (Core.alls c.kids)[a]? with
    | none => simp only [fndR]; congr 4; omega
    | some e => simp only [fndR]; rw [show p + 1 + a = p + (a + 1) from by omega]
end Go.Proofs.Ytgigfdghecdlgaa.Ab
