/-
  The name of the redex at a position: both sides answer alike. No program is in sight.
-/
import Derived.Test.YtgigfdghecdlgaaPlLu
namespace Go.Proofs.Ytgigfdghecdlgaa.Ab
set_option linter.unusedVariables false
set_option linter.unusedSimpArgs false
open Go.RowKit

mutual
theorem all_wf : ∀ (c : Core), c.wf = true → ∀ e ∈ c.all, e.wf = true
  | ⟨k, v, d, ks⟩, h, e, he => by
    rw [Core.all] at he
    rcases List.mem_cons.1 he with rfl | he
    · exact h
    · rw [Core.wf, Bool.and_eq_true] at h
      exact alls_wf ks h.2 e he
theorem alls_wf : ∀ (l : List Core), Core.wfs l = true → ∀ e ∈ Core.alls l, e.wf = true
  | [], h, e, he => by simp [Core.alls] at he
  | c :: cs, h, e, he => by
    rw [Core.wfs, Bool.and_eq_true] at h
    rw [Core.alls] at he
    rcases List.mem_append.1 he with he | he
    · exact all_wf c h.1 e he
    · exact alls_wf cs h.2 e he
end
mutual
theorem all_nodes : ∀ (c : Core), ∀ e ∈ c.all, e.nodes ≤ c.nodes
  | ⟨k, v, d, ks⟩, e, he => by
    rw [Core.all] at he
    rcases List.mem_cons.1 he with rfl | he
    · exact Nat.le_refl _
    · have := alls_nodes ks e he
      rw [Core.nodes]; omega
theorem alls_nodes : ∀ (l : List Core), ∀ e ∈ Core.alls l, e.nodes ≤ Core.nodess l
  | [], e, he => by simp [Core.alls] at he
  | c :: cs, e, he => by
    rw [Core.alls] at he
    rw [Core.nodess]
    rcases List.mem_append.1 he with he | he
    · have := all_nodes c e he; omega
    · have := alls_nodes cs e he; omega
end
theorem wf_node {c : Core} (h : c.wf = true) : nodeOk c = true := by
  rw [Core.wf_eq, Bool.and_eq_true] at h; exact h.1
/-! ### The kind, from the heads of the kids -/
def hd (x : Core) : Core := ⟨x.kind, x.value, [], []⟩
theorem kidC_hd {l : List Core} {i : Nat} : kidC (l.map hd) i = hd (kidC l i) := by
  unfold kidC
  rw [List.getD_eq_getElem?_getD, List.getD_eq_getElem?_getD, List.getElem?_map]
  cases l[i]? <;> rfl
theorem rk_hd (c : Core) : rk ⟨c.kind, c.value, c.data, c.kids.map hd⟩ = rk c := by
  unfold rk
  simp only [kidC_hd, hd]
theorem nodeOk_hd (c : Core) : nodeOk ⟨c.kind, c.value, c.data, c.kids.map hd⟩ = nodeOk c := by
  unfold nodeOk valOk
  simp only [List.length_map]
theorem sKind38_eq (L : List ByteArray) (c : Core) (p : Nat) (hno : nodeOk c = true) (hN : c.kids.length ≤ Big) : s_l38Kind (c.lt L p) = some (rk c) := by
  have hk : (c.lt L p).kids = Core.lts L c.kids (p + 1) := by rw [Core.lt_eq]
  have loop : ∀ (post pre : List Core) (n : Nat), c.kids = pre ++ post → post.length + 1 ≤ n → s_l38Kind_l2 n (c.lt L p) (pre.map hd) ((List.length pre : Nat) : Int) = some (rk c) := by
    intro post
    induction post with
    | nil =>
      intro pre n h hn
      obtain ⟨n, rfl⟩ : ∃ m, n = m + 1 := ⟨n - 1, by omega⟩
      have h' : c.kids = pre := by rw [h, List.append_nil]
      rw [s_l38Kind_l2, hk, lts_len, h', if_neg (by simp), ← h', Core.lt_eq]
      simp only
      rw [sKind_eq _ (by rw [nodeOk_hd]; exact hno), bind_some', rk_hd]
    | cons y post ihp =>
      intro pre n h hn
      rw [List.length_cons] at hn
      obtain ⟨n, rfl⟩ : ∃ m, n = m + 1 := ⟨n - 1, by omega⟩
      have hpl : pre.length < c.kids.length := by rw [h]; simp
      have h2 : Core.lts L c.kids (p + 1) = Core.lts L pre (p + 1) ++ y.lt L (p + 1 + Core.nodess pre) :: Core.lts L post (p + 1 + Core.nodess pre + y.nodes) := by
        rw [h, lts_app, Core.lts]
      have hl : ((List.length pre : Nat) : Int) = ((List.length (Core.lts L pre (p + 1)) : Nat) : Int) := by rw [lts_len]
      have hs : set1? (pre.map hd ++ [(⟨0, 0, [], []⟩ : Core)]) ((List.length (pre.map hd) : Nat) : Int) (hd y) = some ((pre ++ [y]).map hd) := by
        have := set1_app (pre := pre.map hd) (x := hd y) (z := (⟨0, 0, [], []⟩ : Core)) (k := 0)
        simpa using this
      have hy : (y.lt L (p + 1 + Core.nodess pre)).kind = y.kind ∧ (y.lt L (p + 1 + Core.nodess pre)).value = y.value := by rw [Core.lt_eq]; exact ⟨rfl, rfl⟩
      rw [s_l38Kind_l2, hk, hl, if_pos (lt_app h2), at_app h2, bind_some', bind_some', app_ok (by simp; unfold Big at *; omega), bind_some', at_app (l := pre.map hd ++ [(⟨0, 0, [], []⟩ : Core)]) (post := []) rfl, bind_some', hy.1, hy.2]
      rw [show (⟨y.kind, y.value, [], []⟩ : Core) = hd y from rfl, hs, bind_some', wrap_app h2 (by rw [lts_len]; omega), show List.length (Core.lts L pre (p + 1) ++ [y.lt L (p + 1 + Core.nodess pre)]) = List.length (pre ++ [y]) from by simp [lts_len]]
      exact ihp (pre ++ [y]) n (next_app h) (by omega)
  unfold s_l38Kind
  exact loop c.kids [] fuel rfl (by rw [fuel_eq]; unfold Big at hN; omega)
/-! ### Names -/
def amp : ByteArray := ByteArray.mk #[38]
def labAt (L : List ByteArray) (q : Nat) : ByteArray := L.getD q ByteArray.empty
def nm (L : List ByteArray) (c : Core) (p : Nat) : ByteArray :=
  if c.kind = 3 ∧ (kidC c.kids 0).kind = 2 then labAt L (p + 1) ++ (amp ++ labAt L (p + 1 + (kidC c.kids 0).nodes)) else labAt L (p + 1)
theorem sapp_ok {a b : ByteArray} (h : a.size + b.size ≤ 9223372036854775807) : sapp? a b = some (a ++ b) := by unfold sapp?; rw [if_pos h]
theorem labAt_le {L : List ByteArray} (h : textsFit L = true) (q : Nat) : (labAt L q).size ≤ 3000 := by
  unfold labAt
  rw [List.getD_eq_getElem?_getD]
  cases hq : L[q]? with
  | none => simp
  | some s =>
    unfold textsFit at h
    rw [List.all_eq_true] at h
    have := h s (List.mem_of_getElem? hq)
    simpa using this
theorem iName_eq (L : List ByteArray) (hL : textsFit L = true) (c : Core) (p : Nat) (hno : nodeOk c = true) (hr : rk c ≠ 0) : i_labelNode_redexName (c.ln L p) = some (nm L c p) := by
  have hact : actK c.kind := rk_kind hr
  have hlen := act_len hno hact
  have hl := node_len hno
  obtain ⟨f, r, hfr⟩ : ∃ f r, c.kids = f :: r := List.exists_cons_of_length_pos hlen
  have hk0 : kidC c.kids 0 = f := by rw [hfr]; rfl
  have ha0 : (f.ln L (p + 1)).label = labAt L (p + 1) := by rw [Core.ln_eq]; rfl
  unfold i_labelNode_redexName
  rw [Core.ln_eq]
  simp only
  rw [hfr, Core.lns, show ∀ l, at? (f.ln L (p + 1) :: l) 0 = some (f.ln L (p + 1)) from fun _ => rfl, bind_some', iRedexKind_eq c hno, bind_some']
  have hj : ∀ b, (b = true → c.kids.length = 2) → i_labelNode_redexName_j1 ⟨c, L.getD p ByteArray.empty, (p : Int), f.ln L (p + 1) :: Core.lns L r (p + 1 + f.nodes)⟩ (f.ln L (p + 1)) b = some (if b = true then labAt L (p + 1) ++ (amp ++ labAt L (p + 1 + f.nodes)) else labAt L (p + 1)) := by
    intro b hb
    unfold i_labelNode_redexName_j1
    cases b with
    | false => rw [if_neg (by simp), if_neg (by simp), ha0]
    | true =>
      have h2 := hb rfl
      obtain ⟨g, r', rfl⟩ : ∃ g r', r = g :: r' := List.exists_cons_of_length_pos (by rw [hfr] at h2; simp at h2; omega)
      have hg : (g.ln L (p + 1 + f.nodes)).label = labAt L (p + 1 + f.nodes) := by rw [Core.ln_eq]; rfl
      rw [if_pos rfl, if_pos rfl]
      simp only
      rw [Core.lns, show ∀ l, at? (f.ln L (p + 1) :: g.ln L (p + 1 + f.nodes) :: l) 1 = some (g.ln L (p + 1 + f.nodes)) from fun _ => rfl, bind_some', hg, ha0]
      have s1 := labAt_le hL (p + 1)
      have s2 := labAt_le hL (p + 1 + f.nodes)
      have s3 : (ByteArray.mk #[38]).size = 1 := rfl
      rw [sapp_ok (by omega), bind_some', sapp_ok (by rw [ByteArray.size_append]; omega), bind_some']
      rfl
  have hfk : (f.ln L (p + 1)).core.kind = f.kind := by rw [Core.ln_eq]
  unfold nm
  rw [hk0]
  rcases rk_cases c with h | ⟨h, h1, h2⟩ | ⟨h, h1, h2, h3⟩ | ⟨h, h1⟩ | ⟨h, h1, h2⟩
  · exact absurd h hr
  · rw [h, if_neg (by decide), if_neg (by decide), hj false (by simp), if_neg (by simp), if_neg (by omega)]
  · rw [hk0] at h2
    rw [h, if_pos (by decide), hj true (fun _ => hl.1 (.inl h1)), if_pos rfl, if_pos ⟨h1, h2⟩]
  · rw [h, if_neg (by decide), if_neg (by decide), hj false (by simp), if_neg (by simp), if_neg (by rcases h1 with ⟨h1, -⟩ | ⟨h1, -⟩ <;> omega)]
  · rw [h, if_neg (by decide), if_pos (by decide)]
    by_cases h3 : c.kind = 3
    · rw [if_pos (by simpa using h3), bind_some', hfk, hj _ (fun _ => hl.1 (.inl h3))]
      by_cases h4 : f.kind = 2
      · rw [if_pos (by simpa using h4), if_pos ⟨h3, h4⟩]
      · rw [if_neg (by simpa using h4), if_neg (fun h => h4 h.2)]
    · rw [if_neg (by simpa using h3), hj false (by simp), if_neg (by simp), if_neg (fun h => h3 h.1)]
theorem sName_eq (L : List ByteArray) (hL : textsFit L = true) (c : Core) (p : Nat) (hno : nodeOk c = true) (hr : rk c ≠ 0) : s_l38Name (c.lt L p) = some (nm L c p) := by
  have hact : actK c.kind := rk_kind hr
  have hlen := act_len hno hact
  have hl := node_len hno
  obtain ⟨f, r, hfr⟩ : ∃ f r, c.kids = f :: r := List.exists_cons_of_length_pos hlen
  have hk0 : kidC c.kids 0 = f := by rw [hfr]; rfl
  have ha0 : (f.lt L (p + 1)).label = labAt L (p + 1) ∧ (f.lt L (p + 1)).kind = f.kind := by rw [Core.lt_eq]; exact ⟨rfl, rfl⟩
  unfold s_l38Name
  rw [Core.lt_eq, hfr, Core.lts]
  have hj : ∀ b, (b = true → c.kids.length = 2) → s_l38Name_j1 ⟨c.kind, c.value, c.data, L.getD p ByteArray.empty, f.lt L (p + 1) :: Core.lts L r (p + 1 + f.nodes)⟩ b = some (if b = true then labAt L (p + 1) ++ (amp ++ labAt L (p + 1 + f.nodes)) else labAt L (p + 1)) := by
    intro b hb
    unfold s_l38Name_j1
    simp only
    rw [show ∀ l, at? (f.lt L (p + 1) :: l) 0 = some (f.lt L (p + 1)) from fun _ => rfl]
    cases b with
    | false => rw [if_neg (by simp), if_neg (by simp), bind_some', ha0.1]
    | true =>
      have h2 := hb rfl
      obtain ⟨g, r', rfl⟩ : ∃ g r', r = g :: r' := List.exists_cons_of_length_pos (by rw [hfr] at h2; simp at h2; omega)
      have hg : (g.lt L (p + 1 + f.nodes)).label = labAt L (p + 1 + f.nodes) := by rw [Core.lt_eq]; rfl
      have s1 := labAt_le hL (p + 1)
      have s2 := labAt_le hL (p + 1 + f.nodes)
      have s3 : (ByteArray.mk #[38]).size = 1 := rfl
      rw [if_pos rfl, if_pos rfl, bind_some', ha0.1, sapp_ok (by omega), bind_some', Core.lts, show ∀ l, at? (f.lt L (p + 1) :: g.lt L (p + 1 + f.nodes) :: l) 1 = some (g.lt L (p + 1 + f.nodes)) from fun _ => rfl, bind_some', hg, sapp_ok (by rw [ByteArray.size_append]; omega), bind_some', ByteArray.append_assoc]
      rfl
  unfold nm
  rw [hk0]
  simp only
  by_cases h3 : c.kind = 3
  · rw [if_pos (by simpa using h3), show ∀ l, at? (f.lt L (p + 1) :: l) 0 = some (f.lt L (p + 1)) from fun _ => rfl, bind_some', ha0.2, hj _ (fun _ => hl.1 (.inl h3))]
    by_cases h4 : f.kind = 2
    · rw [if_pos (by simpa using h4), if_pos ⟨h3, h4⟩]
    · rw [if_neg (by simpa using h4), if_neg (fun h => h4 h.2)]
  · rw [if_neg (by simpa using h3), hj false (by simp), if_neg (by simp), if_neg (fun h => h3 h.1)]
/-! ### The redex at a position -/
theorem find_redl (a : Int) : ∀ (l : List Core) (p : Nat), (redl l p).find? (fun q => decide (((q.2 : Nat) : Int) = a)) = (if (p : Int) ≤ a then (match l[(a - p).toNat]? with
    | some e => if rk e = 0 then none else some (e, a.toNat)
    | none => none) else none)
  | [], p => by simp [redl, enumP]
  | c :: l, p => by
    rw [redl_cons, List.find?_append, find_redl a l (p + 1)]
    by_cases hp : (p : Int) = a
    · rw [if_neg (show ¬ (((p + 1 : Nat) : Int) ≤ a) by omega), if_pos (show (p : Int) ≤ a by omega), show (a - (p : Int)).toNat = 0 from by omega]
      by_cases h : rk c = 0
      · simp [h]
      · simp [h, hp]; omega
    · have e1 : (if rk c = 0 then [] else [(c, p)]).find? (fun q => decide (((q.2 : Nat) : Int) = a)) = none := by
        split
        · rfl
        · simp [hp]
      rw [e1, Option.none_or]
      by_cases h : (p : Int) ≤ a
      · rw [if_pos (show ((p + 1 : Nat) : Int) ≤ a by omega), if_pos h, show (a - (p : Int)).toNat = (a - ((p + 1 : Nat) : Int)).toNat + 1 from by omega, List.getElem?_cons_succ]
      · rw [if_neg (show ¬ (((p + 1 : Nat) : Int) ≤ a) by omega), if_neg h]
theorem iAt_eq (a : Int) (l : List LabelNode) (hl : l.length ≤ Big) : i_redexAt l a = some (l.find? fun n => decide (n.att = a)) := by
  have loop : ∀ (post pre : List LabelNode) (n : Nat), l = pre ++ post → post.length + 1 ≤ n → ∃ i, g_IndexFunc_s_impl_labelNode_l1 n l ((List.length pre : Nat) : Int) (fun y0 => i_redexAt_1 y0 a) = some i ∧
      ((i < 0 ∧ post.find? (fun n => decide (n.att = a)) = none) ∨ (¬ i < 0 ∧ ∃ e, at? l i = some e ∧ post.find? (fun n => decide (n.att = a)) = some e)) := by
    intro post
    induction post with
    | nil =>
      intro pre n h hn
      obtain ⟨n, rfl⟩ : ∃ m, n = m + 1 := ⟨n - 1, by omega⟩
      rw [g_IndexFunc_s_impl_labelNode_l1, ge_app h]
      exact ⟨-1, rfl, .inl ⟨by decide, rfl⟩⟩
    | cons x post ih =>
      intro pre n h hn
      rw [List.length_cons] at hn
      obtain ⟨n, rfl⟩ : ∃ m, n = m + 1 := ⟨n - 1, by omega⟩
      rw [g_IndexFunc_s_impl_labelNode_l1, if_pos (lt_app h), at_app h, bind_some']
      unfold i_redexAt_1
      rw [bind_some', List.find?_cons]
      by_cases hx : x.att = a
      · rw [if_pos (by simpa using hx), decide_eq_true hx]
        exact ⟨_, rfl, .inr ⟨by omega, x, at_app h, rfl⟩⟩
      · rw [if_neg (by simpa using hx), decide_eq_false hx, wrap_app h hl]
        exact ih (pre ++ [x]) n (next_app h) (by omega)
  obtain ⟨i, h1, h2⟩ := loop l [] fuel rfl (by rw [fuel_eq]; unfold Big at hl; omega)
  unfold i_redexAt g_IndexFunc_s_impl_labelNode
  simp only [List.length_nil, Int.natCast_zero] at h1
  rw [h1, bind_some']
  rcases h2 with ⟨h2, h3⟩ | ⟨h2, e, h3, h4⟩
  · rw [if_pos (by simpa using h2), h3]
  · rw [if_neg (by simpa using h2), h3, bind_some', h4]
theorem sOk_eq (x : Labelled) (hs : x.term.Small) (hN : x.term.nodes ≤ Big) (hl : x.labels.length ≤ Big) : s_l38Ok x = some x.valid := by
  unfold s_l38Ok Labelled.valid
  rw [l06Closed_eq _ hs hN, bind_some', l06Erased_eq _ hs fuel (fuel_nodes hN), bind_some', l08Left_eq _ hs _ fuel hl (fuel_nodes hN), bind_some', l38Texts_eq _ hl, bind_some']
  cases hc : x.term.closed with
  | false => simp
  | true =>
    rw [if_pos rfl]
    cases x.term.anyC boxLet with
    | true => simp
    | false =>
      rw [if_pos (by simp)]
      by_cases he : x.term.nodes = x.labels.length
      · rw [if_pos (by rw [szr_le (by omega)]; simp; omega)]; simp [he]
      · rw [if_neg (by unfold szr; split <;> simp <;> omega)]; simp [he]
theorem find_map (L : List ByteArray) (a : Int) (l : List (Core × Nat)) : (l.map (lnP L)).find? (fun n => decide (n.att = a)) = (l.find? fun q => decide (((q.2 : Nat) : Int) = a)).map (lnP L) := by
  induction l with
  | nil => rfl
  | cons q l ih =>
    have e : (lnP L q).att = ((q.2 : Nat) : Int) := by unfold lnP; rw [Core.ln_eq]
    rw [List.map_cons, List.find?_cons, List.find?_cons, e, ih]
    cases decide (((q.2 : Nat) : Int) = a) <;> rfl
theorem redl_len (l : List Core) (p : Nat) : (redl l p).length ≤ l.length := by
  have h1 : ∀ (l : List Core) (q : Nat), (enumP l q).length = l.length := by
    intro l
    induction l with
    | nil => intro q; rfl
    | cons a l ih => intro q; rw [enumP, List.length_cons, List.length_cons, ih]
  have := List.length_filter_le isRed (enumP l p)
  rw [h1] at this
  exact this
theorem NameAt_same (x : Labelled) (a : Int) (hz : x.term.sz ≤ 1048576) (hl : x.labels.length ≤ 1048576) : ∃ r, s_NameAt x a = some r ∧ i_NameAt x a = some r := by
  have hs : x.term.Small := x.term.small_of (by unfold Big; omega)
  have hnd := x.term.nodes_le
  have hN : x.term.nodes ≤ Big := by unfold Big; omega
  have hL : x.labels.length ≤ Big := by unfold Big; omega
  unfold s_NameAt i_NameAt
  rw [sOk_eq x hs hN hL, iValidLabelled_eq x hs hN hL, bind_some', bind_some']
  cases hv : x.valid with
  | false => exact ⟨_, rfl, rfl⟩
  | true =>
    unfold Labelled.valid at hv
    simp only [Bool.and_eq_true, decide_eq_true_eq] at hv
    obtain ⟨⟨⟨hcl, -⟩, hnl⟩, hfit⟩ := hv
    have hwf := closed_wf hcl
    have hf4 : 4 * x.term.nodes ≤ fuel := by rw [fuel_eq]; omega
    have htree := iTree_eq x hL x.term fuel 0 (by omega) hf4
    have hreds := iReds_eq x.labels x.term hwf fuel 0 [] hf4 (by simpa using hN)
    have hlen := redl_len x.term.all 0
    rw [all_len] at hlen
    simp only [Int.natCast_zero] at htree
    rw [if_neg (by simp), if_neg (by simp)]
    unfold i_Labelled_root
    rw [htree, bind_some', bind_some', hreds, bind_some', List.nil_append, iAt_eq a _ (by rw [List.length_map]; omega), bind_some', find_map, find_redl]
    simp only [Int.natCast_zero, Int.sub_zero]
    have hal := all_len x.term
    unfold s_l38At
    rw [l00In_eq, bind_some', w64 (by omega) (by omega)]
    by_cases hin : 0 ≤ a ∧ a ≤ (x.labels.length : Int) - 1
    · have hlt : a.toNat < x.term.all.length := by omega
      have e1 : x.term.all[a.toNat]? = some (x.term.all[a.toNat]'hlt) := List.getElem?_eq_getElem hlt
      have hst := sTree_eq x.labels hL x.term fuel 0 (by omega) hf4
      simp only [Int.natCast_zero] at hst
      have hsf := sFind_eq x.labels x.term fuel 0 a.toNat hf4 hN (by unfold Big; omega)
      rw [Int.toNat_of_nonneg hin.1, e1] at hsf
      have hew := all_wf x.term hwf _ (List.getElem_mem hlt)
      have hno := wf_node hew
      have hen := all_nodes x.term _ (List.getElem_mem hlt)
      rw [decide_eq_true hin, if_neg (by simp), hst, bind_some', if_pos hin.1, e1]
      unfold s_l38At_j1
      simp only
      rw [hsf, bind_some', bind_some']
      simp only [fndR, Nat.zero_add]
      generalize x.term.all[a.toNat]'hlt = e at *
      rw [if_neg (by simp), sKind38_eq x.labels e a.toNat hno (by have h1 := nodess_len e.kids; have h2 := e.nodes_eq; omega), bind_some']
      unfold s_NameAt_j1
      by_cases hr : rk e = 0
      · rw [if_pos (by simpa using hr), if_pos hr]
        exact ⟨_, rfl, rfl⟩
      · rw [if_neg (by simpa using hr), if_neg hr]
        simp only
        rw [sName_eq x.labels hfit e a.toNat hno hr, bind_some']
        refine ⟨_, rfl, ?_⟩
        show Option.bind (i_labelNode_redexName (e.ln x.labels a.toNat)) _ = _
        rw [iName_eq x.labels hfit e a.toNat hno hr, bind_some']
    · rw [decide_eq_false hin, if_pos (by simp), bind_some', if_pos (by simp)]
      refine ⟨_, rfl, ?_⟩
      by_cases h0 : 0 ≤ a
      · rw [if_pos h0, List.getElem?_eq_none (by omega)]
        rfl
      · rw [if_neg h0]
        rfl
end Go.Proofs.Ytgigfdghecdlgaa.Ab
