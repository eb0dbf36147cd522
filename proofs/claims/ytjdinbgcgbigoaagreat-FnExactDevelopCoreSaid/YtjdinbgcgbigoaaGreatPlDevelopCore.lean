/-
  Core terms developed: both sides answer alike. No program is in sight.
-/
import Derived.Test.YtjdinbgcgbigoaaGreatPlDx
import Derived.Test.YtjdinbgcgbigoaaGreatPlBook
namespace Go.Proofs.YtjdinbgcgbigoaaGreat.Ab
set_option linter.unusedVariables false
set_option linter.unusedSimpArgs false
open Go.RowKit
theorem closed_parts {c : Core} (h : c.closed = true) : c.valid = true ∧ c.above 0 = false := by
 unfold Core.closed at h
 simp at h
 exact h
theorem data_le {c : Core} (h : nodeOk c = true) : c.data.length ≤ 4 := by
 unfold nodeOk at h
 simp only [Bool.and_eq_true] at h
 exact nodeOk_data h.1.1.2
theorem sz_wf : ∀ (c : Core), c.wf = true → c.sz + 1 ≤ 5 * c.nodes := by
 refine Core.ind fun c ih hw => ?_
 obtain ⟨hno, hwk⟩ := nodeOk_of hw
 rw [Core.sz_eq, Core.nodes_eq]
 have hd := data_le hno
 have key : ∀ l : List Core, (∀ x ∈ l, x.sz + 1 ≤ 5 * x.nodes) → Core.szs l ≤ 5 * Core.nodess l := by
  intro l
  induction l with
  | nil => intro _; simp [Core.szs]
  | cons x xs ihl =>
   intro h
   rw [Core.szs, Core.nodess]
   have := h x (by simp)
   have := ihl fun y hy => h y (by simp [hy])
   omega
 have := key c.kids fun x hx => ih x hx (wfs_mem hx hwk)
 omega
theorem mv0 : ∀ c : Core, c.wf = true → ∀ n, c.mv (shF 0) n = c := by
 refine Core.ind fun c ih hw n => ?_
 obtain ⟨hno, hwk⟩ := nodeOk_of hw
 rw [Core.mv_eq]
 by_cases h1 : c.kind = 1
 ·rw [if_pos h1]
  have hk := var_kids hno h1
  have hd := var_data hno h1
  unfold shF varC
  cases c
  simp only at h1 hk hd
  subst h1 hk hd
  congr 1
  split <;> simp
 ·rw [if_neg h1]
  have key : ∀ (l : List Core) (i : Nat), (∀ x ∈ l, ∀ n, x.mv (shF 0) n = x) → Core.mvs (shF 0) c.kind l i n = l := by
   intro l
   induction l with
   | nil => intro i _; rw [Core.mvs]
   | cons x xs ihl =>
    intro i h
    rw [Core.mvs, h x (by simp), ihl (i + 1) fun y hy => h y (by simp [hy])]
  rw [key c.kids 0 fun x hx => ih x hx (wfs_mem hx hwk)]
  cases c; rfl
theorem iCopyCore_eq : ∀ c : Core, c.Small → ∀ n, 16 * c.nodes ≤ n → i_copyCore n c = some c := by
 refine Core.ind fun c ih hs n hn => ?_
 obtain ⟨_, hdl, hk, hf⟩ := hs
 rw [Core.nodes_eq] at hn
 obtain ⟨n, rfl⟩ : ∃ m, n = m + 1 := ⟨n - 1, by omega⟩
 have hclone : g_Clone_sint64 c.data = some c.data := by unfold g_Clone_sint64; rw [app_ok (by simpa using hdl)]; rfl
 rw [i_copyCore, hclone, bind_some']
 have loop : ∀ (post pre : List Core) (n : Nat), c.kids = pre ++ post → 16 * Core.nodess post + 1 ≤ n → i_copyCore_l2 n c c.data pre ((List.length pre : Nat) : Int) = some c := by
  intro post
  induction post with
  | nil =>
   intro pre n h hn
   obtain ⟨n, rfl⟩ : ∃ m, n = m + 1 := ⟨n - 1, by omega⟩
   rw [i_copyCore_l2, ge_app h, if_neg (by simp)]
   have hk0 : c.kids = pre := by rw [h, List.append_nil]
   rw [← hk0, core_eta]
  | cons x post ihp =>
   intro pre n h hn
   rw [Core.nodess] at hn
   have := x.nodes_pos
   obtain ⟨n, rfl⟩ : ∃ m, n = m + 1 := ⟨n - 1, by omega⟩
   have hx : x ∈ c.kids := by rw [h]; simp
   have hpl : pre.length + [x].length ≤ Big := by rw [h] at hk; simp at hk ⊢; omega
   rw [i_copyCore_l2, if_pos (lt_app h), at_app h, bind_some', ih x hx (hf x hx) n (by omega), bind_some', app_ok hpl, bind_some', wrap_app h hk]
   exact ihp (pre ++ [x]) n (next_app h) (by omega)
 exact loop c.kids [] n (by simp) (by omega)
def stB (b : Book) (c : Core) : Bool := b.valid && (c.closed && !c.anyC boxLet && !c.anyC (names b.defs.length)) && b.defs.all fun d => !d.anyC boxLet
theorem def_parts {b : Book} (hv : b.valid = true) {d : Core} (hd : d ∈ b.defs) : d.closed = true := by
 unfold Book.valid at hv
 rw [Bool.and_eq_true, List.all_eq_true] at hv
 have := hv.2 d hd
 unfold defOk at this
 rw [Bool.and_eq_true] at this
 exact this.1
theorem sState_eq (b : Book) (c : Core) (hl : b.defs.length ≤ Big) (hs : ∀ d ∈ b.defs, d.Small ∧ d.nodes ≤ Big) (hc : c.Small) (hN : c.nodes ≤ Big) : s_l08State b c = some (stB b c) := by
 unfold s_l08State stB
 have j1 : s_l08State_j1 b true = some false := by unfold s_l08State_j1; rw [if_pos rfl]
 rw [l06Book_eq b hl hs, bind_some']
 cases hv : b.valid with
 | false => rw [Bool.not_false, if_pos rfl, j1]; rfl
 | true =>
  rw [Bool.not_true, if_neg (by simp), l06Closed_eq c hc hN, bind_some']
  cases hcl : c.closed with
  | false => rw [Bool.not_false, if_pos rfl, j1]; rfl
  | true =>
   have hw := closed_wf hcl
   rw [Bool.not_true, if_neg (by simp), l06Erased_eq c hc fuel (fuel_nodes hN), bind_some']
   cases c.anyC boxLet with
   | true => rw [Bool.not_true, Bool.not_false, if_pos rfl, j1]; rfl
   | false =>
    rw [Bool.not_false, Bool.not_true, if_neg (by simp), l06Refs_eq b.defs.length c hc hw fuel (fuel_nodes hN), bind_some']
    cases c.anyC (names b.defs.length) with
    | true => rw [Bool.not_true, Bool.not_false, j1]; rfl
    | false =>
     rw [Bool.not_false, Bool.not_true]
     unfold s_l08State_j1
     rw [if_neg (by simp)]
     have loop : ∀ (post pre : List Core) (n : Nat), b.defs = pre ++ post → post.length < n → s_l08State_l2 n b ((List.length pre : Nat) : Int) = some (post.all fun d => !d.anyC boxLet) := by
      intro post
      induction post with
      | nil =>
       intro pre n h hn
       obtain ⟨n, rfl⟩ : ∃ m, n = m + 1 := ⟨n - 1, by omega⟩
       rw [s_l08State_l2, ge_app h, if_neg (by simp)]; rfl
      | cons x post ih =>
       intro pre n h hn
       rw [List.length_cons] at hn
       obtain ⟨n, rfl⟩ : ∃ m, n = m + 1 := ⟨n - 1, by omega⟩
       have hx : x ∈ b.defs := by rw [h]; simp
       rw [s_l08State_l2, if_pos (lt_app h), at_app h, bind_some', l06Erased_eq x (hs x hx).1 fuel (fuel_nodes (hs x hx).2), bind_some', List.all_cons]
       cases x.anyC boxLet with
       | true => rfl
       | false =>
        rw [Bool.not_false, Bool.not_true, if_neg (by simp), wrap_app h hl]
        exact ih (pre ++ [x]) n (next_app h) (by omega)
     exact loop b.defs [] fuel rfl (by rw [fuel_eq]; unfold Big at hl; omega)
theorem iState_eq (b : Book) (c : Core) (hl : b.defs.length ≤ Big) (hs : ∀ d ∈ b.defs, d.Small ∧ d.nodes ≤ Big) (hc : c.Small) (hN : c.nodes ≤ Big) : i_isMachineState b c = some (stB b c) := by
 unfold i_isMachineState i_isErasedBook i_isErasedTerm stB
 rw [ValidBook_eq b hl hs, bind_some']
 cases hv : b.valid with
 | false => rfl
 | true =>
  have hcf : g_ContainsFunc_simpl_Core b.defs (fun y0 => i_isErasedBook_1 y0) = some (b.defs.any fun d => !(d.valid && !d.anyC boxLet)) := by
   refine containsCore b.defs _ _ hl fun d hd => ?_
   unfold i_isErasedBook_1
   rw [IsErased_eq d (hs d hd).1 (hs d hd).2, bind_some']
  have hall : (b.defs.any fun d => !(d.valid && !d.anyC boxLet)) = !(b.defs.all fun d => !d.anyC boxLet) := by
   rw [← List.not_any_eq_all_not, Bool.not_not]
   have : ∀ l : List Core, (∀ d ∈ l, d.valid = true) → (l.any fun d => !(d.valid && !d.anyC boxLet)) = l.any fun d => d.anyC boxLet := by
    intro l
    induction l with
    | nil => intro _; rfl
    | cons x xs ih =>
     intro h
     rw [List.any_cons, List.any_cons, ih fun y hy => h y (by simp [hy]), h x (by simp), Bool.true_and, Bool.not_not]
   exact this b.defs fun d hd => (closed_parts (def_parts hv hd)).1
  rw [if_pos rfl, hcf, bind_some', hall, Bool.not_not, bind_some']
  cases (b.defs.all fun d => !d.anyC boxLet) with
  | false => simp
  | true =>
   rw [if_pos rfl, IsClosed_eq c hc hN, bind_some']
   cases hcl : c.closed with
   | false => rfl
   | true =>
    rw [if_pos rfl, IsErased_eq c hc hN, bind_some', (closed_parts hcl).1, Bool.true_and]
    cases c.anyC boxLet with
    | true => rfl
    | false =>
     rw [Bool.not_false, if_pos rfl, namesOnly_eq c _ hc hN, bind_some', bind_some']
     simp
theorem env_of {b : Book} (hv : b.valid = true) : EnvOk ⟨b.defs, opF⟩ := by
 refine ⟨fun d hd => ?_, fun o x y => opF_range o x y⟩
 obtain ⟨h1, h2⟩ := closed_parts (def_parts hv hd)
 obtain ⟨w, dp, nd⟩ := valid_parts h1
 exact ⟨w, h2, nd, dp⟩
theorem DevelopCore_same (b : Book) (c : Core) (hb : b.sz ≤ 1048576) (hc : c.sz ≤ 1048576) : ∃ r, s_DevelopCore b c = some r ∧ i_DevelopCore b c = some r ∧ r.1.sz ≤ Big := by
 obtain ⟨hl, hs, -⟩ := szs_small (l := b.defs) hb
 have hcs := Core.small_of c (by unfold Big; omega)
 have hN : c.nodes ≤ Big := by have := Core.nodes_le c; unfold Big; omega
 have hz : noCore.sz ≤ Big := by rw [noCore_sz]; omega
 unfold s_DevelopCore i_DevelopCore
 rw [sState_eq b c hl hs hcs hN, iState_eq b c hl hs hcs hN, bind_some', bind_some']
 cases hst : stB b c with
 | false => exact ⟨(noCore, 0, 1), rfl, rfl, hz⟩
 | true =>
  unfold stB at hst
  simp only [Bool.and_eq_true, Bool.not_eq_true'] at hst
  obtain ⟨⟨hv, ⟨hcl, -⟩, hnm⟩, -⟩ := hst
  obtain ⟨hcv, hab⟩ := closed_parts hcl
  obtain ⟨hw, hd, hn⟩ := valid_parts hcv
  have hE := env_of hv
  obtain ⟨x, k, ok, h1, h2⟩ := iDevelop_eq (b := b) rfl hE c hcs hw hn hnm 0 0 fuel (by omega) hab (fuel_nodes hN)
  obtain ⟨y, code, at', h3, h4⟩ := sDevelop_eq (b := b) rfl hE c hcs hw hn hnm 0 0 fuel 0 (by omega) hab (fuel_nodes hN) (by omega)
  rw [Bool.not_true, if_neg (by simp), if_neg (by simp), show (0 : Int) = ((0 : Nat) : Int) from rfl, h1, h3, bind_some', bind_some']
  cases hdm : c.dm ⟨b.defs, opF⟩ allP 0 with
  | none =>
   rw [hdm] at h2 h4
   subst h2 h4
   exact ⟨(noCore, 0, 4), rfl, rfl, hz⟩
  | some e =>
   rw [hdm] at h2 h4
   obtain ⟨e1, rfl, rfl⟩ := h2
   obtain ⟨e2, rfl, rfl⟩ := h4
   have e3 : e = x := e1.symm
   have e4 : e = y := e2.symm
   clear e1 e2
   subst e3 e4
   have g := dm_good hE c hw hnm 0 0 (by omega) hab _ hdm
   have gp := g.parts
   have gN : e.nodes ≤ Big := by unfold Big; omega
   have hsh := l06Shift_eq 0 (by omega) e g.small g.wf 0 fuel (by unfold Big; omega) (fuel_nodes gN)
   rw [mv0 e g.wf] at hsh
   have hsh' : s_l06Shift fuel e 0 0 = some e := hsh
   unfold s_l06Own
   refine ⟨(e, (c.red : Int), 0), ?_, ?_, ?_⟩
   ·simp only [decide_true, Bool.not_true, Bool.false_eq_true, reduceIte, hsh', bind_some', Nat.zero_add, Int.natCast_zero]
    try rfl
   ·simp only [Bool.not_true, Bool.false_eq_true, reduceIte, iCopyCore_eq e g.small fuel (fuel_nodes gN), bind_some']
    try rfl
   ·have := sz_wf e g.wf
    show e.sz ≤ Big
    unfold Big; omega
end Go.Proofs.YtjdinbgcgbigoaaGreat.Ab
