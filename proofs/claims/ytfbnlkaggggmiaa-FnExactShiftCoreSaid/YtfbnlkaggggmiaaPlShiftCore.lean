/-
  The law on ShiftCore: both sides add to the free variables from an index on. No program is in sight.
-/
import Derived.Test.YtfbnlkaggggmiaaPlE
import Derived.Test.YtfbnlkaggggmiaaPlMC
import Derived.Test.YtfbnlkaggggmiaaModS
namespace Go.Proofs.Ytfbnlkaggggmiaa.Ab
set_option linter.unusedVariables false
set_option linter.unusedSimpArgs false
open Go.RowKit

mutual
def Core.sh (b : Nat) : Core → Nat → Core
  | ⟨k, v, d, ks⟩, f => ⟨k, if k = 1 ∧ (f : Int) ≤ v then v + b else v, d, Core.shs b k ks 0 f⟩
def Core.shs (b : Nat) (k : Int) : List Core → Nat → Nat → List Core
  | [], _, _ => []
  | c :: cs, i, f => Core.sh b c (f + bnd k i) :: Core.shs b k cs (i + 1) f
end
theorem Core.sh_eq (b : Nat) (c : Core) (f : Nat) : c.sh b f = ⟨c.kind, if c.kind = 1 ∧ (f : Int) ≤ c.value then c.value + b else c.value, c.data, Core.shs b c.kind c.kids 0 f⟩ := by cases c; rw [Core.sh]
mutual
theorem Core.sh_sz (b : Nat) : ∀ (c : Core) (f : Nat), (c.sh b f).sz = c.sz
  | ⟨k, v, d, ks⟩, f => by rw [Core.sh, Core.sz, Core.sz, Core.shs_sz b k ks 0 f]
theorem Core.shs_sz (b : Nat) (k : Int) : ∀ (l : List Core) (i f : Nat), Core.szs (Core.shs b k l i f) = Core.szs l
  | [], _, _ => by rw [Core.shs]
  | c :: cs, i, f => by rw [Core.shs, Core.szs, Core.szs, Core.sh_sz b c _, Core.shs_sz b k cs _ _]
end
theorem var_data {c : Core} (h : nodeOk c = true) (h1 : c.kind = 1) : c.data = [] := by
  unfold nodeOk shape at h
  rw [h1] at h
  simp at h
  exact h.1.1.2
theorem var_val {c : Core} (h : nodeOk c = true) (h1 : c.kind = 1) : 0 ≤ c.value ∧ c.value ≤ 255 := by
  unfold nodeOk valOk at h
  rw [h1] at h
  simp at h
  exact h.1.2
theorem nodeOk_of {c : Core} (h : c.wf = true) : nodeOk c = true ∧ Core.wfs c.kids = true := by
  rw [Core.wf_eq, Bool.and_eq_true] at h; exact h
theorem own_eq (l : List Int) (h : l.length ≤ Big) : s_l00Own l = some l := by
  unfold s_l00Own
  rw [app_ok (by simpa using h), bind_some']; simp
theorem cloneInt_eq (l : List Int) (h : l.length ≤ Big) : g_Clone_sint64 l = some l := by
  unfold g_Clone_sint64
  rw [app_ok (by simpa using h), bind_some']; simp
theorem l06Shift_eq (b : Nat) (hb : b ≤ 64) : ∀ (c : Core), c.Small → c.wf = true → ∀ (f n : Nat), f + c.depth ≤ Big → 16 * c.nodes ≤ n → s_l06Shift n c b f = some (c.sh b f) := by
  refine Core.ind fun c ih hs hw f n ha hn => ?_
  obtain ⟨_, hdl, hk, hf⟩ := hs
  obtain ⟨hno, hwk⟩ := nodeOk_of hw
  rw [Core.nodes_eq] at hn
  rw [Core.depth_eq] at ha
  rw [Core.sh_eq]
  obtain ⟨n, rfl⟩ : ∃ m, n = m + 3 := ⟨n - 3, by omega⟩
  have loop : ∀ (v : Int) (post pre acc : List Core) (n : Nat), c.kids = pre ++ post → acc.length = pre.length → 16 * Core.nodess post + 1 ≤ n → Core.depths post + f + 1 ≤ Big →
      s_l06Shift_l4 n c b f v c.data acc ((List.length pre : Nat) : Int) = some ⟨c.kind, v, c.data, acc ++ Core.shs b c.kind post pre.length f⟩ := by
    intro v post
    induction post with
    | nil =>
      intro pre acc n h _ hn _
      obtain ⟨n, rfl⟩ : ∃ m, n = m + 1 := ⟨n - 1, by omega⟩
      rw [s_l06Shift_l4, ge_app h, if_neg (by simp), Core.shs, List.append_nil]
    | cons x post ihp =>
      intro pre acc n h hal hn hB
      rw [Core.nodess] at hn
      rw [Core.depths] at hB
      have := x.nodes_pos
      have hb' := bnd_le c.kind pre.length
      obtain ⟨n, rfl⟩ : ∃ m, n = m + 1 := ⟨n - 1, by omega⟩
      have hx : x ∈ c.kids := by rw [h]; simp
      have hpl : pre.length + 1 ≤ c.kids.length := by rw [h]; simp
      rw [s_l06Shift_l4, if_pos (lt_app h), at_app h, bind_some', l06Binds_eq, bind_some', w64nn (by omega), ih x hx (hf x hx) (wfs_mem hx hwk) _ n (by omega) (by omega), bind_some',
        app_ok (by simp; omega), bind_some', wrap_app h hk, ihp (pre ++ [x]) (acc ++ [x.sh b (f + bnd c.kind pre.length)]) n (next_app h) (by simp [hal]) (by omega) (by omega), Core.shs]
      simp
  have tail : ∀ v : Int, s_l06Shift_j2 (n + 1) c b f c.data v = some ⟨c.kind, v, c.data, Core.shs b c.kind c.kids 0 f⟩ := by
    intro v
    rw [s_l06Shift_j2]
    have := loop v c.kids [] [] n (by simp) rfl (by omega) (by omega)
    simpa using this
  rw [s_l06Shift, own_eq _ hdl, bind_some']
  by_cases h1 : c.kind = 1
  · obtain ⟨v1, v2⟩ := var_val hno h1
    rw [if_pos (by simpa using h1), s_l06Shift_j1]
    by_cases h2 : (f : Int) ≤ c.value
    · rw [if_pos (by simpa using h2), tail, w64 (by omega) (by omega), if_pos ⟨h1, h2⟩]
    · rw [if_neg (by simpa using h2), tail, if_neg (fun h => h2 h.2)]
  · rw [if_neg (by simpa using h1), s_l06Shift_j1, if_neg (by simp), tail, if_neg (fun h => h1 h.1)]
theorem shift1_eq (b f d : Nat) (hb : b ≤ 64) (hd : d + f ≤ Big) (c : Core) (hno : nodeOk c = true) (h1 : c.kind = 1) : i_shift_1 c d f b = some (c.sh b (f + d)) := by
  have hk := var_kids hno h1
  have hda := var_data hno h1
  obtain ⟨v1, v2⟩ := var_val hno h1
  unfold i_shift_1
  rw [Core.sh_eq, w64nn hd, hk, hda, Core.shs]
  by_cases h2 : ((d + f : Nat) : Int) ≤ c.value
  · rw [if_pos (by simpa using h2), w64 (by omega) (by omega), if_pos ⟨h1, by omega⟩]
    simp [emp?]
  · rw [if_neg (by simpa using h2), if_neg (fun h => h2 (by omega))]
    cases c
    simp only at hk hda
    subst hk hda
    simp [emp?]
theorem mapVars_eq (b f0 : Nat) (hb : b ≤ 64) : ∀ (c : Core), c.Small → c.wf = true → ∀ (d n : Nat), d + f0 + c.depth ≤ Big → 16 * c.nodes ≤ n → i_mapVars n c d (fun y0 y1 => i_shift_1 y0 y1 (f0 : Int) (b : Int)) = some (c.sh b (f0 + d)) := by
  refine Core.ind fun c ih hs hw d n ha hn => ?_
  obtain ⟨_, hdl, hk, hf⟩ := hs
  obtain ⟨hno, hwk⟩ := nodeOk_of hw
  rw [Core.nodes_eq] at hn
  rw [Core.depth_eq] at ha
  obtain ⟨n, rfl⟩ : ∃ m, n = m + 1 := ⟨n - 1, by omega⟩
  rw [i_mapVars]
  by_cases h1 : c.kind = 1
  · rw [if_pos (by simpa using h1), shift1_eq b f0 d hb (by omega) c hno h1, bind_some']
  rw [if_neg (by simpa using h1), cloneInt_eq _ hdl, bind_some', Core.sh_eq, if_neg (fun h => h1 h.1)]
  have loop : ∀ (post pre acc : List Core) (n : Nat), c.kids = pre ++ post → acc.length = pre.length → 16 * Core.nodess post + 1 ≤ n → Core.depths post + d + f0 + 1 ≤ Big →
      i_mapVars_l2 n c d c.data acc ((List.length pre : Nat) : Int) (fun y0 y1 => i_shift_1 y0 y1 (f0 : Int) (b : Int)) = some ⟨c.kind, c.value, c.data, acc ++ Core.shs b c.kind post pre.length (f0 + d)⟩ := by
    intro post
    induction post with
    | nil =>
      intro pre acc n h _ hn _
      obtain ⟨n, rfl⟩ : ∃ m, n = m + 1 := ⟨n - 1, by omega⟩
      rw [i_mapVars_l2, ge_app h, if_neg (by simp), Core.shs, List.append_nil]
    | cons x post ihp =>
      intro pre acc n h hal hn hB
      rw [Core.nodess] at hn
      rw [Core.depths] at hB
      have := x.nodes_pos
      have hb' := bnd_le c.kind pre.length
      obtain ⟨n, rfl⟩ : ∃ m, n = m + 1 := ⟨n - 1, by omega⟩
      have hx : x ∈ c.kids := by rw [h]; simp
      have hpl : pre.length + 1 ≤ c.kids.length := by rw [h]; simp
      rw [i_mapVars_l2, if_pos (lt_app h), at_app h, bind_some', binds_eq, bind_some', w64nn (by omega), ih x hx (hf x hx) (wfs_mem hx hwk) _ n (by omega) (by omega), bind_some',
        app_ok (by simp; omega), bind_some', wrap_app h hk, ihp (pre ++ [x]) (acc ++ [x.sh b (f0 + (d + bnd c.kind pre.length))]) n (next_app h) (by simp [hal]) (by omega) (by omega), Core.shs, ← Nat.add_assoc]
      simp
  have := loop c.kids [] [] n (by simp) rfl (by omega) (by omega)
  simpa using this
/-! ### The greatest index -/
def great (c : Core) : Bool := decide (c.kind = 1) && decide (255 < c.value)
theorem highest_eq : ∀ (c : Core), c.Small → ∀ n, 16 * c.nodes ≤ n → ∃ m : Int, s_l06Highest n c = some m ∧ (255 < m ↔ c.anyC great = true) := by
  refine Core.ind fun c ih hs n hn => ?_
  obtain ⟨_, hdl, hk, hf⟩ := hs
  rw [Core.nodes_eq] at hn
  obtain ⟨n, rfl⟩ : ∃ m, n = m + 2 := ⟨n - 2, by omega⟩
  have loop : ∀ (post pre : List Core) (n : Nat) (m : Int), c.kids = pre ++ post → 16 * Core.nodess post + 1 ≤ n →
      ∃ m' : Int, s_l06Highest_l2 n c m ((List.length pre : Nat) : Int) = some m' ∧ (255 < m' ↔ 255 < m ∨ Core.anysC great post = true) := by
    intro post
    induction post with
    | nil =>
      intro pre n m h hn
      obtain ⟨n, rfl⟩ : ∃ m, n = m + 1 := ⟨n - 1, by omega⟩
      exact ⟨m, by rw [s_l06Highest_l2, ge_app h, if_neg (by simp)], by simp [Core.anysC]⟩
    | cons x post ihp =>
      intro pre n m h hn
      rw [Core.nodess] at hn
      have := x.nodes_pos
      obtain ⟨n, rfl⟩ : ∃ m, n = m + 1 := ⟨n - 1, by omega⟩
      have hx : x ∈ c.kids := by rw [h]; simp
      obtain ⟨mx, h1, h2⟩ := ih x hx (hf x hx) n (by omega)
      obtain ⟨m', h3, h4⟩ := ihp (pre ++ [x]) n (if mx < m then m else mx) (next_app h) (by omega)
      refine ⟨m', ?_, ?_⟩
      · rw [s_l06Highest_l2, if_pos (lt_app h), at_app h, bind_some', h1, bind_some']
        unfold s_l00Max
        by_cases h5 : mx < m
        · rw [if_pos h5] at h3
          rw [if_pos (by simpa using h5), bind_some', wrap_app h hk, h3]
        · rw [if_neg h5] at h3
          rw [if_neg (by simpa using h5), bind_some', wrap_app h hk, h3]
      · rw [h4, Core.anysC, Bool.or_eq_true, ← h2, ← or_assoc]
        refine or_congr ?_ Iff.rfl
        split <;> omega
  rw [s_l06Highest, Core.anyC_eq]
  unfold great
  by_cases h1 : c.kind = 1
  · obtain ⟨m', h3, h4⟩ := loop c.kids [] n c.value (by simp) (by omega)
    rw [if_pos (by simpa using h1), s_l06Highest_j1]
    exact ⟨m', h3, by rw [h4]; simp [h1]; rfl⟩
  · obtain ⟨m', h3, h4⟩ := loop c.kids [] n (-1) (by simp) (by omega)
    rw [if_neg (by simpa using h1), s_l06Highest_j1]
    exact ⟨m', h3, by rw [h4]; simp [h1]; rfl⟩
theorem indicesFit_eq (c : Core) (hs : c.Small) (hN : c.nodes ≤ Big) : i_indicesFit c = some (!c.anyC great) := by
  unfold i_indicesFit
  rw [anyCore_eq _ great c hs (fun x _ => by unfold i_indicesFit_1 great; by_cases h : x.kind = 1 <;> simp [h]) fuel (by have := fuel_nodes hN; omega), bind_some']

/-! ### The law -/
def noCore : Core := ⟨0, 0, [], []⟩
theorem noCore_sz : noCore.sz = 0 := by unfold noCore; rw [Core.sz]; simp [Core.szs]
theorem valid_parts {c : Core} (h : c.valid = true) : c.wf = true ∧ c.depth ≤ 80 ∧ c.nodes ≤ 400 := by
  unfold Core.valid at h
  simp at h
  omega
theorem ShiftCore_same (c : Core) (hs : c.Small) (hz : c.sz ≤ 1048576) (a1 a2 : Int) : ∃ g e, s_ShiftCore c a1 a2 = some (g, e) ∧ i_ShiftCore c a1 a2 = some (g, e) ∧ g.sz ≤ 1048576 := by
  have hN : c.nodes ≤ Big := by have := Core.nodes_le c; unfold Big; omega
  unfold s_ShiftCore i_ShiftCore
  rw [l06Ok_eq c hs hN, ValidCore_eq c hs hN, bind_some', bind_some', l00In_eq, l00In_eq]
  cases hv : c.valid with
  | false => exact ⟨noCore, 1, by simp [noCore], by simp [noCore], by rw [noCore_sz]; omega⟩
  | true =>
    obtain ⟨hw, hd, hn⟩ := valid_parts hv
    rw [if_neg (by simp), if_neg (by simp), bind_some', bind_some']
    by_cases hin : (0 ≤ a1 ∧ a1 ≤ 64) ∧ (0 ≤ a2 ∧ a2 ≤ 255)
    · obtain ⟨⟨p1, p2⟩, p3, p4⟩ := hin
      obtain ⟨b, rfl⟩ := Int.eq_ofNat_of_zero_le p1
      obtain ⟨f, rfl⟩ := Int.eq_ofNat_of_zero_le p3
      have hsz := Core.sh_sz b c f
      have hs' : (c.sh b f).Small := Core.small_of _ (by rw [hsz]; unfold Big; omega)
      have hN' : (c.sh b f).nodes ≤ Big := by have := Core.nodes_le (c.sh b f); unfold Big; omega
      have h1 : s_l06Shift fuel c b f = some (c.sh b f) := l06Shift_eq b (by omega) c hs hw f fuel (by unfold Big; omega) (fuel_nodes hN)
      have h2 : i_shift c b f = some (c.sh b f) := by
        unfold i_shift
        have := mapVars_eq b f (by omega) c hs hw 0 fuel (by unfold Big; omega) (fuel_nodes hN)
        rw [show ((0 : Nat) : Int) = 0 from rfl] at this
        rw [this, bind_some', Nat.add_zero]
      obtain ⟨m, h3, h4⟩ := highest_eq (c.sh b f) hs' fuel (fuel_nodes hN')
      have h5 := indicesFit_eq (c.sh b f) hs' hN'
      have e1 : ¬ (b : Int) < 0 := by omega
      have e2 : ¬ 64 < (b : Int) := by omega
      have e3 : ¬ (f : Int) < 0 := by omega
      have e4 : ¬ 255 < (f : Int) := by omega
      by_cases hg : 255 < m
      · have hg' := h4.1 hg
        refine ⟨noCore, 2, ?_, ?_, by rw [noCore_sz]; omega⟩
        · simp only [p1, p2, p3, p4, and_self, decide_true, Bool.not_true, Bool.false_eq_true, reduceIte]
          unfold s_ShiftCore_j1
          simp [h1, h3, hg, noCore]
        · simp only [e1, e2, e3, e4, decide_false, Bool.false_eq_true, reduceIte]
          unfold i_ShiftCore_j1
          simp [h2, h5, hg', noCore]
      · have hg' : (c.sh b f).anyC great = false := by
          cases h : (c.sh b f).anyC great with
          | false => rfl
          | true => exact absurd (h4.2 h) hg
        refine ⟨c.sh b f, 0, ?_, ?_, by rw [hsz]; omega⟩
        · simp only [p1, p2, p3, p4, and_self, decide_true, Bool.not_true, Bool.false_eq_true, reduceIte]
          unfold s_ShiftCore_j1
          simp [h1, h3, hg]
        · simp only [e1, e2, e3, e4, decide_false, Bool.false_eq_true, reduceIte]
          unfold i_ShiftCore_j1
          simp [h2, h5, hg']
    · refine ⟨noCore, 2, ?_, ?_, by rw [noCore_sz]; omega⟩
      · unfold s_ShiftCore_j1
        by_cases q1 : 0 ≤ a1 ∧ a1 ≤ 64
        · have q2 : ¬ (0 ≤ a2 ∧ a2 ≤ 255) := fun h => hin ⟨q1, h⟩
          simp [q1, q2, noCore]
        · simp [q1, noCore]
      · unfold i_ShiftCore_j1
        by_cases q1 : a1 < 0
        · simp [q1, noCore]
        by_cases q2 : 64 < a1
        · simp [q1, q2, noCore]
        by_cases q3 : a2 < 0
        · simp [q1, q2, q3, noCore]
        have q4 : 255 < a2 := by omega
        simp [q1, q2, q3, q4, noCore]
theorem ShiftCore_plain (c : Core) (h : oksC (Core.ds c)) (a1 : Int) (w1 : (Lit.int IntKind.i64 a1).wf = true) (a2 : Int) (w2 : (Lit.int IntKind.i64 a2).wf = true) : l_FnExactShiftCore c a1 a2 = some true := by
  unfold l_FnExactShiftCore
  rw [show (1048576 : Int) = ((1048576 : Nat) : Int) from rfl, szCore_eq c (Core.fits_ok c h) 1048576 fuel (by omega) (by rw [fuel_eq]; omega), bind_some', szr_neg]
  by_cases h0 : 1048576 < c.sz
  · rw [if_pos (by simpa using h0)]
  rw [if_neg (by simpa using h0)]
  have hz : c.sz ≤ 1048576 := by omega
  have hs : c.Small := Core.small_of c (by unfold Big; omega)
  have hN : c.nodes ≤ Big := by have := Core.nodes_le c; unfold Big; omega
  obtain ⟨g, e, h1, h2, hg⟩ := ShiftCore_same c hs hz a1 a2
  have hgs : g.Small := Core.small_of g (by unfold Big; omega)
  have hgN : g.nodes ≤ Big := by have := Core.nodes_le g; unfold Big; omega
  have to : l_toCore fuel c = some c := toCore_eq c hs fuel (by have := fuel_nodes hN; omega)
  have eqc : l_eqCore fuel c c = some true := eqCore_eq c hs fuel (by have := fuel_nodes hN; omega)
  have eqg : l_eqCore fuel g g = some true := eqCore_eq g hgs fuel (by have := fuel_nodes hgN; omega)
  have mc := markCore_eq c 1 (by unfold Big; omega) (by unfold Big; omega)
  have mg := markCore_eq g 1 (by unfold Big; omega) (by unfold Big; omega)
  have hh := heldCore_eq g 1 (by unfold Big; omega) (by unfold Big; omega)
  have hv : Core.mkV 1 g = ⟨g.kind, g.value, (Core.mkV 1 g).data, (Core.mkV 1 g).kids⟩ := rfl
  rw [hv] at hh
  rw [show ((1 : Nat) : Int) = 1 from rfl] at mc mg hh
  rw [to, bind_some', h1, bind_some', bind_some', h2, bind_some']
  have j3 : l_FnExactShiftCore_j3 (g, e) (((1 + g.cntV : Nat) : Int), (Core.mkV 1 g).data, (Core.mkV 1 g).kids) false = some true := by
    unfold l_FnExactShiftCore_j3
    rw [if_neg (by simp), hh, bind_some', if_neg (by rw [nneg]; decide), if_neg (by simp)]
  have j2 : l_FnExactShiftCore_j2 c a1 a2 (g, e) (g, e) false = some true := by
    unfold l_FnExactShiftCore_j2
    rw [if_neg (by simp), mg, bind_some', hh, bind_some', if_neg (by rw [nneg]; decide), if_neg (by simp), to, bind_some', h2, bind_some', eqg, bind_some', if_neg (by simp)]
    simpa using j3
  have j1 : l_FnExactShiftCore_j1 c a1 a2 (g, e) c (g, e) false = some true := by
    unfold l_FnExactShiftCore_j1
    rw [if_neg (by simp), to, bind_some', eqc, bind_some', if_neg (by simp), mc, bind_some', if_neg (by rw [nneg]; decide), eqg, bind_some', if_neg (by simp)]
    simpa using j2
  rw [eqg, bind_some', if_neg (by simp)]
  simpa using j1
end Go.Proofs.Ytfbnlkaggggmiaa.Ab
