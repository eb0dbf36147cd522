/-
  EncodeTemplates: the law on the models. By hand.
-/
import Derived.Test.YtocpkbclcnjejaaModH
import Derived.Test.YtocpkbclcnjejaaPlEncNet
import Derived.Test.YtocpkbclcnjejaaPlMU
namespace Go.Proofs.Ytocpkbclcnjejaa.Ab
set_option linter.unusedVariables false
set_option linter.unusedSimpArgs false
set_option maxRecDepth 20000
set_option maxHeartbeats 4000000
open Go.RowKit

theorem szNetS_eq (l : List Net) (hl : l.length ≤ 9223372036854775807) (h : ∀ x ∈ l, x.Ok) (left : Nat) (h1 : left ≤ 1048576) : l_szNetS l left = some (szr (szl Net.sz l) left) := by
  unfold l_szNetS
  exact gSz (fun n p i => l_szNetS_l1 n l p i) l_szNet Net.sz l (fun n p i => by rw [l_szNetS_l1]) left h1 (fun x hx k hk => szNet_eq x (h x hx) k hk) hl
theorem toNetS_eq (l : List Net) (hl : szl Net.sz l ≤ Big) : l_toNetS l = some l := by
  unfold l_toNetS
  exact gTo (fun n acc i => l_toNetS_l2 n l acc i) l_toNet _ l (fun n acc i => by rw [l_toNetS_l2]) (by have := szl_len Net.sz l; omega) (fun x hx => toNet_eq x (by have := szl_mem (s := Net.sz) hx; omega))
theorem eqNetS_tells (l m : List Net) (hl : szl Net.sz l ≤ Big) : Tells (l_eqNetS l m) (l = m) := by
  unfold l_eqNetS
  exact gEqS (fun n i => l_eqNetS_l1 n l m i) l_eqNet l m (fun n i => by rw [l_eqNetS_l1]) (by have := szl_len Net.sz l; omega) fun x hx y _ => eqNet_tells x y (by have := szl_mem (s := Net.sz) hx; omega)
theorem szNetS_e (l : List Net) (h : oksC (slD Net.ds l)) (left : Nat) (h1 : left ≤ 1048576) : l_szNetS l left = some (szr (szl Net.sz l) left) := by
  simp only [slD, oksC, D.ok, List.length_map] at h
  first | exact szNetS_eq l h.1.1 (fun e he => Net.ok_of e (oksR_mem h.1.2 he)) left h1 | exact szNetS_eq l h.1 (fun e he => Net.ok_of e (oksR_mem h.2 he)) left h1
theorem markNetS_eq (l : List Net) (k : Nat) (h : szl Net.sz l ≤ Big) (hk : k + cnts Net.cnt l ≤ KB) : l_markNetS l (k : Int) = some (((k + cnts Net.cnt l : Nat) : Int), mks Net.mk1 Net.cnt k l) := by
  unfold l_markNetS
  refine gMark (fun n l k i => l_markNetS_l1 n l k i) Net.mk1 Net.cnt (fun x => x.sz ≤ Big) ?_ ?_ l k (fun x hx => by have := szl_mem (s := Net.sz) hx; omega) (by have := szl_len Net.sz l; omega) hk
  · intro n pre post x k hx hk hp
    have e : k + Net.cnt x = k + cnts Agent.cnt x.agents := by unfold Net.cnt; omega
    rw [e] at hk ⊢
    simp only [Net.sz] at hx
    rw [l_markNetS_l1, if_pos lt_mid]
    simp (disch := omega) only [at_mid, set_mid, bind_some', wk, wrap_len, markAgentS_eq]
    rfl
  · intro n l k; rw [l_markNetS_l1, if_neg (by rw [ge_len]; decide)]
theorem any_neg {α : Type} {l : List α} {p : α → Bool} : l.any (fun x => !p x) = !l.all p := by
  induction l with
  | nil => rfl
  | cons x l ih => simp [ih]
def templB (l : List Net) : Bool := decide (l.length ≤ 24) && l.all Net.valid
theorem containsNet (l : List Net) (f : Net → Option Bool) (p : Net → Bool) (hl : l.length ≤ Big) (hf : ∀ x ∈ l, f x = some (p x)) : g_ContainsFunc_simpl_Net l f = some (l.any p) := by
  obtain ⟨i, h1, h2, -⟩ := indexFunc_go g_IndexFunc_simpl_Net_l1 (fun n l i f => by rw [g_IndexFunc_simpl_Net_l1]) l f p hl hf
  unfold g_ContainsFunc_simpl_Net g_IndexFunc_simpl_Net
  rw [h1, bind_some']
  congr 1
  rw [Bool.eq_iff_iff, decide_eq_true_eq]; exact h2
theorem iTempl_eq (l : List Net) (hl : l.length ≤ Big) (hs : ∀ n ∈ l, n.Small) : i_ValidTemplates l = some (templB l) := by
  unfold i_ValidTemplates templB
  rw [containsNet l _ (fun n => !n.valid) hl (fun n hn => by unfold i_ValidTemplates_1; rw [iNet_eq n (hs n hn), bind_some']), any_neg, bind_some', Bool.not_not]
  have e : decide (((List.length l : Nat) : Int) ≤ 24) = decide (l.length ≤ 24) := by congr 1; exact propext (by omega)
  rw [e]
  cases decide (l.length ≤ 24) <;> simp
theorem sTempl_eq (l : List Net) (hl : l.length ≤ Big) (hs : ∀ n ∈ l, n.Small) : s_l13Book l = some (templB l) := by
  unfold s_l13Book templB
  rw [gAll (fun n i => s_l13Book_l1 n l i) s_l11Ok Net.valid l (fun n i => by rw [s_l13Book_l1]) hl fun n hn => sNet_eq n (hs n hn)]
  by_cases h : l.length ≤ 24
  · have e : ¬ (24 : Int) < ((List.length l : Nat) : Int) := by omega
    simp [e, h]
  · have e : (24 : Int) < ((List.length l : Nat) : Int) := by omega
    simp [e, h]

theorem EncodeTemplates_same' (l : List Net) (hb : szl (fun n : Net => szl wgt n.agents) l ≤ 1048576) : ∃ r, s_EncodeTemplates l = some r ∧ i_EncodeTemplates l = some r ∧ r.1.length ≤ Big := by
  have hw : ∀ n ∈ l, szl wgt n.agents ≤ 1048576 := fun n hn => by have := szl_mem (s := fun n : Net => szl wgt n.agents) hn; omega
  have hs : ∀ n ∈ l, n.Small := fun n hn => ⟨by have := szl_ports_wgt n.agents; have := hw n hn; unfold Big; omega, fun a ha => by have := szl_data_wgt n.agents a ha; have := hw n hn; unfold Big; omega⟩
  have hl : l.length ≤ Big := by have := szl_len (fun n : Net => szl wgt n.agents) l; unfold Big; omega
  unfold s_EncodeTemplates i_EncodeTemplates
  rw [sTempl_eq l hl hs, iTempl_eq l hl hs, bind_some', bind_some']
  cases hv : templB l with
  | false => exact ⟨([], 1), by simp, by simp, by simp⟩
  | true =>
    unfold templB at hv
    rw [Bool.and_eq_true, decide_eq_true_eq, List.all_eq_true] at hv
    obtain ⟨hlen, hall⟩ := hv
    simp only [Bool.not_true, Bool.false_eq_true, reduceIte]
    rw [sNum_eq _ _ (by omega) (by omega) (by simp [Big]), iNum_eq _ _ (by omega) (by omega) (by simp [Big]), bind_some', bind_some', List.nil_append]
    have hz := zig_len (n := (l.length : Int)) (by omega) (by omega)
    have loop : ∀ (post pre : List Net) (n : Nat) (a : List Int), l = pre ++ post → post.length + 1 ≤ n → a.length + 5 * post.length + 15 * szl (fun n : Net => szl wgt n.agents) post ≤ 16777300 →
        ∃ r, s_EncodeTemplates_l2 n l a ((List.length pre : Nat) : Int) = some r ∧ i_EncodeTemplates_l2 n l a ((List.length pre : Nat) : Int) = some r ∧ r.1.length ≤ Big := by
      intro post
      induction post with
      | nil =>
        intro pre n a h hn ha
        obtain ⟨n, rfl⟩ : ∃ m, n = m + 1 := ⟨n - 1, by omega⟩
        obtain ⟨r, h1, h2, h3⟩ := frame_same 2 a (by omega) (by omega) (by omega)
        rw [s_EncodeTemplates_l2, i_EncodeTemplates_l2, ge_app h, if_neg (by simp), if_neg (by simp), h1, h2]
        exact ⟨_, rfl, rfl, h3⟩
      | cons x post ihp =>
        intro pre n a h hn ha
        rw [List.length_cons] at hn ha
        simp only [szl] at ha
        obtain ⟨n, rfl⟩ : ∃ m, n = m + 1 := ⟨n - 1, by omega⟩
        have hx : x ∈ l := by rw [h]; simp
        obtain ⟨p1, p2, p3⟩ := putNet_same x (hw x hx) (hall x hx) a (by omega)
        obtain ⟨r, h1, h2, h3⟩ := ihp (pre ++ [x]) n (a ++ x.enc) (next_app h) (by omega) (by rw [List.length_append]; omega)
        refine ⟨r, ?_, ?_, h3⟩
        · rw [s_EncodeTemplates_l2, if_pos (lt_app h), at_app h, bind_some', p1, bind_some', wrap_app h hl, h1]
        · rw [i_EncodeTemplates_l2, if_pos (lt_app h), at_app h, bind_some', p2, bind_some', wrap_app h hl, h2]
    have hf : l.length + 1 ≤ fuel := by rw [fuel_eq]; omega
    exact loop l [] fuel _ (by simp) hf (by omega)
theorem EncodeTemplates_same (l : List Net) (hb : szl Net.sz l ≤ 1048576) : ∃ r, s_EncodeTemplates l = some r ∧ i_EncodeTemplates l = some r ∧ r.1.length ≤ Big :=
  EncodeTemplates_same' l hb
end Go.Proofs.Ytocpkbclcnjejaa.Ab
