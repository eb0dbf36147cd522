/-
  Redexes contracted at once: both sides, whole terms. No program is in sight.
-/
import Derived.Test.YtjdinbgcgbigoaaGreatPlDw
namespace Go.Proofs.YtjdinbgcgbigoaaGreat.Ab
set_option linter.unusedVariables false
set_option linter.unusedSimpArgs false
open Go.RowKit
theorem coreFits_fit (c : Core) (hs : c.Small) (hN : c.nodes ≤ Big) : i_coreFits c = some c.fit := coreFits_eq c hs hN
theorem l08Fits_eq (c : Core) (hs : c.Small) (hN : c.nodes ≤ Big) : s_l08Fits c = some c.fit := by
 unfold s_l08Fits
 have e := l08Left_eq c hs 400 fuel (by unfold Big; omega) (fuel_nodes hN)
 rw [show ((400 : Nat) : Int) = 400 from rfl] at e
 rw [e, bind_some', l06Depth_eq c hs hN fuel (fuel_nodes hN)]
 unfold Core.fit szr
 by_cases h : c.nodes ≤ 400
 ·rw [if_pos h, if_pos (by simp), bind_some']
  congr 1
  simp [h]
  omega
 ·rw [if_neg h, if_neg (by simp)]
  congr 1
  simp [h]
mutual
def Core.red : Core → Nat
 | ⟨k, v, d, ks⟩ => (if rk ⟨k, v, d, ks⟩ = 0 then 0 else 1) + Core.reds ks
def Core.reds : List Core → Nat
 | [] => 0
 | c :: cs => Core.red c + Core.reds cs
end
theorem Core.red_eq (c : Core) : c.red = (if rk c = 0 then 0 else 1) + Core.reds c.kids := by cases c; rw [Core.red]
mutual
theorem Core.red_le : ∀ c : Core, c.red ≤ c.nodes
 | ⟨k, v, d, ks⟩ => by
  rw [Core.red, Core.nodes]
  have := Core.reds_le ks
  split <;> omega
theorem Core.reds_le : ∀ l : List Core, Core.reds l ≤ Core.nodess l
 | [] => by simp [Core.reds]
 | c :: cs => by
  rw [Core.reds, Core.nodess]
  have := Core.red_le c
  have := Core.reds_le cs
  omega
end
theorem reds_append {x : Core} {post : List Core} : ∀ {pre : List Core}, Core.reds (pre ++ x :: post) = Core.reds pre + (x.red + Core.reds post)
 | [] => by rw [List.nil_append, Core.reds, Core.reds]; omega
 | c :: cs => by rw [List.cons_append, Core.reds, Core.reds, reds_append]; omega
theorem reds_snoc {x : Core} {pre : List Core} : Core.reds (pre ++ [x]) = Core.reds pre + x.red := by rw [reds_append, Core.reds]; omega
theorem nodess_app {x : Core} {post : List Core} : ∀ {pre : List Core}, Core.nodess (pre ++ x :: post) = Core.nodess pre + (x.nodes + Core.nodess post)
 | [] => by rw [List.nil_append, Core.nodess, Core.nodess]; omega
 | c :: cs => by rw [List.cons_append, Core.nodess, Core.nodess, nodess_app]; omega
theorem nodess_set {x : Core} : ∀ {l : List Core} {i : Nat}, Core.nodess (l.set i x) ≤ Core.nodess l + x.nodes
 | [], i => by simp [Core.nodess]
 | c :: cs, 0 => by rw [List.set_cons_zero, Core.nodess, Core.nodess]; omega
 | c :: cs, i + 1 => by
  rw [List.set_cons_succ, Core.nodess, Core.nodess]
  have := nodess_set (x := x) (l := cs) (i := i)
  omega
section
variable {E : Env}
theorem dvN_nodes (hE : EnvOk E) (c : Core) (hw : c.wf = true) (hn : ∀ x ∈ c.kids, x.kind = 11 → x.value < (E.defs.length : Int)) (m : Bool) (l : List Core) (hlen : l.length = c.kids.length) (hN : c.kids.length ≤ 400) (hln : Core.nodess l ≤ 400 * c.kids.length) (hfit : ∀ x ∈ l, x.wf = true ∧ x.fit = true) :
  (dvN E c m l).nodes ≤ Big := by
 obtain ⟨hno, hwk⟩ := nodeOk_of hw
 have hl := node_len hno
 have hkid : ∀ i, i < c.kids.length → kidC l i ∈ l := fun i hi => kidC_mem (by omega)
 have hnode : (⟨c.kind, c.value, c.data, l⟩ : Core).nodes ≤ Big := by rw [Core.nodes]; unfold Big; omega
 cases m with
 | false => rw [dvN_0 (by simp)]; exact hnode
 | true =>
  rcases rk_cases c with k | ⟨k, k1, k2⟩ | ⟨k, -⟩ | ⟨k, k1⟩ | ⟨k, k1, k2⟩
  ·rw [dvN_0 (by simp [k])]; exact hnode
  ·rw [dvN_1 k]
   have h2 := hl.1 (.inr k1)
   obtain ⟨w0, f0⟩ := hfit _ (hkid 0 (by omega))
   obtain ⟨w1, f1⟩ := hfit _ (hkid 1 (by omega))
   unfold Core.fit at f0 f1
   simp at f0 f1
   obtain ⟨no0, wk0⟩ := nodeOk_of w0
   have hn0 := f0.2
   rw [Core.nodes_eq] at hn0
   by_cases hz : 0 < (kidC l 0).kids.length
   ·have hmem : kidC (kidC l 0).kids 0 ∈ (kidC l 0).kids := kidC_mem hz
    have hnb := nodess_mem hmem
    have wb := wfs_mem hmem wk0
    have ho := Core.occ_le (kidC (kidC l 0).kids 0) 0
    have hpn := put_nodes (kidC l 1) w1 (kidC (kidC l 0).kids 0) 0 wb
    have hmul : (kidC (kidC l 0).kids 0).occ 0 * (kidC l 1).nodes ≤ 160000 := Nat.le_trans (Nat.mul_le_mul (show (kidC (kidC l 0).kids 0).occ 0 ≤ 400 by omega) f1.2) (by decide)
    unfold Big; omega
   ·have e : kidC (kidC l 0).kids 0 = noCore := by
     unfold kidC at hz ⊢
     rw [List.getD_eq_getElem?_getD, List.getElem?_eq_none (by omega)]; rfl
    rw [e, Core.mv_eq]
    have : noCore.kind = 0 := rfl
    rw [if_neg (by omega)]
    have : noCore.kids = [] := rfl
    rw [this, Core.mvs, Core.nodes, Core.nodess]
    unfold Big; omega
  ·rw [dvN_2 k, Core.nodes, Core.nodess]; unfold Big; omega
  ·rw [dvN_3 k]
   split
   ·rename_i h9
    have h1 := hl.2.1 (.inr (.inl h9))
    obtain ⟨w0, f0⟩ := hfit _ (hkid 0 (by omega))
    unfold Core.fit at f0
    simp at f0
    have hn0 := f0.2
    rw [Core.nodes_eq] at hn0
    unfold chosenC
    rw [chosen_nodes]
    have := len_nodess (kidC l 0).kids
    unfold refC
    rw [Core.nodes, Core.nodess]
    unfold Big; omega
   ·unfold refC
    rw [Core.nodes, Core.nodess]; unfold Big; omega
  ·rw [dvN_4 k, Core.nodes]
   obtain ⟨hf, hlt⟩ := rk_4 k hno
   have hmem := kidC_mem hlt
   have hv := hn _ hmem hf
   have hv0 := node_val (nodeOk_of (wfs_mem hmem hwk)).1 (.inr hf)
   have hdm : kidC E.defs (kidC c.kids (atC c)).value.toNat ∈ E.defs := kidC_mem (by omega)
   obtain ⟨d1, d2, d3, -⟩ := hE.defs _ hdm
   have := nodess_set (x := kidC E.defs (kidC c.kids (atC c)).value.toNat) (l := l) (i := atC c)
   unfold Big; omega
end
def allP : Nat → Bool := fun _ => true
section
variable {defs : List Core} {b : Book} (hb : b.defs = defs)
include hb
theorem iDevelop_eq (hE : EnvOk ⟨defs, opF⟩) : ∀ (c : Core), c.Small → c.wf = true → c.nodes ≤ 400 → c.anyC (names defs.length) = false → ∀ (A p n : Nat), A + c.depth ≤ 81 → c.above A = false → 16 * c.nodes ≤ n →
  ∃ x k ok, i_develop n b c = some (x, k, ok) ∧ (match c.dm ⟨defs, opF⟩ allP p with | some e => x = e ∧ k = (c.red : Int) ∧ ok = true | none => ok = false) := by
 refine Core.ind fun c ih hs hw hN hnm A p n hA ha hn => ?_
 have hs' := hs
 obtain ⟨_, hdl, hk, hf⟩ := hs'
 obtain ⟨hno, hwk⟩ := nodeOk_of hw
 have hN' := hN
 rw [Core.nodes_eq] at hn hN'
 have hA' := hA
 rw [Core.depth_eq] at hA'
 have hkl : c.kids.length ≤ 400 := by have := len_nodess c.kids; omega
 have hnk : ∀ x ∈ c.kids, x.kind = 11 → x.value < (defs.length : Int) := fun x hx hk => names_ref (names_kid hnm hx) hk
 obtain ⟨n, rfl⟩ : ∃ m, n = m + 1 := ⟨n - 1, by omega⟩
 have hclone : g_Clone_sint64 c.data = some c.data := by unfold g_Clone_sint64; rw [app_ok (by simpa using hdl)]; rfl
 rw [i_develop, hclone, bind_some']
 have loop : ∀ (post pre acc : List Core) (n i : Nat), c.kids = pre ++ post → pre.length = i → Core.dms ⟨defs, opF⟩ allP pre (p + 1) = some acc → acc.length = pre.length → 16 * Core.nodess post + 1 ≤ n → (post = [] ∨ Core.aboves c.kind post i A = false) →
   ∃ x k ok, i_develop_l2 n b c c.data acc ((Core.reds pre : Nat) : Int) ((List.length pre : Nat) : Int) = some (x, k, ok) ∧ (match c.dm ⟨defs, opF⟩ allP p with | some e => x = e ∧ k = (c.red : Int) ∧ ok = true | none => ok = false) := by
  intro post
  induction post with
  | nil =>
   intro pre acc n i h hi hacc hal hn _
   obtain ⟨n, rfl⟩ : ∃ m, n = m + 1 := ⟨n - 1, by omega⟩
   have hk0 : c.kids = pre := by rw [h, List.append_nil]
   rw [i_develop_l2, ge_app h, if_neg (by simp), iRedexKind_eq c hno, bind_some']
   rw [← hk0] at hacc hal ⊢
   obtain ⟨k1, k2, k3, k4, k5, k6⟩ := kids_dv hE c hw hnm A p hA ha (fun x hx hwx => dm_good hE x hwx (names_kid hnm hx)) hacc true
   have hNd := dvN_nodes hE c hw hnk true acc k1 hkl k2 k3
   have hsm := small_of_wf _ k5 hNd
   have j3 : ∀ q : Int, i_develop_j3 (dvN ⟨defs, opF⟩ c true acc).kind (dvN ⟨defs, opF⟩ c true acc).value (dvN ⟨defs, opF⟩ c true acc).data (dvN ⟨defs, opF⟩ c true acc).kids q = some (dvN ⟨defs, opF⟩ c true acc, q, (dvN ⟨defs, opF⟩ c true acc).fit) := fun q => by
    unfold i_develop_j3
    rw [core_eta, coreFits_fit _ hsm hNd]; rfl
   have fin : ∀ q : Int, q = (c.red : Int) → ∃ x k ok, some (dvN ⟨defs, opF⟩ c true acc, q, (dvN ⟨defs, opF⟩ c true acc).fit) = some (x, k, ok) ∧ (match c.dm ⟨defs, opF⟩ allP p with | some e => x = e ∧ k = (c.red : Int) ∧ ok = true | none => ok = false) := fun q hq => by
    refine ⟨_, _, _, rfl, ?_⟩
    rw [Core.dm_eq, hacc]
    show (match fitO (dvN ⟨defs, opF⟩ c true acc) with | some e => _ | none => _)
    unfold fitO
    cases hfit : (dvN ⟨defs, opF⟩ c true acc).fit with
    | true => rw [if_pos rfl]; exact ⟨rfl, hq, rfl⟩
    | false => rw [if_neg (by simp)]
   have hrl := Core.reds_le c.kids
   by_cases hr : rk c = 0
   ·rw [decide_eq_true hr, Bool.not_true, if_neg (by simp)]
    have e : dvN ⟨defs, opF⟩ c true acc = ⟨c.kind, c.value, c.data, acc⟩ := dvN_0 (by simp [hr])
    have j3' := j3 ((Core.reds c.kids : Nat) : Int)
    rw [e] at j3'
    dsimp only at j3'
    rw [j3', ← e]
    exact fin _ (by rw [Core.red_eq, if_pos hr]; simp)
   ·rw [decide_eq_false hr, Bool.not_false, if_pos rfl, iContract_eq hb hE c hw hnk acc k1 k3 k4 hr, bind_some', j3]
    exact fin _ (by rw [Core.red_eq, if_neg hr, w64 (by omega) (by omega)]; omega)
  | cons x post ihp =>
   intro pre acc n i h hi hacc hal hn hab
   replace hab := hab.resolve_left (by simp)
   rw [Core.aboves, Bool.or_eq_false_iff] at hab
   rw [Core.nodess] at hn
   have := x.nodes_pos
   obtain ⟨n, rfl⟩ : ∃ m, n = m + 1 := ⟨n - 1, by omega⟩
   have hx : x ∈ c.kids := by rw [h]; simp
   have hxd := kid_depth hx
   have hxn := nodess_mem hx
   have hbd := bnd_le c.kind i
   have hpl : pre.length + 1 ≤ c.kids.length := by rw [h]; simp
   obtain ⟨y, k, ok, h1, h2⟩ := ih x hx (hf x hx) (wfs_mem hx hwk) (by omega) (names_kid hnm hx) (A + bnd c.kind i) (p + 1 + Core.nodess pre) n (by omega) hab.1 (by omega)
   rw [i_develop_l2, if_pos (lt_app h), at_app h, bind_some', h1, bind_some']
   cases hxe : x.dm ⟨defs, opF⟩ allP (p + 1 + Core.nodess pre) with
   | none =>
    rw [hxe] at h2
    subst h2
    refine ⟨⟨0, 0, [], []⟩, 0, false, rfl, ?_⟩
    rw [Core.dm_eq, h, dms_append hacc, hxe]; rfl
   | some e =>
    rw [hxe] at h2
    obtain ⟨rfl, rfl, rfl⟩ := h2
    have hr1 := Core.reds_le pre
    have hr2 := Core.red_le x
    have hnn : Core.nodess c.kids = Core.nodess pre + (x.nodes + Core.nodess post) := by rw [h, nodess_app]
    rw [if_neg (by simp), app_ok (by unfold Big; simp; omega), bind_some', wrap_app h hk]
    dsimp only
    rw [w64 (by omega) (by omega)]
    have := ihp (pre ++ [x]) (acc ++ [y]) n (i + 1) (next_app h) (by simp [hi]) (dms_snoc hacc hxe) (by simp [hal]) (by omega) (.inr hab.2)
    rw [reds_snoc] at this
    rw [show ((Core.reds pre : Nat) : Int) + ((x.red : Nat) : Int) = ((Core.reds pre + x.red : Nat) : Int) by omega]
    exact this
 refine loop c.kids [] [] n 0 (by simp) rfl (by rw [Core.dms]) rfl (by omega) ?_
 by_cases h1 : c.kind = 1
 ·exact .inl (var_kids hno h1)
 ·rw [Core.above_eq, if_neg h1] at ha; exact .inr ha
theorem sTail_eq (hE : EnvOk ⟨defs, opF⟩) (c : Core) (hw : c.wf = true) (hnm : c.anyC (names defs.length) = false) (hN : c.nodes ≤ 400) (A p : Nat) (hA : A + c.depth ≤ 81) (ha : c.above A = false) {acc : List Core} (hacc : Core.dms ⟨defs, opF⟩ allP c.kids (p + 1) = some acc) (q : Int) :
  ∃ x, (if (decide (rk c = 1)) = true then (Option.bind (at? acc 0) fun v17001 => (Option.bind (at? v17001.kids 0) fun v17004 => (Option.bind (at? acc 1) fun v17006 => (Option.bind (s_l06Instance v17004 v17006) fun v17007 => (s_l08Develop_j4 q v17007.1.kind v17007.1.value v17007.1.data v17007.1.kids v17007.2))))) else (if (decide (rk c = 2)) = true then (Option.bind (at? c.kids 0) fun v19008 => (Option.bind (at? c.kids 1) fun v19015 => (Option.bind (s_Operate c.value v19008.value v19015.value) fun v19018 => (Option.bind (s_l06N v19018) fun v19019 => (s_l08Develop_j4 q v19019.kind v19019.value v19019.data v19019.kids 0))))) else (if (decide (rk c = 3)) = true then (Option.bind (at? acc 0) fun v21002 => (Option.bind (s_l08Chosen c v21002.kids) fun v21005 => (s_l08Develop_j4 q v21005.kind v21005.value v21005.data v21005.kids 0))) else (if (decide (rk c = 4)) = true then (Option.bind (s_l08Expand b c acc) fun v23003 => (s_l08Develop_j4 q v23003.kind v23003.value v23003.data v23003.kids 0)) else (s_l08Develop_j4 q c.kind c.value c.data acc 0)))))
   = some (x, (if (dvN ⟨defs, opF⟩ c true acc).fit = true then 0 else 4), q) ∧ ((dvN ⟨defs, opF⟩ c true acc).fit = true → x = dvN ⟨defs, opF⟩ c true acc) := by
 obtain ⟨hno, hwk⟩ := nodeOk_of hw
 have hl := node_len hno
 have hN' := hN
 rw [Core.nodes_eq] at hN'
 have hkl : c.kids.length ≤ 400 := by have := len_nodess c.kids; omega
 have hnk : ∀ x ∈ c.kids, x.kind = 11 → x.value < (defs.length : Int) := fun x hx hk => names_ref (names_kid hnm hx) hk
 obtain ⟨k1, k2, k3, k4, k5, k6⟩ := kids_dv hE c hw hnm A p hA ha (fun x hx hwx => dm_good hE x hwx (names_kid hnm hx)) hacc true
 have hNd := dvN_nodes hE c hw hnk true acc k1 hkl k2 k3
 have hsm := small_of_wf _ k5 hNd
 have j4 : s_l08Develop_j4 q (dvN ⟨defs, opF⟩ c true acc).kind (dvN ⟨defs, opF⟩ c true acc).value (dvN ⟨defs, opF⟩ c true acc).data (dvN ⟨defs, opF⟩ c true acc).kids 0 = some (dvN ⟨defs, opF⟩ c true acc, (if (dvN ⟨defs, opF⟩ c true acc).fit = true then 0 else 4), q) := by
  unfold s_l08Develop_j4 s_l08Develop_j5 s_l08Develop_j6
  rw [core_eta, decide_eq_true rfl, if_pos rfl, l08Fits_eq _ hsm hNd, bind_some']
  cases (dvN ⟨defs, opF⟩ c true acc).fit <;> rfl
 rcases rk_cases c with k | ⟨k, q1, q2⟩ | ⟨k, q1, q2, q3⟩ | ⟨k, q1⟩ | ⟨k, q1, q2⟩
 ·rw [k]
  have e : dvN ⟨defs, opF⟩ c true acc = ⟨c.kind, c.value, c.data, acc⟩ := dvN_0 (by simp [k])
  refine ⟨dvN ⟨defs, opF⟩ c true acc, ?_, fun _ => rfl⟩
  have j4' := j4
  rw [e] at j4'
  dsimp only at j4'
  rw [decide_eq_false (by omega), if_neg (by simp), decide_eq_false (by omega), if_neg (by simp), decide_eq_false (by omega), if_neg (by simp), decide_eq_false (by omega), if_neg (by simp), j4', ← e]
 ·have h2 := hl.1 (.inr q1)
  obtain ⟨w0, f0⟩ := k3 _ (kidC_mem (show 0 < acc.length by omega))
  obtain ⟨w1, f1⟩ := k3 _ (kidC_mem (show 1 < acc.length by omega))
  unfold Core.fit at f0 f1
  simp at f0 f1
  have hk4 : (kidC acc 0).kind = 4 := (k4 0 (by omega) (actK_no (by omega))).1.trans q2
  obtain ⟨no0, wk0⟩ := nodeOk_of w0
  have hl0' := (node_len no0).2.1 (.inl hk4)
  have hmem : kidC (kidC acc 0).kids 0 ∈ (kidC acc 0).kids := kidC_mem (by omega)
  have wb := wfs_mem hmem wk0
  have hnb := nodess_mem hmem
  have hdb := kid_depth hmem
  have hn0 := f0.2
  have hd0 := f0.1
  rw [Core.nodes_eq] at hn0
  rw [Core.depth_eq] at hd0
  have hsb := small_of_wf _ wb (by unfold Big; omega)
  have hs1 := small_of_wf _ w1 (by unfold Big; omega)
  have hng := not_great _ k5
  rw [dvN_1 k] at j4 hng ⊢
  rw [k, decide_eq_true rfl, if_pos rfl, at_kidC0 (by omega), bind_some', at_kidC0 (by omega), bind_some', at_kidC1 (by omega), bind_some', l06Instance_eq _ _ hsb hs1 wb w1 (by omega) (by omega) f1.1 f1.2, bind_some', hng]
  by_cases hf : ((kidC (kidC acc 0).kids 0).mv (putF (kidC acc 1)) 0).depth ≤ 80 ∧ ((kidC (kidC acc 0).kids 0).mv (putF (kidC acc 1)) 0).nodes ≤ 400
  ·rw [if_pos hf, if_neg (by simp)]
   exact ⟨_, j4, fun _ => rfl⟩
  ·have hf' : ((kidC (kidC acc 0).kids 0).mv (putF (kidC acc 1)) 0).fit = false := by unfold Core.fit; exact decide_eq_false hf
   rw [if_neg hf, hf', if_neg (by simp)]
   exact ⟨noCore, rfl, fun h => by cases h⟩
 ·have h2 := hl.1 (.inl q1)
  refine ⟨dvN ⟨defs, opF⟩ c true acc, ?_, fun _ => rfl⟩
  rw [k, decide_eq_false (by omega), if_neg (by simp), decide_eq_true rfl, if_pos rfl, at_kidC0 (by omega), bind_some', at_kidC1 (by omega), bind_some', sOperate_eq, bind_some']
  unfold s_l06N
  rw [bind_some', ← j4, dvN_2 k]
 ·have h0 := act_len hno (rk_kind (c := c) (by omega))
  obtain ⟨w0, f0⟩ := k3 _ (kidC_mem (show 0 < acc.length by omega))
  unfold Core.fit at f0
  simp at f0
  obtain ⟨-, -, hk0, -⟩ := small_of_wf _ w0 (by unfold Big; omega)
  refine ⟨dvN ⟨defs, opF⟩ c true acc, ?_, fun _ => rfl⟩
  have hch := sChosen_eq (defs := defs) c hw acc k1 hk0 k
  rw [k, decide_eq_false (by omega), if_neg (by simp), decide_eq_false (by omega), if_neg (by simp), decide_eq_true rfl, if_pos rfl, at_kidC0 (by omega), bind_some', hch, bind_some', j4]
 ·have hex := sExpand_eq hb c hw hnk acc k1 k
  refine ⟨dvN ⟨defs, opF⟩ c true acc, ?_, fun _ => rfl⟩
  rw [k, decide_eq_false (by omega), if_neg (by simp), decide_eq_false (by omega), if_neg (by simp), decide_eq_false (by omega), if_neg (by simp), decide_eq_true rfl, if_pos rfl, hex, bind_some', j4]
theorem sDevelop_eq (hE : EnvOk ⟨defs, opF⟩) : ∀ (c : Core), c.Small → c.wf = true → c.nodes ≤ 400 → c.anyC (names defs.length) = false → ∀ (A p n q : Nat), A + c.depth ≤ 81 → c.above A = false → 16 * c.nodes ≤ n → q + c.nodes ≤ Big →
  ∃ x code at', s_l08Develop n b c (q : Int) = some (x, code, at') ∧ (match c.dm ⟨defs, opF⟩ allP p with | some e => x = e ∧ code = 0 ∧ at' = ((q + c.red : Nat) : Int) | none => code = 4) := by
 refine Core.ind fun c ih hs hw hN hnm A p n q hA ha hn hq => ?_
 have hs' := hs
 obtain ⟨_, hdl, hk, hf⟩ := hs'
 obtain ⟨hno, hwk⟩ := nodeOk_of hw
 have hN' := hN
 rw [Core.nodes_eq] at hn hN' hq
 have hA' := hA
 rw [Core.depth_eq] at hA'
 have hBig : Big ≤ 68719476736 := by unfold Big; omega
 have hkl : c.kids.length ≤ 400 := by have := len_nodess c.kids; omega
 obtain ⟨n, rfl⟩ : ∃ m, n = m + 1 := ⟨n - 1, by omega⟩
 obtain ⟨n, rfl⟩ : ∃ m, n = m + 1 := ⟨n - 1, by omega⟩
 obtain ⟨q0, hq0, hq0'⟩ : ∃ q0 : Nat, q0 = q + (if rk c = 0 then 0 else 1) ∧ q0 ≤ q + 1 := ⟨_, rfl, by split <;> omega⟩
 have loop : ∀ (post pre acc : List Core) (n i : Nat), c.kids = pre ++ post → pre.length = i → Core.dms ⟨defs, opF⟩ allP pre (p + 1) = some acc → acc.length = pre.length → 16 * Core.nodess post + 1 ≤ n → (post = [] ∨ Core.aboves c.kind post i A = false) →
   ∃ x code at', s_l08Develop_l3 n b c (rk c) ((q0 + Core.reds pre : Nat) : Int) acc ((List.length pre : Nat) : Int) = some (x, code, at') ∧ (match c.dm ⟨defs, opF⟩ allP p with | some e => x = e ∧ code = 0 ∧ at' = ((q + c.red : Nat) : Int) | none => code = 4) := by
  intro post
  induction post with
  | nil =>
   intro pre acc n i h hi hacc hal hn _
   obtain ⟨n, rfl⟩ : ∃ m, n = m + 1 := ⟨n - 1, by omega⟩
   have hk0 : c.kids = pre := by rw [h, List.append_nil]
   rw [s_l08Develop_l3, ge_app h, if_neg (by simp)]
   rw [← hk0] at hacc hal ⊢
   obtain ⟨x, t1, t2⟩ := sTail_eq hb hE c hw hnm hN A p hA ha hacc ((q0 + Core.reds c.kids : Nat) : Int)
   refine ⟨_, _, _, t1, ?_⟩
   rw [Core.dm_eq, hacc]
   show (match fitO (dvN ⟨defs, opF⟩ c true acc) with | some e => _ | none => _)
   unfold fitO
   cases hfit : (dvN ⟨defs, opF⟩ c true acc).fit with
   | true =>
    rw [if_pos rfl]
    refine ⟨t2 hfit, rfl, ?_⟩
    rw [Core.red_eq, hq0]
    omega
   | false => rw [if_neg (by simp)]; rfl
  | cons x post ihp =>
   intro pre acc n i h hi hacc hal hn hab
   replace hab := hab.resolve_left (by simp)
   rw [Core.aboves, Bool.or_eq_false_iff] at hab
   rw [Core.nodess] at hn
   have := x.nodes_pos
   obtain ⟨n, rfl⟩ : ∃ m, n = m + 1 := ⟨n - 1, by omega⟩
   have hx : x ∈ c.kids := by rw [h]; simp
   have hxd := kid_depth hx
   have hxn := nodess_mem hx
   have hbd := bnd_le c.kind i
   have hpl : pre.length + 1 ≤ c.kids.length := by rw [h]; simp
   have hr1 := Core.reds_le pre
   have hr2 := Core.red_le x
   have hnn : Core.nodess c.kids = Core.nodess pre + (x.nodes + Core.nodess post) := by rw [h, nodess_app]
   obtain ⟨y, code, at', h1, h2⟩ := ih x hx (hf x hx) (wfs_mem hx hwk) (by omega) (names_kid hnm hx) (A + bnd c.kind i) (p + 1 + Core.nodess pre) n (q0 + Core.reds pre) (by omega) hab.1 (by omega) (by omega)
   rw [s_l08Develop_l3, if_pos (lt_app h), at_app h, bind_some', h1, bind_some']
   cases hxe : x.dm ⟨defs, opF⟩ allP (p + 1 + Core.nodess pre) with
   | none =>
    rw [hxe] at h2
    subst h2
    refine ⟨⟨0, 0, [], []⟩, 4, at', rfl, ?_⟩
    rw [Core.dm_eq, h, dms_append hacc, hxe]; rfl
   | some e =>
    rw [hxe] at h2
    obtain ⟨rfl, rfl, rfl⟩ := h2
    rw [if_neg (by simp), app_ok (by unfold Big; simp; omega), bind_some', wrap_app h hk]
    have := ihp (pre ++ [x]) (acc ++ [y]) n (i + 1) (next_app h) (by simp [hi]) (dms_snoc hacc hxe) (by simp [hal]) (by omega) (.inr hab.2)
    rw [reds_snoc] at this
    rw [show q0 + Core.reds pre + x.red = q0 + (Core.reds pre + x.red) by omega]
    exact this
 rw [s_l08Develop, sKind_eq c hno, bind_some']
 have go : s_l08Develop_j1 (n + 1) b c (rk c) ((q0 : Nat) : Int) = s_l08Develop_l3 n b c (rk c) ((q0 + Core.reds [] : Nat) : Int) [] ((List.length ([] : List Core) : Nat) : Int) := by
  rw [s_l08Develop_j1, Core.reds]; rfl
 have hend := loop c.kids [] [] n 0 (by simp) rfl (by rw [Core.dms]) rfl (by omega) (by
  by_cases h1 : c.kind = 1
  ·exact .inl (var_kids hno h1)
  ·rw [Core.above_eq, if_neg h1] at ha; exact .inr ha)
 by_cases hr : rk c = 0
 ·rw [decide_eq_true hr, Bool.not_true, if_neg (by simp)]
  rw [if_pos hr] at hq0
  rw [show ((q : Nat) : Int) = ((q0 : Nat) : Int) by omega, go]
  exact hend
 ·rw [decide_eq_false hr, Bool.not_false, if_pos rfl]
  rw [if_neg hr] at hq0
  rw [w64 (by omega) (by omega), show ((q : Nat) : Int) + 1 = ((q0 : Nat) : Int) by omega, go]
  exact hend
end
end Go.Proofs.YtjdinbgcgbigoaaGreat.Ab
