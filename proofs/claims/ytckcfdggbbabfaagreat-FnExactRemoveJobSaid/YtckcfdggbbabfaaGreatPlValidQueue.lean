/-
  Valid queues: both sides hold the same. No program is in sight.
-/
import Derived.Test.YtckcfdggbbabfaaGreatPlNet
namespace Go.Proofs.YtckcfdggbbabfaaGreat.Ab
set_option linter.unusedVariables false
set_option linter.unusedSimpArgs false
open Go.RowKit
def cntB (x : Int) : Bool := decide (0 ≤ x ∧ x ≤ 1000000000)
def countsB (l : List Int) : Bool := decide (l.length = 7) && l.all cntB
def schB (x : Int) : Bool := decide (0 ≤ x ∧ x ≤ 600)
def schedB (l : List Int) : Bool := decide (l.length ≤ 200) && l.all schB
theorem any_neg {α : Type} {l : List α} {p : α → Bool} : l.any (fun x => !p x) = !l.all p := by
 induction l with
 | nil => rfl
 | cons x l ih => simp [ih]
theorem range_any (x m : Int) : (if decide (x < 0) = true then some true else some (decide (m < x))) = some (!decide (0 ≤ x ∧ x ≤ m)) := by
 by_cases h : x < 0
 ·have : ¬ (0 ≤ x ∧ x ≤ m) := by omega
  simp [h, this]
 ·by_cases h2 : m < x
  ·have : ¬ (0 ≤ x ∧ x ≤ m) := by omega
   simp [h, h2, this]
  ·have : 0 ≤ x ∧ x ≤ m := by omega
   simp [h, h2, this]
theorem iCounts_eq (l : List Int) (hl : l.length ≤ Big) : i_ValidCounts l = some (countsB l) := by
 unfold i_ValidCounts countsB
 rw [containsInt l _ (fun x => !cntB x) hl (fun x _ => by unfold i_ValidCounts_1 cntB; exact range_any x _), any_neg, bind_some', Bool.not_not]
 have e : decide (((List.length l : Nat) : Int) = 7) = decide (l.length = 7) := by congr 1; exact propext (by omega)
 rw [e]
 cases decide (l.length = 7) <;> simp
theorem iSched_eq (l : List Int) (hl : l.length ≤ Big) : i_ValidSchedule l = some (schedB l) := by
 unfold i_ValidSchedule schedB
 rw [containsInt l _ (fun x => !schB x) hl (fun x _ => by unfold i_ValidSchedule_1 schB; exact range_any x _), any_neg, bind_some', Bool.not_not]
 have e : decide (((List.length l : Nat) : Int) ≤ 200) = decide (l.length ≤ 200) := by congr 1; exact propext (by omega)
 rw [e]
 cases decide (l.length ≤ 200) <;> simp
theorem sCounts_eq (l : List Int) (hl : l.length ≤ Big) : s_l15Counts l = some (countsB l) := by
 have loop : ∀ (post pre : List Int) (n : Nat), l = pre ++ post → post.length < n → s_l15Counts_l1 n l ((List.length pre : Nat) : Int) = some (post.all cntB && decide (l.length = 7)) := by
  intro post
  induction post with
  | nil =>
   intro pre n h hn
   obtain ⟨n, rfl⟩ : ∃ m, n = m + 1 := ⟨n - 1, by omega⟩
   have e : decide (((List.length l : Nat) : Int) = 7) = decide (l.length = 7) := by congr 1; exact propext (by omega)
   rw [s_l15Counts_l1, ge_app h, if_neg (by simp), e]; simp
  | cons x post ih =>
   intro pre n h hn
   obtain ⟨n, rfl⟩ : ∃ m, n = m + 1 := ⟨n - 1, by omega⟩
   rw [s_l15Counts_l1, if_pos (lt_app h), at_app h, bind_some', l00In_eq, bind_some', wrap_app h hl, ih (pre ++ [x]) n (next_app h) (by simp at hn; omega), List.all_cons, cntB]
   cases decide (0 ≤ x ∧ x ≤ 1000000000) <;> simp
 unfold s_l15Counts countsB
 rw [Bool.and_comm]
 exact loop l [] fuel rfl (by rw [fuel_eq]; unfold Big at hl; omega)
theorem sSched_eq (l : List Int) (hl : l.length ≤ Big) : s_l15Schedule l = some (schedB l) := by
 unfold s_l15Schedule schedB
 rw [gAll (fun n i => s_l15Schedule_l1 n l i) (fun x => s_l00In x 0 600) schB l (fun n i => by rw [s_l15Schedule_l1]) hl fun x _ => l00In_eq x 0 600]
 by_cases h : l.length ≤ 200
 ·have e : ¬ (200 : Int) < ((List.length l : Nat) : Int) := by omega
  simp [e, h]
 ·have e : (200 : Int) < ((List.length l : Nat) : Int) := by omega
  simp [e, h]
def templB (l : List Net) : Bool := decide (l.length ≤ 24) && l.all Net.valid
theorem containsNet (l : List Net) (f : Net → Option Bool) (p : Net → Bool) (hl : l.length ≤ Big) (hf : ∀ x ∈ l, f x = some (p x)) : g_ContainsFunc_simpl_Net l f = some (l.any p) := by
 obtain ⟨i, h1, h2, -⟩ := indexFunc_go g_IndexFunc_simpl_Net_l1 (fun n l i f => by rw [g_IndexFunc_simpl_Net_l1]) l f p hl hf
 unfold g_ContainsFunc_simpl_Net g_IndexFunc_simpl_Net
 rw [h1, bind_some']
 congr 1
 rw [Bool.eq_iff_iff, decide_eq_true_eq]; exact h2
theorem iTempl_eq (l : List Net) (hl : l.length ≤ Big) (hs : ∀ n ∈ l, n.Small) : i_ValidTemplates l = some (templB l) := by
 unfold i_ValidTemplates templB
 rw [containsNet l _ (fun n => !n.valid) hl (fun n hn => by unfold i_ValidTemplates_1; rw [iNet_eq n (hs n hn), bind_some']), any_neg, bind_some', Bool.not_not]
 have e : decide (((List.length l : Nat) : Int) ≤ 24) = decide (l.length ≤ 24) := by congr 1; exact propext (by omega)
 rw [e]
 cases decide (l.length ≤ 24) <;> simp
theorem sTempl_eq (l : List Net) (hl : l.length ≤ Big) (hs : ∀ n ∈ l, n.Small) : s_l13Book l = some (templB l) := by
 unfold s_l13Book templB
 rw [gAll (fun n i => s_l13Book_l1 n l i) s_l11Ok Net.valid l (fun n i => by rw [s_l13Book_l1]) hl fun n hn => sNet_eq n (hs n hn)]
 by_cases h : l.length ≤ 24
 ·have e : ¬ (24 : Int) < ((List.length l : Nat) : Int) := by omega
  simp [e, h]
 ·have e : (24 : Int) < ((List.length l : Nat) : Int) := by omega
  simp [e, h]
def total : List Int → Int
 | [] => 0
 | x :: l => x + total l
theorem total_le : ∀ {l : List Int}, l.all cntB = true → 0 ≤ total l ∧ total l ≤ 1000000000 * (l.length : Int)
 | [], _ => by simp [total]
 | x :: l, h => by
  simp only [List.all_cons, Bool.and_eq_true, cntB, decide_eq_true_eq] at h
  have := total_le (l := l) (by simpa [cntB] using h.2)
  simp only [total, List.length_cons]
  omega
theorem total_app : ∀ (a b : List Int), total (a ++ b) = total a + total b
 | [], b => by simp [total]
 | x :: a, b => by simp only [List.cons_append, total, total_app a b]; omega
theorem sum_loop (L : Nat → List Int → Int → Int → Option Int) (hL : ∀ n l a i, L (n + 1) l a i = (if (decide (i < ((List.length l : Nat) : Int))) = true then (Option.bind (at? l i) fun v => (L n l (IntKind.i64.wrap (a + v)) (IntKind.i64.wrap (i + 1)))) else (some a)))
  (l : List Int) (h : countsB l = true) : L fuel l 0 0 = some (total l) := by
 simp only [countsB, Bool.and_eq_true, decide_eq_true_eq] at h
 obtain ⟨h7, hc⟩ := h
 have hl : l.length ≤ Big := by unfold Big; omega
 have loop : ∀ (post pre : List Int) (n : Nat), l = pre ++ post → post.length < n → L n l (total pre) ((List.length pre : Nat) : Int) = some (total l) := by
  intro post
  induction post with
  | nil =>
   intro pre n e hn
   obtain ⟨n, rfl⟩ : ∃ m, n = m + 1 := ⟨n - 1, by omega⟩
   rw [hL, ge_app e, e]; simp
  | cons x post ih =>
   intro pre n e hn
   obtain ⟨n, rfl⟩ : ∃ m, n = m + 1 := ⟨n - 1, by omega⟩
   have e2 := next_app e
   have hpre : (pre ++ [x]).all cntB = true := by
    rw [e2, List.all_append, Bool.and_eq_true] at hc; exact hc.1
   have hlen : (pre ++ [x]).length ≤ 7 := by rw [← h7, e2]; simp
   have ht := total_le hpre
   have hx : total (pre ++ [x]) = total pre + x := by rw [total_app]; simp [total]
   have hw : IntKind.i64.wrap (total pre + x) = total (pre ++ [x]) := by rw [hx, w64 (by omega) (by omega)]
   rw [hL, if_pos (lt_app e), at_app e, bind_some', hw, wrap_app e hl]
   exact ih (pre ++ [x]) n e2 (by simp at hn; omega)
 exact loop l [] fuel rfl (by rw [fuel_eq]; omega)
theorem sSum_eq (l : List Int) (h : countsB l = true) : s_l34Sum l = some (total l) := by
 unfold s_l34Sum
 exact sum_loop s_l34Sum_l1 (fun n l a i => by rw [s_l34Sum_l1]) l h
theorem iTotal_eq (l : List Int) (h : countsB l = true) (hl : l.length ≤ Big) : i_TotalCounts l = some (total l) := by
 unfold i_TotalCounts
 rw [iCounts_eq l hl, h, bind_some', Bool.not_true, if_neg (by simp)]
 exact sum_loop i_TotalCounts_l1 (fun n l a i => by rw [i_TotalCounts_l1]) l h
theorem counts_total {l : List Int} (h : countsB l = true) : 0 ≤ total l ∧ total l ≤ 7000000000 := by
 simp only [countsB, Bool.and_eq_true, decide_eq_true_eq] at h
 have := total_le h.2
 rw [h.1] at this
 omega
theorem atMost1 (m x : Int) : i_atMost m [x] = some (decide (0 ≤ x ∧ x ≤ m)) := by
 unfold i_atMost
 rw [containsInt [x] _ (fun x => !decide (0 ≤ x ∧ x ≤ m)) (by unfold Big; simp) (fun x _ => by unfold i_atMost_1; exact range_any x m), bind_some']
 simp
def contentsB (j : Job) : Bool :=
 if j.state = 1 then schedB j.schedule && templB j.book && j.net.valid
 else decide (j.schedule.length = 0) && decide (j.book.length = 0) && if j.state = 2 then j.net.valid else decide (j.net.agents.length = 0)
def jobB (j : Job) : Bool :=
 decide (1 ≤ j.weight ∧ j.weight ≤ 4) && (decide (1 ≤ j.state ∧ j.state ≤ 4) && (decide (0 ≤ j.left ∧ j.left ≤ 4000) && (countsB j.counts && (decide (total j.counts + j.left ≤ 4000) && (decide (0 ≤ j.slices ∧ j.slices ≤ total j.counts + if j.state = 1 then 0 else 1) && (decide (0 ≤ j.code ∧ j.code ≤ 14) && (((decide (j.state = 3)) == !decide (j.code = 0)) && contentsB j)))))))
structure Job.Small (j : Job) : Prop where
 counts : j.counts.length ≤ Big
 schedule : j.schedule.length ≤ Big
 book : j.book.length ≤ Big
 nets : ∀ n ∈ j.book, n.Small
 net : j.net.Small
theorem sCont_eq (j : Job) (h : j.Small) : s_l34Job_j1 j false = some (contentsB j) := by
 unfold s_l34Job_j1 s_l34Job_j2 contentsB
 rw [if_neg (by simp), sSched_eq _ h.schedule, sTempl_eq _ h.book h.nets, sNet_eq _ h.net]
 by_cases h1 : j.state = 1
 ·rw [decide_eq_true h1, if_pos rfl, if_pos h1]
  cases schedB j.schedule <;> cases templB j.book <;> simp
 ·rw [decide_eq_false h1, if_neg (by simp), if_neg h1]
  by_cases h2 : j.schedule.length = 0
  ·have e2 : ¬ (0 : Int) < ((List.length j.schedule : Nat) : Int) := by omega
   by_cases h3 : j.book.length = 0
   ·have e3 : ¬ (0 : Int) < ((List.length j.book : Nat) : Int) := by omega
    by_cases h4 : j.state = 2
    ·simp [e2, e3, h2, h3, h4]
    ·have e5 : (((List.length j.net.agents : Nat) : Int) = 0) ↔ j.net.agents.length = 0 := by omega
     simp [e2, e3, h2, h3, h4, s_l34NoNet]
   ·have e3 : (0 : Int) < ((List.length j.book : Nat) : Int) := by omega
    simp [e2, e3, h2, h3]
  ·have e2 : (0 : Int) < ((List.length j.schedule : Nat) : Int) := by omega
   simp [e2, h2]
theorem iCont_eq (j : Job) (h : j.Small) : i_Job_contentsOk j = some (contentsB j) := by
 unfold i_Job_contentsOk contentsB
 rw [iSched_eq _ h.schedule, iTempl_eq _ h.book h.nets, iNet_eq _ h.net]
 by_cases h1 : j.state = 1
 ·rw [decide_eq_true h1, if_pos rfl, if_pos h1]
  cases schedB j.schedule <;> cases templB j.book <;> simp
 ·have h1' := h.schedule
  have h2' := h.book
  rw [decide_eq_false h1, if_neg (by simp), if_neg h1, w64 (by omega) (by unfold Big at h1' h2'; omega)]
  by_cases h2 : j.schedule.length = 0 ∧ j.book.length = 0
  ·have e2 : ¬ (0 : Int) < ((List.length j.schedule : Nat) : Int) + ((List.length j.book : Nat) : Int) := by omega
   rw [decide_eq_false e2, if_neg (by simp), decide_eq_true h2.1, decide_eq_true h2.2]
   by_cases h4 : j.state = 2
   ·simp [h4]
   ·simp [h4, i_isEmptyNet]
  ·have e2 : (0 : Int) < ((List.length j.schedule : Nat) : Int) + ((List.length j.book : Nat) : Int) := by omega
   rw [decide_eq_true e2, if_pos rfl]
   by_cases h3 : j.schedule.length = 0
   ·have h4 : ¬ j.book.length = 0 := fun h4 => h2 ⟨h3, h4⟩
    simp [h4]
   ·simp [h3]
theorem sMost_eq (j : Job) (h : countsB j.counts = true) : s_l34Most j = some (total j.counts + if j.state = 1 then 0 else 1) := by
 have ht := counts_total h
 unfold s_l34Most
 rw [sSum_eq _ h]
 by_cases h1 : j.state = 1
 ·simp [h1]
 ·simp only [h1, decide_false, Bool.false_eq_true, reduceIte, bind_some']
  rw [w64 (by omega) (by omega)]
theorem sJob_eq (j : Job) (h : j.Small) : s_l34Job j = some (jobB j) := by
 have ht : s_l34Job_j1 j true = some false := by rw [s_l34Job_j1, if_pos rfl]
 have hb : ∀ b, s_l34Job_j1 j (!b) = some (b && contentsB j) := fun b => by
  cases b
  ·rw [Bool.not_false, ht]; rfl
  ·rw [Bool.not_true, sCont_eq j h]; rfl
 unfold s_l34Job jobB
 rw [l00In_eq, bind_some', ht, hb]
 cases decide (1 ≤ j.weight ∧ j.weight ≤ 4) with
 | false => rfl
 | true =>
  rw [Bool.not_true, if_neg (by simp), Bool.true_and, l00In_eq, bind_some']
  cases decide (1 ≤ j.state ∧ j.state ≤ 4) with
  | false => rfl
  | true =>
   rw [Bool.not_true, if_neg (by simp), Bool.true_and, l00In_eq, bind_some']
   cases hl : decide (0 ≤ j.left ∧ j.left ≤ 4000) with
   | false => rfl
   | true =>
    rw [Bool.not_true, if_neg (by simp), Bool.true_and, sCounts_eq _ h.counts, bind_some']
    cases hc : countsB j.counts with
    | false => rfl
    | true =>
     have hct := counts_total hc
     have hl' := of_decide_eq_true hl
     rw [Bool.not_true, if_neg (by simp), Bool.true_and, sSum_eq _ hc, bind_some', sMost_eq j hc, bind_some', w64 (by omega) (by omega), l00In_eq, bind_some', l00In_eq, bind_some']
     by_cases h4 : total j.counts + j.left ≤ 4000
     ·have e4 : ¬ 4000 < total j.counts + j.left := by omega
      rw [decide_eq_false e4, if_neg (by simp), decide_eq_true h4, Bool.true_and]
      cases decide (0 ≤ j.slices ∧ j.slices ≤ total j.counts + if j.state = 1 then 0 else 1) <;> cases decide (0 ≤ j.code ∧ j.code ≤ 14) <;> rfl
     ·have e4 : 4000 < total j.counts + j.left := by omega
      rw [decide_eq_true e4, if_pos rfl, decide_eq_false h4]; rfl
theorem iJob1_eq (j : Job) (h : j.Small) (hc : countsB j.counts = true) (hl : 0 ≤ j.left ∧ j.left ≤ 4000) : i_validJob_j1 j false = some (decide (total j.counts + j.left ≤ 4000) && (decide (0 ≤ j.slices ∧ j.slices ≤ total j.counts + if j.state = 1 then 0 else 1) && (decide (0 ≤ j.code ∧ j.code ≤ 14) && (((decide (j.state = 3)) == !decide (j.code = 0)) && contentsB j)))) := by
 have hct := counts_total hc
 have h2 : ∀ b, i_validJob_j2 j (!b) = some (b && contentsB j) := fun b => by
  cases b
  ·rw [Bool.not_false, i_validJob_j2, if_pos rfl]; rfl
  ·rw [Bool.not_true, i_validJob_j2, if_neg (by simp), iCont_eq j h, bind_some']; rfl
 have h2t : i_validJob_j2 j true = some false := h2 false
 have hv : i_truth (!decide (j.state = 1)) = some (if j.state = 1 then 0 else 1) := by
  unfold i_truth
  by_cases h1 : j.state = 1 <;> simp [h1]
 have hw : IntKind.i64.wrap (total j.counts + if j.state = 1 then 0 else 1) = total j.counts + if j.state = 1 then 0 else 1 := w64 (by split <;> omega) (by split <;> omega)
 unfold i_validJob_j1
 rw [if_neg (by simp), iTotal_eq _ hc h.counts, bind_some', hv, bind_some', w64 (by omega) (by omega), hw, atMost1, bind_some', atMost1, bind_some', h2, h2t]
 have hcode : (decide (j.code = 0) == !decide (j.state = 3)) = (decide (j.state = 3) == !decide (j.code = 0)) := by
  cases decide (j.code = 0) <;> cases decide (j.state = 3) <;> rfl
 rw [hcode]
 by_cases h4 : total j.counts + j.left ≤ 4000
 ·have e4 : ¬ 4000 < total j.counts + j.left := by omega
  rw [decide_eq_false e4, if_neg (by simp), decide_eq_true h4, Bool.true_and]
  cases decide (0 ≤ j.slices ∧ j.slices ≤ total j.counts + if j.state = 1 then 0 else 1) <;> cases decide (0 ≤ j.code ∧ j.code ≤ 14) <;> rfl
 ·have e4 : 4000 < total j.counts + j.left := by omega
  rw [decide_eq_true e4, if_pos rfl, decide_eq_false h4]; rfl
theorem iJob_eq (j : Job) (h : j.Small) : i_validJob j = some (jobB j) := by
 have ht : i_validJob_j1 j true = some false := by rw [i_validJob_j1, if_pos rfl]
 unfold i_validJob jobB
 rw [ht, atMost1, bind_some', iCounts_eq _ h.counts, bind_some']
 by_cases hw : 1 ≤ j.weight ∧ j.weight ≤ 4
 ·have e1 : ¬ j.weight < 1 := by omega
  have e2 : ¬ 4 < j.weight := by omega
  rw [decide_eq_false e1, if_neg (by simp), decide_eq_false e2, if_neg (by simp), decide_eq_true hw, Bool.true_and]
  by_cases hs : 1 ≤ j.state ∧ j.state ≤ 4
  ·have e3 : ¬ j.state < 1 := by omega
   have e4 : ¬ 4 < j.state := by omega
   rw [decide_eq_false e3, if_neg (by simp), decide_eq_false e4, if_neg (by simp), decide_eq_true hs, Bool.true_and]
   cases hl : decide (0 ≤ j.left ∧ j.left ≤ 4000) with
   | false => rfl
   | true =>
    rw [Bool.not_true, if_neg (by simp), Bool.true_and]
    cases hc : countsB j.counts with
    | false => rw [Bool.not_false, ht]; rfl
    | true => rw [Bool.not_true, iJob1_eq j h hc (of_decide_eq_true hl), Bool.true_and]
  ·rw [decide_eq_false hs]
   by_cases e3 : j.state < 1
   ·simp [e3]
   ·have e4 : 4 < j.state := by omega
    simp [e3, e4]
 ·rw [decide_eq_false hw]
  by_cases e1 : j.weight < 1
  ·simp [e1]
  ·have e2 : 4 < j.weight := by omega
   simp [e1, e2]
def jobsB (nid : Int) : Int → List Job → Bool
 | _, [] => true
 | prev, j :: l => (decide (prev + 1 ≤ j.id ∧ j.id ≤ nid - 1) && jobB j) && jobsB nid j.id l
def queueB (q : Queue) : Bool :=
 decide (1 ≤ q.quantum ∧ q.quantum ≤ 50) && (decide (1 ≤ q.nextId ∧ q.nextId ≤ 1000000000) && (decide (q.jobs.length ≤ 6) && (decide (0 ≤ q.turn ∧ q.turn ≤ if (q.jobs.length : Int) - 1 < 0 then 0 else (q.jobs.length : Int) - 1) && jobsB q.nextId 0 q.jobs)))
theorem sJobs_loop (q : Queue) (hl : q.jobs.length ≤ Big) (hs : ∀ j ∈ q.jobs, j.Small) (hn : 1 ≤ q.nextId ∧ q.nextId ≤ 1000000000) : ∀ (post pre : List Job) (prev : Int) (n : Nat), q.jobs = pre ++ post → 0 ≤ prev → prev ≤ 1000000000 → 2 * post.length < n → s_l34Ok_l4 n q prev ((List.length pre : Nat) : Int) = some (jobsB q.nextId prev post) := by
 intro post
 induction post with
 | nil =>
  intro pre prev n h hp1 hp2 hm
  obtain ⟨n, rfl⟩ : ∃ m, n = m + 1 := ⟨n - 1, by omega⟩
  rw [s_l34Ok_l4, ge_app h]; rfl
 | cons j post ih =>
  intro pre prev n h hp1 hp2 hm
  simp only [List.length_cons] at hm
  obtain ⟨n, rfl⟩ : ∃ m, n = m + 2 := ⟨n - 2, by omega⟩
  have h5 : ∀ b, (b = true → prev + 1 ≤ j.id ∧ j.id ≤ q.nextId - 1) → s_l34Ok_j5 (n + 1) q ((List.length pre : Nat) : Int) (!b) = some (b && jobsB q.nextId j.id post) := fun b hb => by
   cases b with
   | false => rw [Bool.not_false, s_l34Ok_j5, if_pos rfl]; rfl
   | true =>
    have := hb rfl
    rw [Bool.not_true, s_l34Ok_j5, if_neg (by simp), at_app h, bind_some', wrap_app h hl, ih (pre ++ [j]) j.id n (next_app h) (by omega) (by omega) (by omega), Bool.true_and]
  have h5t : s_l34Ok_j5 (n + 1) q ((List.length pre : Nat) : Int) true = some false := h5 false nofun
  rw [s_l34Ok_l4, if_pos (lt_app h), at_app h, bind_some', w64 (by omega) (by omega), w64 (by omega) (by omega), l00In_eq, bind_some', bind_some', sJob_eq j (hs j (by rw [h]; simp)), bind_some', h5t, jobsB]
  cases hd : decide (prev + 1 ≤ j.id ∧ j.id ≤ q.nextId - 1) with
  | false => rfl
  | true => rw [Bool.not_true, if_neg (by simp), h5 _ (fun _ => of_decide_eq_true hd), Bool.true_and]
theorem sQueue_eq (q : Queue) (hl : q.jobs.length ≤ Big) (hs : ∀ j ∈ q.jobs, j.Small) : s_l34Ok q = some (queueB q) := by
 have ht : s_l34Ok_j1 q true = some false := by rw [s_l34Ok_j1, if_pos rfl]
 have hmax : s_l00Max 0 (IntKind.i64.wrap (((List.length q.jobs : Nat) : Int) - 1)) = some (if (q.jobs.length : Int) - 1 < 0 then 0 else (q.jobs.length : Int) - 1) := by
  rw [w64 (by omega) (by unfold Big at hl; omega)]
  unfold s_l00Max
  by_cases h : (q.jobs.length : Int) - 1 < 0
  ·rw [decide_eq_true h, if_pos rfl, if_pos h]
  ·rw [decide_eq_false h, if_neg (by simp), if_neg h]
 unfold s_l34Ok queueB
 rw [l00In_eq, bind_some', ht, hmax, bind_some', l00In_eq, bind_some']
 cases decide (1 ≤ q.quantum ∧ q.quantum ≤ 50) with
 | false => rfl
 | true =>
  rw [Bool.not_true, if_neg (by simp), Bool.true_and, l00In_eq, bind_some']
  cases hn : decide (1 ≤ q.nextId ∧ q.nextId ≤ 1000000000) with
  | false => rfl
  | true =>
   rw [Bool.not_true, if_neg (by simp), Bool.true_and]
   by_cases h6 : q.jobs.length ≤ 6
   ·have e6 : ¬ 6 < ((List.length q.jobs : Nat) : Int) := by omega
    rw [decide_eq_false e6, if_neg (by simp), decide_eq_true h6, Bool.true_and]
    have hloop := sJobs_loop q hl hs (of_decide_eq_true hn) q.jobs [] 0 fuel rfl (by omega) (by omega) (by rw [fuel_eq]; omega)
    simp only [List.length_nil, Int.natCast_zero] at hloop
    cases decide (0 ≤ q.turn ∧ q.turn ≤ if (q.jobs.length : Int) - 1 < 0 then 0 else (q.jobs.length : Int) - 1) with
    | false => rw [Bool.not_false, ht]; rfl
    | true => rw [Bool.not_true, s_l34Ok_j1, if_neg (by simp), hloop]; rfl
   ·have e6 : 6 < ((List.length q.jobs : Nat) : Int) := by omega
    rw [decide_eq_true e6, if_pos rfl, decide_eq_false h6]; rfl
def lastId (pre : List Job) : Int := match pre.getLast? with
 | some j => j.id
 | none => 0
theorem iJobs_loop (q : Queue) (hl : q.jobs.length ≤ Big) (hs : ∀ j ∈ q.jobs, j.Small) : ∀ (post pre : List Job) (n : Nat), q.jobs = pre ++ post → 0 ≤ lastId pre → 2 * post.length < n → i_ValidQueue_l8 n q ((List.length pre : Nat) : Int) = some (jobsB q.nextId (lastId pre) post) := by
 intro post
 induction post with
 | nil =>
  intro pre n h hp hm
  obtain ⟨n, rfl⟩ : ∃ m, n = m + 1 := ⟨n - 1, by omega⟩
  rw [i_ValidQueue_l8, ge_app h]; rfl
 | cons j post ih =>
  intro pre n h hp hm
  simp only [List.length_cons] at hm
  obtain ⟨n, rfl⟩ : ∃ m, n = m + 2 := ⟨n - 2, by omega⟩
  have hlast : lastId (pre ++ [j]) = j.id := by simp [lastId]
  have h9 : ∀ b, (b = true → 0 ≤ j.id) → i_ValidQueue_j9 (n + 1) q ((List.length pre : Nat) : Int) (!b) = some (b && jobsB q.nextId j.id post) := fun b hb => by
   cases b with
   | false => rw [Bool.not_false, i_ValidQueue_j9, if_pos rfl]; rfl
   | true => rw [Bool.not_true, i_ValidQueue_j9, if_neg (by simp), wrap_app h hl, ih (pre ++ [j]) n (next_app h) (by rw [hlast]; exact hb rfl) (by omega), hlast, Bool.true_and]
  have h9t : i_ValidQueue_j9 (n + 1) q ((List.length pre : Nat) : Int) true = some false := h9 false nofun
  rw [i_ValidQueue_l8, if_pos (lt_app h), at_app h, bind_some', iJob_eq j (hs j (by rw [h]; simp)), bind_some', h9t, jobsB]
  by_cases h1 : j.id < 1
  ·have e : ¬ (lastId pre + 1 ≤ j.id ∧ j.id ≤ q.nextId - 1) := by omega
   rw [decide_eq_true h1, if_pos rfl, decide_eq_false e]; rfl
  ·rw [decide_eq_false h1, if_neg (by simp)]
   by_cases h2 : q.nextId ≤ j.id
   ·have e : ¬ (lastId pre + 1 ≤ j.id ∧ j.id ≤ q.nextId - 1) := by omega
    rw [decide_eq_true h2, if_pos rfl, decide_eq_false e]; rfl
   ·rw [decide_eq_false h2, if_neg (by simp), h9 _ (fun _ => by omega)]
    have hd : ∀ prev : Int, prev = lastId pre → decide (lastId pre + 1 ≤ j.id ∧ j.id ≤ q.nextId - 1) = !decide (j.id ≤ prev) := fun prev hp => by
     subst hp
     by_cases h3 : j.id ≤ lastId pre
     ·have : ¬ (lastId pre + 1 ≤ j.id ∧ j.id ≤ q.nextId - 1) := by omega
      rw [decide_eq_true h3, decide_eq_false this]; rfl
     ·rw [decide_eq_false h3, decide_eq_true ⟨by omega, by omega⟩]; rfl
    rcases List.eq_nil_or_concat pre with rfl | ⟨pre', k, rfl⟩
    ·rw [hd 0 rfl]
     have : ¬ j.id ≤ 0 := by omega
     simp [this]
    ·have e1 : (0 : Int) < ((List.length (pre' ++ [k]) : Nat) : Int) := by simp
     have e2 : IntKind.i64.wrap (((List.length (pre' ++ [k]) : Nat) : Int) - 1) = ((List.length pre' : Nat) : Int) := by
      have : (pre' ++ [k]).length ≤ Big := by rw [h] at hl; simp at hl ⊢; omega
      rw [w64 (by omega) (by unfold Big at this; omega)]; simp
     have e3 : q.jobs = pre' ++ k :: (j :: post) := by rw [h]; simp
     have ec : pre'.concat k = pre' ++ [k] := List.concat_eq_append
     rw [hd k.id (by simp [lastId]), ec, decide_eq_true e1, if_pos rfl, e2, at_app e3, bind_some']
     cases decide (j.id ≤ k.id) <;> simp
theorem iQueue_eq (q : Queue) (hl : q.jobs.length ≤ Big) (hs : ∀ j ∈ q.jobs, j.Small) : i_ValidQueue q = some (queueB q) := by
 have ht : i_ValidQueue_j1 q true = some false := by rw [i_ValidQueue_j1, if_pos rfl]
 have hloop := iJobs_loop q hl hs q.jobs [] fuel rfl (by simp [lastId]) (by rw [fuel_eq]; unfold Big at hl; omega)
 simp only [List.length_nil, Int.natCast_zero] at hloop
 have hf : i_ValidQueue_j1 q false = some (decide (0 ≤ q.turn ∧ q.turn ≤ if (q.jobs.length : Int) - 1 < 0 then 0 else (q.jobs.length : Int) - 1) && jobsB q.nextId 0 q.jobs) := by
  rw [i_ValidQueue_j1, if_neg (by simp), w64 (by omega) (by unfold Big at hl; omega), atMost1, bind_some', hloop]
  cases decide (0 ≤ q.turn ∧ q.turn ≤ if (q.jobs.length : Int) - 1 < 0 then 0 else (q.jobs.length : Int) - 1) <;> rfl
 unfold i_ValidQueue queueB
 rw [ht]
 by_cases h1 : 1 ≤ q.quantum ∧ q.quantum ≤ 50
 ·have a1 : ¬ q.quantum < 1 := by omega
  have a2 : ¬ 50 < q.quantum := by omega
  by_cases h2 : 1 ≤ q.nextId ∧ q.nextId ≤ 1000000000
  ·have a3 : ¬ q.nextId < 1 := by omega
   have a4 : ¬ 1000000000 < q.nextId := by omega
   rw [decide_eq_false a1, if_neg (by simp), decide_eq_false a2, if_neg (by simp), decide_eq_false a3, if_neg (by simp), decide_eq_false a4, if_neg (by simp), decide_eq_true h1, decide_eq_true h2, Bool.true_and, Bool.true_and]
   by_cases h6 : q.jobs.length ≤ 6
   ·have e6 : ¬ 6 < ((List.length q.jobs : Nat) : Int) := by omega
    rw [decide_eq_false e6, decide_eq_true h6, hf, Bool.true_and]
   ·have e6 : 6 < ((List.length q.jobs : Nat) : Int) := by omega
    rw [decide_eq_true e6, decide_eq_false h6, ht]; rfl
  ·rw [decide_eq_false h2]
   by_cases a3 : q.nextId < 1
   ·simp [a1, a2, a3]
   ·have a4 : 1000000000 < q.nextId := by omega
    simp [a1, a2, a3, a4]
 ·rw [decide_eq_false h1]
  by_cases a1 : q.quantum < 1
  ·simp [a1]
  ·have a2 : 50 < q.quantum := by omega
   simp [a1, a2]
end Go.Proofs.YtckcfdggbbabfaaGreat.Ab
