/-
  A job that is cancelled: both sides answer alike. No program is in sight.
-/
import Derived.Test.YtlmanchbpommaaaGreatModK
import Derived.Test.YtlmanchbpommaaaGreatPlJob
namespace Go.Proofs.YtlmanchbpommaaaGreat.Ab
set_option linter.unusedVariables false
set_option linter.unusedSimpArgs false
open Go.RowKit

theorem sOwnQueue_eq (q : Queue) (hl : q.jobs.length ≤ Big) (hs : ∀ j ∈ q.jobs, j.Small) : s_l34Own q = some q := by
  unfold s_l34Own
  have hc := gCopy (fun n' acc i => (s_l34Own_l2 n' q acc i).map fun r => (r.jobs)) s_l34OwnJob q.jobs hl (fun a ha => sOwnJob_eq a (hs a ha)) fun n' acc i => by
    rw [s_l34Own_l2]
    split
    · cases at? q.jobs i with
      | none => rfl
      | some v => simp only [Option.bind]; cases s_l34OwnJob v with
        | none => rfl
        | some w => simp only; cases app? acc [w] <;> rfl
    · rfl
  have hq : ∀ n acc i r, s_l34Own_l2 n q acc i = some r → r.quantum = q.quantum ∧ r.nextId = q.nextId ∧ r.turn = q.turn := by
    intro n
    induction n with
    | zero => intro acc i r h; rw [s_l34Own_l2] at h; cases h
    | succ n ih =>
      intro acc i r h
      rw [s_l34Own_l2] at h
      split at h
      · cases h1 : at? q.jobs i with
        | none => rw [h1] at h; cases h
        | some v =>
          rw [h1, bind_some'] at h
          cases h2 : s_l34OwnJob v with
          | none => rw [h2] at h; cases h
          | some w =>
            rw [h2, bind_some'] at h
            cases h3 : app? acc [w] with
            | none => rw [h3] at h; cases h
            | some z => rw [h3, bind_some'] at h; exact ih _ _ _ h
      · cases h; exact ⟨rfl, rfl, rfl⟩
  simp only [Option.map_eq_some_iff] at hc
  obtain ⟨a, h1, h2⟩ := hc
  obtain ⟨k1, k2, k3⟩ := hq _ _ _ _ h1
  rw [h1]; congr 1
  cases a; cases q; simp_all
theorem iCopyQueue_eq (q : Queue) (hl : q.jobs.length ≤ Big) (hs : ∀ j ∈ q.jobs, j.Small) : i_copyQueue q = some q := by
  unfold i_copyQueue
  have hc := gCopy (fun n' acc i => (i_copyQueue_l2 n' q acc i).map fun r => (r.jobs)) i_copyJob q.jobs hl (fun a ha => iCopyJob_eq a (hs a ha)) fun n' acc i => by
    rw [i_copyQueue_l2]
    split
    · cases at? q.jobs i with
      | none => rfl
      | some v => simp only [Option.bind]; cases i_copyJob v with
        | none => rfl
        | some w => simp only; cases app? acc [w] <;> rfl
    · rfl
  have hq : ∀ n acc i r, i_copyQueue_l2 n q acc i = some r → r.quantum = q.quantum ∧ r.nextId = q.nextId ∧ r.turn = q.turn := by
    intro n
    induction n with
    | zero => intro acc i r h; rw [i_copyQueue_l2] at h; cases h
    | succ n ih =>
      intro acc i r h
      rw [i_copyQueue_l2] at h
      split at h
      · cases h1 : at? q.jobs i with
        | none => rw [h1] at h; cases h
        | some v =>
          rw [h1, bind_some'] at h
          cases h2 : i_copyJob v with
          | none => rw [h2] at h; cases h
          | some w =>
            rw [h2, bind_some'] at h
            cases h3 : app? acc [w] with
            | none => rw [h3] at h; cases h
            | some z => rw [h3, bind_some'] at h; exact ih _ _ _ h
      · cases h; exact ⟨rfl, rfl, rfl⟩
  simp only [Option.map_eq_some_iff] at hc
  obtain ⟨a, h1, h2⟩ := hc
  obtain ⟨k1, k2, k3⟩ := hq _ _ _ _ h1
  rw [h1]; congr 1
  cases a; cases q; simp_all
theorem at_set1 {α : Type} {l : List α} {i : Int} {x y : α} (h : at? l i = some x) : at? (l.set i.toNat y) i = some y := by
  obtain ⟨h0, h1⟩ := at_some h
  unfold at?
  rw [if_pos h0, List.getElem?_set]
  have := (List.getElem?_eq_some_iff.1 h1).1
  simp [this]
theorem set1_eq {α : Type} {l : List α} {i : Int} {x : α} : set1? l i x = some (l.set i.toNat x) := rfl
def Job.done (j : Job) (a b : Int) (n : Net) : Job := ⟨j.id, j.weight, a, b, j.left, j.slices, j.counts, [], [], n⟩
theorem sEnd_eq {l : List Job} {i a b : Int} {n : Net} {j : Job} (h : at? l i = some j) : s_l34End l i a b n = some (l.set i.toNat (j.done a b n)) := by
  unfold s_l34End
  simp only [h, bind_some', set1_eq, at_set1 h, List.set_set]
  rfl
theorem iEnd_eq {l : List Job} {i a b : Int} {n : Net} {j : Job} (h : at? l i = some j) : i_Job_end l i a b n = some (l.set i.toNat (j.done a b n)) := by
  unfold i_Job_end
  simp only [h, bind_some', set1_eq, at_set1 h, List.set_set]
  rfl
theorem szl_set {α : Type} {s : α → Nat} {y : α} : ∀ {l : List α} {i : Nat} {x : α}, l[i]? = some x → s y ≤ s x → szl s (l.set i y) ≤ szl s l
  | [], i, x, h, _ => by simp at h
  | z :: l, 0, x, h, hs => by
    simp only [List.getElem?_cons_zero, Option.some.injEq] at h
    subst h
    rw [List.set_cons_zero, szl, szl]; omega
  | z :: l, i + 1, x, h, hs => by
    rw [List.set_cons_succ, szl, szl]
    have := szl_set (l := l) (i := i) (x := x) (by simpa using h) hs
    omega
theorem CancelJob_same (q : Queue) (id : Int) (h : q.sz ≤ 1048576) : ∃ r, s_CancelJob q id = some r ∧ i_CancelJob q id = some r ∧ r.1.sz ≤ Big := by
  obtain ⟨hl, hs⟩ := q.small_of (by unfold Big; omega)
  have hz : Queue.sz ⟨0, 0, 0, []⟩ ≤ Big := by unfold Queue.sz Big; simp [szl]
  have hsa := sAsked_eq q id hl hs
  have hia := iFound_eq q id hl hs
  have hso := sOwnQueue_eq q hl hs
  have hio := iCopyQueue_eq q hl hs
  by_cases h0 : (asked q id).2 = 0
  · obtain ⟨j, h1, h2, -⟩ := asked_ok q id h0
    have hse := sEnd_eq (a := 4) (b := 0) (n := ⟨[]⟩) h1
    have hie := iEnd_eq (a := 4) (b := 0) (n := ⟨[]⟩) h1
    by_cases h3 : j.state = 1
    · refine ⟨(⟨q.quantum, q.nextId, q.turn, q.jobs.set (asked q id).1.toNat (j.done 4 0 ⟨[]⟩)⟩, 0), ?_, ?_, ?_⟩
      · simp only [s_CancelJob, s_CancelJob_j1, s_CancelJob_j2, hsa, hso, hse, h1, h0, h3, bind_some', decide_true, Bool.not_true, Bool.false_eq_true, reduceIte]
      · simp only [i_CancelJob, hia, hio, hie, h1, h0, h3, bind_some', decide_true, Bool.not_true, Bool.false_eq_true, reduceIte]
      have hle : (j.done 4 0 ⟨[]⟩).sz ≤ j.sz := by unfold Job.done Job.sz Net.sz; simp only [List.length_nil, szl]; omega
      have := szl_set (s := Job.sz) (at_some h1).2 hle
      show Queue.sz _ ≤ Big
      unfold Queue.sz at h ⊢
      unfold Big
      simp only
      omega
    · refine ⟨(⟨0, 0, 0, []⟩, 5), ?_, ?_, hz⟩
      · have h5 : ¬ (5 : Int) = 0 := by omega
        simp only [s_CancelJob, s_CancelJob_j1, s_CancelJob_j2, hsa, h1, h0, h3, h5, bind_some', decide_true, decide_false, Bool.not_true, Bool.not_false, Bool.false_eq_true, reduceIte]
      · simp only [i_CancelJob, hia, h1, h0, h3, bind_some', decide_true, decide_false, Bool.not_true, Bool.not_false, Bool.false_eq_true, reduceIte]
  · refine ⟨(⟨0, 0, 0, []⟩, (asked q id).2), ?_, ?_, hz⟩
    · simp only [s_CancelJob, s_CancelJob_j1, s_CancelJob_j2, hsa, h0, bind_some', decide_true, decide_false, Bool.not_true, Bool.not_false, Bool.false_eq_true, reduceIte]
    · simp only [i_CancelJob, hia, h0, bind_some', decide_true, decide_false, Bool.not_true, Bool.not_false, Bool.false_eq_true, reduceIte]
end Go.Proofs.YtlmanchbpommaaaGreat.Ab
