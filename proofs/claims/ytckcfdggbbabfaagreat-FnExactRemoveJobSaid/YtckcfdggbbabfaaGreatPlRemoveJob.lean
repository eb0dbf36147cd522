/-
  A job that is removed: both sides answer alike. No program is in sight.
-/
import Derived.Test.YtckcfdggbbabfaaGreatModR
import Derived.Test.YtckcfdggbbabfaaGreatPlJb
namespace Go.Proofs.YtckcfdggbbabfaaGreat.Ab
set_option linter.unusedVariables false
set_option linter.unusedSimpArgs false
open Go.RowKit
theorem szl_app {α : Type} {s : α → Nat} {m : List α} : ∀ {l : List α}, szl s (l ++ m) + szl s [] = szl s l + szl s m
 | [] => by simp only [List.nil_append]; omega
 | y :: l => by
  have := szl_app (s := s) (m := m) (l := l)
  simp only [List.cons_append, szl] at this ⊢
  omega
theorem RemoveJob_same (q : Queue) (id : Int) (h : q.sz ≤ 1048576) : ∃ r, s_RemoveJob q id = some r ∧ i_RemoveJob q id = some r ∧ r.1.sz ≤ Big := by
 obtain ⟨hl, hs⟩ := q.small_of (by unfold Big; omega)
 have hz : Queue.sz ⟨0, 0, 0, []⟩ ≤ Big := by unfold Queue.sz Big; simp [szl]
 have hsa := sAsked_eq q id hl hs
 have hia := iFound_eq q id hl hs
 have hso := sOwnQueue_eq q hl hs
 have hio := iCopyQueue_eq q hl hs
 by_cases h0 : (asked q id).2 = 0
 ·obtain ⟨j, h1, h2, -⟩ := asked_ok q id h0
  by_cases h3 : j.state = 1
  ·refine ⟨(⟨0, 0, 0, []⟩, 5), ?_, ?_, hz⟩
   ·simp only [s_RemoveJob, s_RemoveJob_j1, s_RemoveJob_j2, hsa, h1, h0, h3, bind_some', decide_true, Bool.not_true, Bool.false_eq_true, reduceIte]
    rfl
   ·simp only [i_RemoveJob, hia, h1, h0, h3, bind_some', decide_true, Bool.not_true, Bool.false_eq_true, reduceIte]
  ·obtain ⟨k0, k1⟩ := at_some h1
   obtain ⟨i, hi⟩ : ∃ i : Nat, (asked q id).1 = i := ⟨(asked q id).1.toNat, by omega⟩
   rw [hi] at h1 k1 k0
   rw [Int.toNat_natCast] at k1
   have hlt : i < q.jobs.length := (List.getElem?_eq_some_iff.1 k1).1
   have hw : IntKind.i64.wrap ((i : Int) + 1) = (i : Int) + 1 := w64 (by omega) (by unfold Big at hl; omega)
   have c1 : cutL q.jobs 0 (i : Int) = some (q.jobs.take i) := by
    unfold cutL
    rw [if_pos (by omega), show ((i : Int) - 0).toNat = i by omega]; rfl
   have c2 : cutL q.jobs ((i : Int) + 1) ((List.length q.jobs : Nat) : Int) = some (q.jobs.drop (i + 1)) := by
    unfold cutL
    rw [if_pos (by omega), show ((i : Int) + 1).toNat = i + 1 by omega, List.take_of_length_le (by rw [List.length_drop]; omega)]
   have p1 : app? [] (q.jobs.take i) = some (q.jobs.take i) := app_nil (by rw [List.length_take]; omega)
   have hlen : (q.jobs.take i ++ q.jobs.drop (i + 1)).length ≤ Big := by rw [List.length_append, List.length_take, List.length_drop]; omega
   have p2 : app? (q.jobs.take i) (q.jobs.drop (i + 1)) = some (q.jobs.take i ++ q.jobs.drop (i + 1)) := app_ok (by rw [← List.length_append]; exact hlen)
   have d1 : g_Delete_simpl_Job q.jobs (i : Int) ((i : Int) + 1) = some (q.jobs.take i ++ q.jobs.drop (i + 1)) := by
    unfold g_Delete_simpl_Job
    rw [if_pos ⟨by omega, rfl, by omega⟩, Int.toNat_natCast]
   obtain ⟨l', hl'⟩ : ∃ l', l' = q.jobs.take i ++ q.jobs.drop (i + 1) := ⟨_, rfl⟩
   rw [← hl'] at p2 d1 hlen
   have hsm : ∀ x ∈ l', x.Small := fun x hx => by
    rw [hl'] at hx
    rcases List.mem_append.1 hx with hx | hx
    ·exact hs x (List.mem_of_mem_take hx)
    ·exact hs x (List.mem_of_mem_drop hx)
   have hsz : szl Job.sz l' ≤ szl Job.sz q.jobs := by
    have e : q.jobs = q.jobs.take i ++ (q.jobs[i] :: q.jobs.drop (i + 1)) := by rw [← List.drop_eq_getElem_cons hlt, List.take_append_drop]
    have a1 := szl_app (s := Job.sz) (l := q.jobs.take i) (m := q.jobs[i] :: q.jobs.drop (i + 1))
    have a2 := szl_app (s := Job.sz) (l := q.jobs.take i) (m := q.jobs.drop (i + 1))
    rw [← e] at a1
    rw [← hl'] at a2
    simp only [szl] at a1 a2
    omega
   have hc : ∀ t : Int, i_copyQueue ⟨q.quantum, q.nextId, t, l'⟩ = some ⟨q.quantum, q.nextId, t, l'⟩ := fun t => iCopyQueue_eq _ hlen hsm
   have hfz : ∀ t : Int, Queue.sz ⟨q.quantum, q.nextId, t, l'⟩ ≤ Big := fun t => by
    unfold Queue.sz at h ⊢
    simp only
    unfold Big; omega
   have fin : ∀ (v : Int × Int) (t : Int), ∃ r, s_RemoveJob_j3 q l' t = some r ∧ i_RemoveJob_j1 q l' t = some r ∧ r.1.sz ≤ Big := by
    intro v t
    unfold s_RemoveJob_j3 i_RemoveJob_j1 i_RemoveJob_j2
    rw [hc, hc, bind_some', bind_some']
    split
    ·exact ⟨_, rfl, rfl, hfz 0⟩
    ·exact ⟨_, rfl, rfl, hfz t⟩
   have sE : s_RemoveJob q id = (if (decide ((asked q id).1 < q.turn)) = true then (s_RemoveJob_j3 q l' (IntKind.i64.wrap (q.turn - 1))) else (s_RemoveJob_j3 q l' q.turn)) := by
    simp only [s_RemoveJob, s_RemoveJob_j1, s_RemoveJob_j2, hsa, hi, h1, h0, h3, hso, c1, p1, hw, c2, p2, bind_some', decide_true, decide_false, Bool.not_true, Bool.false_eq_true, reduceIte]
   have iE : i_RemoveJob q id = (if (decide ((asked q id).1 < q.turn)) = true then (i_RemoveJob_j1 q l' (IntKind.i64.wrap (q.turn - 1))) else (i_RemoveJob_j1 q l' q.turn)) := by
    simp only [i_RemoveJob, hia, hi, h1, h0, h3, hio, hw, d1, bind_some', decide_true, decide_false, Bool.not_true, Bool.false_eq_true, reduceIte]
   rw [sE, iE]
   split
   ·exact fin (asked q id) _
   ·exact fin (asked q id) _
 ·refine ⟨(⟨0, 0, 0, []⟩, (asked q id).2), ?_, ?_, hz⟩
  ·simp only [s_RemoveJob, s_RemoveJob_j1, s_RemoveJob_j2, hsa, h0, bind_some', decide_true, decide_false, Bool.not_true, Bool.not_false, Bool.false_eq_true, reduceIte]
  ·simp only [i_RemoveJob, hia, h0, bind_some', decide_true, decide_false, Bool.not_true, Bool.not_false, Bool.false_eq_true, reduceIte]
end Go.Proofs.YtckcfdggbbabfaaGreat.Ab
