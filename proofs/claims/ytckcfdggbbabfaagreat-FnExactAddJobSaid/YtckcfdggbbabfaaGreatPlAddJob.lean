/-
  A job that is added: both sides answer alike. No program is in sight.
-/
import Derived.Test.YtckcfdggbbabfaaGreatModB
import Derived.Test.YtckcfdggbbabfaaGreatPlJb
namespace Go.Proofs.YtckcfdggbbabfaaGreat.Ab
set_option linter.unusedVariables false
set_option linter.unusedSimpArgs false
open Go.RowKit
theorem szl_at {α : Type} {s : α → Nat} {x : α} {l : List α} (h : x ∈ l) (k : Nat) (hk : szl s l ≤ k) : s x ≤ k := by
 have := szl_mem (s := s) h
 omega
theorem Nets.small_of (l : List Net) (h : szl Net.sz l ≤ Big) : l.length ≤ Big ∧ ∀ n ∈ l, n.Small := by
 refine ⟨?_, fun n hn => n.small_of (szl_at hn _ h)⟩
 have := szl_len Net.sz l
 omega
def askB (bk : List Net) (n : Net) (s : List Int) (b : Int) : Int :=
 if (templB bk && n.valid) = true then (if (schedB s && decide (0 ≤ b ∧ b ≤ 4000)) = true then 0 else 2) else 1
theorem sAsk_eq (bk : List Net) (n : Net) (s : List Int) (b : Int) (hl : bk.length ≤ Big) (hs : ∀ n ∈ bk, n.Small) (hn : n.Small) (hz : s.length ≤ Big) : s_l15Asked bk n s b = some (askB bk n s b) := by
 unfold s_l15Asked askB
 rw [sTempl_eq bk hl hs, bind_some']
 cases templB bk with
 | false => rfl
 | true =>
  rw [Bool.not_true, if_neg (by simp), sNet_eq n hn, bind_some']
  cases n.valid with
  | false => rfl
  | true =>
   unfold s_l15Asked_j1
   rw [Bool.not_true, if_neg (by simp), sSched_eq s hz, bind_some']
   cases schedB s with
   | false => rfl
   | true =>
    rw [Bool.not_true, if_neg (by simp), l00In_eq, bind_some']
    unfold s_l15Asked_j2
    cases decide (0 ≤ b ∧ b ≤ 4000) <;> rfl
theorem iNewRed_eq (bk : List Net) (n : Net) (hn : n.Small) : i_newReducer bk n = some () := by
 unfold i_newReducer i_newRewriter
 rw [iCopyNet_eq n hn, bind_some', bind_some', show (7 : Int) = ((7 : Nat) : Int) from rfl, rep_ok (by unfold Big; omega), bind_some']
theorem iAsk_eq (bk : List Net) (n : Net) (s : List Int) (b : Int) (hl : bk.length ≤ Big) (hs : ∀ n ∈ bk, n.Small) (hn : n.Small) (hz : s.length ≤ Big) : i_reduction bk n s b = some (askB bk n s b) := by
 unfold i_reduction askB
 rw [iTempl_eq bk hl hs, bind_some']
 cases templB bk with
 | false => rfl
 | true =>
  rw [Bool.not_true, if_neg (by simp), iNet_eq n hn, bind_some']
  cases n.valid with
  | false => rfl
  | true =>
   unfold i_reduction_j1
   rw [Bool.not_true, if_neg (by simp), iSched_eq s hz, bind_some']
   cases schedB s with
   | false => rfl
   | true =>
    rw [Bool.not_true, if_neg (by simp)]
    by_cases h0 : b < 0
    ·rw [decide_eq_true h0, if_pos rfl, decide_eq_false (by omega)]; rfl
    ·rw [decide_eq_false h0, if_neg (by simp)]
     by_cases h1 : 4000 < b
     ·rw [decide_eq_true h1, decide_eq_false (by omega)]; rfl
     ·rw [decide_eq_false h1, decide_eq_true (by omega)]
      unfold i_reduction_j2
      rw [if_neg (by simp), iNewRed_eq bk n hn]; rfl
theorem szl_snoc {α : Type} {s : α → Nat} {x : α} : ∀ {l : List α}, szl s (l ++ [x]) = szl s l + szl s [x]
 | [] => by simp [szl]
 | y :: l => by rw [List.cons_append, szl, szl, szl_snoc]; omega
theorem AddJob_same (q : Queue) (bk : List Net) (n : Net) (s : List Int) (b w : Int) (hq : q.sz ≤ 1048576) (hb : szl Net.sz bk ≤ 1048576) (hn : n.sz ≤ 1048576) (hs : s.length ≤ 1048576) :
  ∃ r, s_AddJob q bk n s b w = some r ∧ i_AddJob q bk n s b w = some r ∧ r.1.sz ≤ Big := by
 obtain ⟨hl, hsm⟩ := q.small_of (by unfold Big; omega)
 obtain ⟨bl, bsm⟩ := Nets.small_of bk (by unfold Big; omega)
 have nsm := n.small_of (by unfold Big; omega)
 have hz : Queue.sz ⟨0, 0, 0, []⟩ ≤ Big := by unfold Queue.sz Big; simp [szl]
 have hsB : s.length ≤ Big := by unfold Big; omega
 have hsa := sAsk_eq bk n s b bl bsm nsm hsB
 have hia := iAsk_eq bk n s b bl bsm nsm hsB
 have hso := sOwnQueue_eq q hl hsm
 have hio := iCopyQueue_eq q hl hsm
 have hjs : (⟨q.nextId, w, 1, 0, b, 0, [0, 0, 0, 0, 0, 0, 0], s, bk, n⟩ : Job).Small := by
  refine Job.small_of _ ?_
  unfold Job.sz Big; simp only [List.length_cons, List.length_nil]; omega
 have hsj := sOwnJob_eq _ hjs
 have hij := iCopyJob_eq _ hjs
 have hjl : q.jobs.length + [(⟨q.nextId, w, 1, 0, b, 0, [0, 0, 0, 0, 0, 0, 0], s, bk, n⟩ : Job)].length ≤ Big := by
  have := szl_len Job.sz q.jobs
  unfold Queue.sz at hq
  unfold Big; simp only [List.length_cons, List.length_nil]; omega
 have happ := app_ok hjl
 have hrep : rep? (7 : Int) (0 : Int) = some [0, 0, 0, 0, 0, 0, 0] := by rw [show (7 : Int) = ((7 : Nat) : Int) from rfl, rep_ok (by unfold Big; omega)]; rfl
 have hjz : (⟨q.nextId, w, 1, 0, b, 0, [0, 0, 0, 0, 0, 0, 0], s, bk, n⟩ : Job).sz ≤ s.length + szl Net.sz bk + n.sz + 64 := by
  unfold Job.sz; simp only [List.length_cons, List.length_nil]; omega
 have hrs : (⟨q.quantum, (IntKind.i64.wrap (q.nextId + 1)), q.turn, q.jobs ++ [(⟨q.nextId, w, 1, 0, b, 0, [0, 0, 0, 0, 0, 0, 0], s, bk, n⟩ : Job)]⟩ : Queue).sz ≤ Big := by
  unfold Queue.sz at hq ⊢
  simp only [szl_snoc, szl]
  unfold Big; omega
 unfold s_AddJob i_AddJob
 rw [sQueue_eq q hl hsm, iQueue_eq q hl hsm, bind_some', bind_some']
 cases queueB q with
 | false => exact ⟨_, rfl, rfl, hz⟩
 | true =>
  rw [Bool.not_true, if_neg (by simp), if_neg (by simp), hsa, hia, bind_some', bind_some']
  by_cases h0 : askB bk n s b = 0
  ·rw [h0, decide_eq_true rfl, if_pos rfl, Bool.not_true, if_neg (by simp), l00In_eq, bind_some']
   by_cases hw : 1 ≤ w ∧ w ≤ 4
   ·rw [decide_eq_true hw, decide_eq_false (by omega), decide_eq_false (by omega), if_neg (by simp), Bool.not_true]
    unfold s_AddJob_j1 i_AddJob_j1
    rw [if_neg (by simp), if_neg (by simp)]
    unfold s_AddJob_j2
    rw [decide_eq_true rfl, if_pos rfl]
    have fin : ∀ c : Bool, ∃ r, s_AddJob_j3 q bk n s b w 0 c = some r ∧ i_AddJob_j2 q bk n s b w c = some r ∧ r.1.sz ≤ Big := by
     intro c
     unfold s_AddJob_j3 i_AddJob_j2
     cases c with
     | true => exact ⟨_, rfl, rfl, hz⟩
     | false =>
      rw [if_neg (by simp), if_neg (by simp)]
      unfold s_AddJob_j4
      rw [decide_eq_true rfl, Bool.not_true, if_neg (by simp), hso, hio, bind_some', bind_some', hsj, bind_some', happ, bind_some', hrep, bind_some', hij, bind_some', happ, bind_some']
      exact ⟨_, rfl, rfl, hrs⟩
    by_cases h6 : ((List.length q.jobs : Nat) : Int) = 6
    ·rw [decide_eq_true h6, if_pos rfl, if_pos rfl]; exact fin true
    ·rw [decide_eq_false h6, if_neg (by simp), if_neg (by simp)]; exact fin _
   ·rw [decide_eq_false hw]
    refine ⟨(⟨0, 0, 0, []⟩, 0, 2), rfl, ?_, hz⟩
    by_cases h1 : w < 1
    ·rw [decide_eq_true h1, if_pos rfl]; rfl
    ·rw [decide_eq_false h1, if_neg (by simp), decide_eq_true (by omega)]; rfl
  ·rw [decide_eq_false h0, if_neg (by simp), Bool.not_false, if_pos rfl]
   refine ⟨(⟨0, 0, 0, []⟩, 0, askB bk n s b), ?_, rfl, hz⟩
   unfold s_AddJob_j1 s_AddJob_j2 s_AddJob_j3 s_AddJob_j4
   simp [h0]
end Go.Proofs.YtckcfdggbbabfaaGreat.Ab
