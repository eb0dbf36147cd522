/-
  Jobs: copies are equal to what they copy; a job asked for; a job that is ended. No program is in sight.
-/
import Derived.Test.YtckcfdggbbabfaaGreatModJ
import Derived.Test.YtckcfdggbbabfaaGreatPlVQ
namespace Go.Proofs.YtckcfdggbbabfaaGreat.Ab
set_option linter.unusedVariables false
set_option linter.unusedSimpArgs false
open Go.RowKit
theorem gCopy {α : Type} (L : Nat → List α → Int → Option (List α)) (f : α → Option α) (l : List α) (hl : l.length ≤ Big) (hf : ∀ x ∈ l, f x = some x)
  (hL : ∀ n acc i, L (n + 1) acc i = (if (decide (i < ((List.length l : Nat) : Int))) = true then (Option.bind (at? l i) fun v => (Option.bind (f v) fun w => (Option.bind (app? acc [w]) fun z => (L n z (IntKind.i64.wrap (i + 1)))))) else (some acc))) : L fuel [] 0 = some l := by
 have loop : ∀ (post pre : List α) (n : Nat), l = pre ++ post → post.length < n → L n pre ((List.length pre : Nat) : Int) = some l := by
  intro post
  induction post with
  | nil =>
   intro pre n h hn
   obtain ⟨n, rfl⟩ : ∃ m, n = m + 1 := ⟨n - 1, by omega⟩
   rw [hL, ge_app h, if_neg (by simp), h, List.append_nil]
  | cons x post ih =>
   intro pre n h hn
   rw [List.length_cons] at hn
   obtain ⟨n, rfl⟩ : ∃ m, n = m + 1 := ⟨n - 1, by omega⟩
   have hx : x ∈ l := by rw [h]; simp
   have hlen : pre.length + [x].length ≤ Big := by rw [h] at hl; simp at hl ⊢; omega
   rw [hL, if_pos (lt_app h), at_app h, bind_some', hf x hx, bind_some', app_ok hlen, bind_some', wrap_app h hl]
   exact ih (pre ++ [x]) n (next_app h) (by omega)
 exact loop l [] fuel rfl (by rw [fuel_eq]; unfold Big at hl; omega)
theorem app_nil {α : Type} {l : List α} (h : l.length ≤ Big) : app? [] l = some l := by rw [app_ok (by simpa using h)]; simp
theorem sOwn_eq (l : List Int) (h : l.length ≤ Big) : s_l00Own l = some l := by unfold s_l00Own; rw [app_nil h]; rfl
theorem sOwnAgent_eq (a : Agent) (h : a.Small) : s_l11OwnAgent a = some a := by
 unfold s_l11OwnAgent
 rw [sOwn_eq _ h.2, bind_some', app_nil h.1]; rfl
theorem sOwnNet_eq (n : Net) (h : n.Small) : s_l11Own n = some n := by
 unfold s_l11Own
 have hc := gCopy (fun n' acc i => (s_l11Own_l2 n' n acc i).map (·.agents)) s_l11OwnAgent n.agents h.agents.1 (fun a ha => sOwnAgent_eq a (h.agents.2 a ha)) fun n' acc i => by
  rw [s_l11Own_l2]
  split
  ·cases at? n.agents i with
   | none => rfl
   | some v => simp only [Option.bind]; cases s_l11OwnAgent v with
    | none => rfl
    | some w => simp only; cases app? acc [w] <;> rfl
  ·rfl
 simp only [Option.map_eq_some_iff] at hc
 obtain ⟨a, h1, h2⟩ := hc
 rw [h1]; congr 1
 cases a; cases n; simp_all
theorem sOwnNets_loop (j : Job) (c s : List Int) (hb : j.book.length ≤ Big) (hs : ∀ n ∈ j.book, n.Small) (hn : j.net.Small) : s_l34OwnJob_l2 fuel j c s [] 0 = some ⟨j.id, j.weight, j.state, j.code, j.left, j.slices, c, s, j.book, j.net⟩ := by
 have loop : ∀ (post pre : List Net) (n : Nat), j.book = pre ++ post → post.length < n → s_l34OwnJob_l2 n j c s pre ((List.length pre : Nat) : Int) = some ⟨j.id, j.weight, j.state, j.code, j.left, j.slices, c, s, j.book, j.net⟩ := by
  intro post
  induction post with
  | nil =>
   intro pre n h hn'
   obtain ⟨n, rfl⟩ : ∃ m, n = m + 1 := ⟨n - 1, by omega⟩
   rw [s_l34OwnJob_l2, ge_app h, if_neg (by simp), sOwnNet_eq _ hn, bind_some', h, List.append_nil]
  | cons x post ih =>
   intro pre n h hn'
   rw [List.length_cons] at hn'
   obtain ⟨n, rfl⟩ : ∃ m, n = m + 1 := ⟨n - 1, by omega⟩
   have hx : x ∈ j.book := by rw [h]; simp
   have hlen : pre.length + [x].length ≤ Big := by rw [h] at hb; simp at hb ⊢; omega
   rw [s_l34OwnJob_l2, if_pos (lt_app h), at_app h, bind_some', sOwnNet_eq x (hs x hx), bind_some', app_ok hlen, bind_some', wrap_app h hb]
   exact ih (pre ++ [x]) n (next_app h) (by omega)
 exact loop j.book [] fuel rfl (by rw [fuel_eq]; unfold Big at hb; omega)
theorem sOwnJob_eq (j : Job) (h : j.Small) : s_l34OwnJob j = some j := by
 unfold s_l34OwnJob
 rw [sOwn_eq _ h.counts, bind_some', sOwn_eq _ h.schedule, bind_some', sOwnNets_loop j _ _ h.book h.nets h.net]
theorem iCloneI_eq (l : List Int) (h : l.length ≤ Big) : g_Clone_sint64 l = some l := by unfold g_Clone_sint64; rw [app_nil h]; rfl
theorem iCloneP_eq (l : List Port) (h : l.length ≤ Big) : g_Clone_simpl_Port l = some l := by unfold g_Clone_simpl_Port; rw [app_nil h]; rfl
theorem iCopyAgent_eq (a : Agent) (h : a.Small) : i_copyAgent a = some a := by
 unfold i_copyAgent
 rw [iCloneI_eq _ h.2, bind_some', iCloneP_eq _ h.1]; rfl
theorem iCopyNet_eq (n : Net) (h : n.Small) : i_copyNet n = some n := by
 unfold i_copyNet
 rw [rep_ok h.agents.1, bind_some']
 have hc := gCopy (fun n' acc i => (i_copyNet_l2 n' n acc i).map (·.agents)) i_copyAgent n.agents h.agents.1 (fun a ha => iCopyAgent_eq a (h.agents.2 a ha)) fun n' acc i => by
  rw [i_copyNet_l2]
  split
  ·cases at? n.agents i with
   | none => rfl
   | some v => simp only [Option.bind]; cases i_copyAgent v with
    | none => rfl
    | some w => simp only; cases app? acc [w] <;> rfl
  ·rfl
 simp only [Option.map_eq_some_iff] at hc
 obtain ⟨a, h1, h2⟩ := hc
 rw [h1]; congr 1
 cases a; cases n; simp_all
theorem iCopyNets_eq (l : List Net) (hl : l.length ≤ Big) (h : ∀ n ∈ l, n.Small) : i_copyNets l = some l :=
 gCopy (fun n acc i => i_copyNets_l1 n l acc i) i_copyNet l hl (fun n hn => iCopyNet_eq n (h n hn)) fun n acc i => by rw [i_copyNets_l1]
theorem iCopyJob_eq (j : Job) (h : j.Small) : i_copyJob j = some j := by
 unfold i_copyJob
 rw [iCloneI_eq _ h.counts, bind_some', iCloneI_eq _ h.schedule, bind_some', iCopyNets_eq _ h.book h.nets, bind_some', iCopyNet_eq _ h.net]; rfl
def jobAt (l : List Job) (id : Int) : Option Nat := l.findIdx? fun j => decide (j.id = id)
def asked (q : Queue) (id : Int) : Int × Int := if queueB q = true then (match jobAt q.jobs id with | some i => ((i : Int), 0) | none => (0, 3)) else (0, 1)
theorem findIdx_skip {α : Type} {p : α → Bool} : ∀ {pre post : List α}, (∀ y ∈ pre, p y = false) → (pre ++ post).findIdx? p = (post.findIdx? p).map (· + pre.length)
 | [], post, _ => by simp
 | y :: pre, post, h => by
  rw [List.cons_append, List.findIdx?_cons, h y (by simp), findIdx_skip fun z hz => h z (by simp [hz])]
  cases post.findIdx? p <;> simp <;> omega
theorem find_loop (q : Queue) (id : Int) (hl : q.jobs.length ≤ Big) : s_l34Find q id = some (match jobAt q.jobs id with | some i => (i : Int) | none => -1) := by
 have loop : ∀ (post pre : List Job) (n : Nat), q.jobs = pre ++ post → (∀ y ∈ pre, decide (y.id = id) = false) → post.length < n → s_l34Find_l1 n q id ((List.length pre : Nat) : Int) = some (match jobAt q.jobs id with | some i => (i : Int) | none => -1) := by
  intro post
  induction post with
  | nil =>
   intro pre n h hp hn
   obtain ⟨n, rfl⟩ : ∃ m, n = m + 1 := ⟨n - 1, by omega⟩
   rw [s_l34Find_l1, ge_app h, if_neg (by simp)]
   have : jobAt q.jobs id = none := by unfold jobAt; rw [h, findIdx_skip hp]; rfl
   rw [this]
  | cons x post ih =>
   intro pre n h hp hn
   rw [List.length_cons] at hn
   obtain ⟨n, rfl⟩ : ∃ m, n = m + 1 := ⟨n - 1, by omega⟩
   rw [s_l34Find_l1, if_pos (lt_app h), at_app h, bind_some']
   cases hx : decide (x.id = id) with
   | true =>
    have : jobAt q.jobs id = some pre.length := by unfold jobAt; rw [h, findIdx_skip hp, List.findIdx?_cons, hx]; simp
    rw [this]; simp
   | false =>
    rw [if_neg (by simp), wrap_app h hl]
    exact ih (pre ++ [x]) n (next_app h) (fun y hy => by
     rcases List.mem_append.1 hy with hy | hy
     ·exact hp y hy
     ·simp only [List.mem_singleton] at hy; rw [hy]; exact hx) (by omega)
 exact loop q.jobs [] fuel rfl (by simp) (by rw [fuel_eq]; unfold Big at hl; omega)
theorem sAsked_eq (q : Queue) (id : Int) (hl : q.jobs.length ≤ Big) (hs : ∀ j ∈ q.jobs, j.Small) : s_l34Asked q id = some (asked q id) := by
 unfold s_l34Asked asked
 rw [sQueue_eq q hl hs, bind_some', find_loop q id hl]
 cases queueB q with
 | false => rfl
 | true =>
  rw [Bool.not_true, if_neg (by simp), bind_some', if_pos rfl]
  cases jobAt q.jobs id with
  | none => rfl
  | some i =>
   have : decide (((i : Nat) : Int) < 0) = false := by simp
   simp only [this]; rfl
theorem place_loop (l : List Job) (id : Int) (hl : l.length ≤ Big) : g_IndexFunc_simpl_Job l (fun y0 => i_Queue_place_1 y0 id) = some (match jobAt l id with | some i => (i : Int) | none => -1) := by
 have loop : ∀ (post pre : List Job) (n : Nat), l = pre ++ post → (∀ y ∈ pre, decide (y.id = id) = false) → post.length < n → g_IndexFunc_simpl_Job_l1 n l ((List.length pre : Nat) : Int) (fun y0 => i_Queue_place_1 y0 id) = some (match jobAt l id with | some i => (i : Int) | none => -1) := by
  intro post
  induction post with
  | nil =>
   intro pre n h hp hn
   obtain ⟨n, rfl⟩ : ∃ m, n = m + 1 := ⟨n - 1, by omega⟩
   rw [g_IndexFunc_simpl_Job_l1, ge_app h, if_neg (by simp)]
   have : jobAt l id = none := by unfold jobAt; rw [h, findIdx_skip hp]; rfl
   rw [this]
  | cons x post ih =>
   intro pre n h hp hn
   rw [List.length_cons] at hn
   obtain ⟨n, rfl⟩ : ∃ m, n = m + 1 := ⟨n - 1, by omega⟩
   have e : i_Queue_place_1 x id = some (decide (x.id = id)) := rfl
   rw [g_IndexFunc_simpl_Job_l1, if_pos (lt_app h), at_app h, bind_some', e, bind_some']
   cases hx : decide (x.id = id) with
   | true =>
    have : jobAt l id = some pre.length := by unfold jobAt; rw [h, findIdx_skip hp, List.findIdx?_cons, hx]; simp
    rw [this]; simp
   | false =>
    rw [if_neg (by simp), wrap_app h hl]
    exact ih (pre ++ [x]) n (next_app h) (fun y hy => by
     rcases List.mem_append.1 hy with hy | hy
     ·exact hp y hy
     ·simp only [List.mem_singleton] at hy; rw [hy]; exact hx) (by omega)
 exact loop l [] fuel rfl (by simp) (by rw [fuel_eq]; unfold Big at hl; omega)
theorem iFound_eq (q : Queue) (id : Int) (hl : q.jobs.length ≤ Big) (hs : ∀ j ∈ q.jobs, j.Small) : i_Queue_found q id = some (asked q id) := by
 unfold i_Queue_found asked i_Queue_place
 rw [iQueue_eq q hl hs, bind_some', place_loop q.jobs id hl]
 cases queueB q with
 | false => rfl
 | true =>
  rw [Bool.not_true, if_neg (by simp), bind_some', if_pos rfl]
  cases jobAt q.jobs id with
  | none => rfl
  | some i =>
   have : decide (((i : Nat) : Int) < 0) = false := by simp
   simp only [this]; rfl
theorem asked_ok (q : Queue) (id : Int) (h : (asked q id).2 = 0) : ∃ j, at? q.jobs (asked q id).1 = some j ∧ j ∈ q.jobs ∧ queueB q = true := by
 unfold asked at h ⊢
 split at h
 ·rename_i hq
  rw [if_pos hq]
  cases hj : jobAt q.jobs id with
  | none => rw [hj] at h; cases h
  | some i =>
   have hlt : i < q.jobs.length := by
    unfold jobAt at hj
    rw [List.findIdx?_eq_some_iff_getElem] at hj
    exact hj.1
   refine ⟨q.jobs[i], ?_, List.getElem_mem hlt, hq⟩
   unfold at?
   simp [hlt]
 ·cases h
def noJob : Job := ⟨0, 0, 0, 0, 0, 0, [], [], [], ⟨[]⟩⟩
theorem sOwnQueue_eq (q : Queue) (hl : q.jobs.length ≤ Big) (hs : ∀ j ∈ q.jobs, j.Small) : s_l34Own q = some q := by
 unfold s_l34Own
 have hc := gCopy (fun n' acc i => (s_l34Own_l2 n' q acc i).map fun r => (r.jobs)) s_l34OwnJob q.jobs hl (fun a ha => sOwnJob_eq a (hs a ha)) fun n' acc i => by
  rw [s_l34Own_l2]
  split
  ·cases at? q.jobs i with
   | none => rfl
   | some v => simp only [Option.bind]; cases s_l34OwnJob v with
    | none => rfl
    | some w => simp only; cases app? acc [w] <;> rfl
  ·rfl
 have hq : ∀ n acc i r, s_l34Own_l2 n q acc i = some r → r.quantum = q.quantum ∧ r.nextId = q.nextId ∧ r.turn = q.turn := by
  intro n
  induction n with
  | zero => intro acc i r h; rw [s_l34Own_l2] at h; cases h
  | succ n ih =>
   intro acc i r h
   rw [s_l34Own_l2] at h
   split at h
   ·cases h1 : at? q.jobs i with
    | none => rw [h1] at h; cases h
    | some v =>
     rw [h1, bind_some'] at h
     cases h2 : s_l34OwnJob v with
     | none => rw [h2] at h; cases h
     | some w =>
      rw [h2, bind_some'] at h
      cases h3 : app? acc [w] with
      | none => rw [h3] at h; cases h
      | some z => rw [h3, bind_some'] at h; exact ih _ _ _ h
   ·cases h; exact ⟨rfl, rfl, rfl⟩
 simp only [Option.map_eq_some_iff] at hc
 obtain ⟨a, h1, h2⟩ := hc
 obtain ⟨k1, k2, k3⟩ := hq _ _ _ _ h1
 rw [h1]; congr 1
 cases a; cases q; simp_all
theorem iCopyQueue_eq (q : Queue) (hl : q.jobs.length ≤ Big) (hs : ∀ j ∈ q.jobs, j.Small) : i_copyQueue q = some q := by
 unfold i_copyQueue
 have hc := gCopy (fun n' acc i => (i_copyQueue_l2 n' q acc i).map fun r => (r.jobs)) i_copyJob q.jobs hl (fun a ha => iCopyJob_eq a (hs a ha)) fun n' acc i => by
  rw [i_copyQueue_l2]
  split
  ·cases at? q.jobs i with
   | none => rfl
   | some v => simp only [Option.bind]; cases i_copyJob v with
    | none => rfl
    | some w => simp only; cases app? acc [w] <;> rfl
  ·rfl
 have hq : ∀ n acc i r, i_copyQueue_l2 n q acc i = some r → r.quantum = q.quantum ∧ r.nextId = q.nextId ∧ r.turn = q.turn := by
  intro n
  induction n with
  | zero => intro acc i r h; rw [i_copyQueue_l2] at h; cases h
  | succ n ih =>
   intro acc i r h
   rw [i_copyQueue_l2] at h
   split at h
   ·cases h1 : at? q.jobs i with
    | none => rw [h1] at h; cases h
    | some v =>
     rw [h1, bind_some'] at h
     cases h2 : i_copyJob v with
     | none => rw [h2] at h; cases h
     | some w =>
      rw [h2, bind_some'] at h
      cases h3 : app? acc [w] with
      | none => rw [h3] at h; cases h
      | some z => rw [h3, bind_some'] at h; exact ih _ _ _ h
   ·cases h; exact ⟨rfl, rfl, rfl⟩
 simp only [Option.map_eq_some_iff] at hc
 obtain ⟨a, h1, h2⟩ := hc
 obtain ⟨k1, k2, k3⟩ := hq _ _ _ _ h1
 rw [h1]; congr 1
 cases a; cases q; simp_all
end Go.Proofs.YtckcfdggbbabfaaGreat.Ab
