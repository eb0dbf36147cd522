/-
  Agents and nets: what both sides hold of them. No program is in sight.
-/
import Derived.Test.YtckcfdggbbabfaaGreatModU
import Derived.Test.YtckcfdggbbabfaaGreatPlC
import Derived.Test.YtckcfdggbbabfaaGreatPlG
namespace Go.Proofs.YtckcfdggbbabfaaGreat.Ab
set_option linter.unusedVariables false
set_option linter.unusedSimpArgs false
open Go.RowKit
theorem kind_cases (k : Int) : k = 1 ∨ k = 2 ∨ k = 3 ∨ k = 4 ∨ k = 5 ∨ k = 6 ∨ k = 7 ∨ k = 8 ∨ k = 9 ∨ k = 10 ∨ k = 11 ∨ k = 12 ∨ (k < 1 ∨ 12 < k) := by omega
def ports (k f : Int) : Int :=
 if k = 9 then (if 0 ≤ f ∧ f ≤ 3 then f + 1 else 0) else if f ≠ 0 then 0
 else if k = 1 ∨ k = 5 ∨ k = 6 ∨ k = 12 then 1 else if k = 8 ∨ k = 10 ∨ k = 11 then 2 else if k = 2 ∨ k = 3 ∨ k = 4 ∨ k = 7 then 3 else 0
theorem ne_of_out {k : Int} (h : k < 1 ∨ 12 < k) : k ≠ 1 ∧ k ≠ 2 ∧ k ≠ 3 ∧ k ≠ 4 ∧ k ≠ 5 ∧ k ≠ 6 ∧ k ≠ 7 ∧ k ≠ 8 ∧ k ≠ 9 ∧ k ≠ 10 ∧ k ≠ 11 ∧ k ≠ 12 := by omega
theorem sPorts_eq (k f : Int) : s_PortsOf k f = some (ports k f) := by
 have hw : 0 ≤ f ∧ f ≤ 3 → IntKind.i64.wrap (1 + f) = f + 1 := fun h => by rw [w64 (by omega) (by omega)]; omega
 by_cases hf : f = 0
 ·subst hf
  rcases kind_cases k with h | h | h | h | h | h | h | h | h | h | h | h | h
  all_goals first | (subst h; rfl) | skip
  have := ne_of_out h
  simp [s_PortsOf, s_PortsOf_j1, s_PortsOf_j2, s_PortsOf_j3, ports, this]
 ·by_cases h9 : k = 9
  ·subst h9
   simp only [s_PortsOf, l00In_eq, bind_some', ports, decide_true, reduceIte]
   by_cases h : 0 ≤ f ∧ f ≤ 3
   ·simp [h, hw h]
   ·simp [h]
  ·simp [s_PortsOf, ports, h9, hf]
theorem isKind_eq (k : Int) : i_isKind k = some (decide (1 ≤ k ∧ k ≤ 12)) := by
 unfold i_isKind
 by_cases h : 1 ≤ k <;> simp [h]
theorem iPorts_eq (k f : Int) : i_PortsOf k f = some (ports k f) := by
 have hw : 0 ≤ f ∧ f ≤ 3 → IntKind.i64.wrap (f + 1) = f + 1 := fun h => w64 (by omega) (by omega)
 by_cases hf : f = 0
 ·subst hf
  rcases kind_cases k with h | h | h | h | h | h | h | h | h | h | h | h | h
  all_goals first | (subst h; rfl) | skip
  have h' := ne_of_out h
  have h2 : ¬ (1 ≤ k ∧ k ≤ 12) := by omega
  simp [i_PortsOf, i_PortsOf_j1, i_PortsOf_j2, ports, isKind_eq, h', h2]
 ·by_cases h9 : k = 9
  ·subst h9
   by_cases h : 0 ≤ f ∧ f ≤ 3
   ·simp [i_PortsOf, i_PortsOf_j1, ports, h, hw h]
   ·simp only [i_PortsOf, i_PortsOf_j1, i_PortsOf_j2, ports, isKind_eq, decide_true, reduceIte, bind_some']
    by_cases h0 : 0 ≤ f
    ·have h3 : ¬ f ≤ 3 := by omega
     simp [h0, h3]
    ·simp [h0]
  ·simp [i_PortsOf, i_PortsOf_j1, i_PortsOf_j2, isKind_eq, ports, h9, hf]
def levB (k l : Int) : Bool := decide (1 ≤ k ∧ k ≤ 12) && if k = 1 ∨ k = 5 ∨ k = 6 then decide (l = 0) else decide (0 ≤ l ∧ l ≤ 8)
theorem sLevel_eq (k l : Int) : s_l10Level k l = some (levB k l) := by
 rcases kind_cases k with h | h | h | h | h | h | h | h | h | h | h | h | h
 all_goals first | (subst h; simp [s_l10Level, s_HasLevel, s_HasLevel_j1, s_l10Kind, levB, l00In_eq, bind_some']; done) | skip
 have h' := ne_of_out h
 have h2 : ¬ (1 ≤ k ∧ k ≤ 12) := by omega
 simp [s_l10Level, s_HasLevel, s_HasLevel_j1, s_l10Kind, levB, l00In_eq, bind_some', h', h2]
theorem iAllowed_eq (k l : Int) : i_isAllowed k l = some (levB k l) := by
 have hl : decide (l = 0) = true ∨ decide (l = 0) = false := by cases decide (l = 0) <;> simp
 rcases kind_cases k with h | h | h | h | h | h | h | h | h | h | h | h | h
 all_goals first | (subst h; by_cases h0 : l = 0 <;> by_cases h1 : 0 ≤ l <;> simp [i_isAllowed, isKind_eq, i_HasLevel, i_isLevel, levB, bind_some', h0, h1]; done) | skip
 all_goals first | (subst h; by_cases h0 : l = 0 <;> by_cases h1 : 0 ≤ l <;> simp [i_isAllowed, isKind_eq, i_HasLevel, i_isLevel, levB, bind_some', h0, h1] <;> omega) | skip
 have h2 : ¬ (1 ≤ k ∧ k ≤ 12) := by omega
 simp [i_isAllowed, isKind_eq, levB, bind_some', h2]
def contB (a : Agent) : Bool :=
 if a.kind = 6 then decide (a.data.length = 0) && decide (-2147483648 ≤ a.value ∧ a.value ≤ 2147483647)
 else if a.kind = 7 then decide (a.data.length = 0) && decide (1 ≤ a.value ∧ a.value ≤ 6)
 else if a.kind = 8 then decide (a.data.length = 1) && decide (1 ≤ a.value ∧ a.value ≤ 6) && a.data.all fun d => decide (-2147483648 ≤ d ∧ d ≤ 2147483647)
 else if a.kind = 9 then decide (a.data.length = 0) && decide (0 ≤ a.value ∧ a.value ≤ 3)
 else if a.kind = 12 then decide (a.data.length = 0) && inBook a.value
 else if a.kind = 10 then decide (a.value = 0) && decide (1 ≤ a.data.length ∧ a.data.length ≤ 4) && a.data.all inBook
 else if a.kind = 11 then decide (a.value = 0) && decide (a.data.length = 2) && a.data.all inBook
 else decide (a.value = 0) && decide (a.data.length = 0)
theorem l11Def_eq (n : Int) : s_l11Def n = some (inBook n) := by
 unfold s_l11Def
 rw [l00In_eq, bind_some']; rfl
theorem gAll {α : Type} (L : Nat → Int → Option Bool) (f : α → Option Bool) (p : α → Bool) (l : List α) (hL : ∀ n i, L (n + 1) i = (if (decide (i < ((List.length l : Nat) : Int))) = true then (Option.bind (at? l i) fun x => (Option.bind (f x) fun v => (if (!v) = true then (some false) else (L n (IntKind.i64.wrap (i + 1)))))) else (some true)))
  (hl : l.length ≤ Big) (hf : ∀ x ∈ l, f x = some (p x)) : L fuel 0 = some (l.all p) := by
 have loop : ∀ (post pre : List α) (n : Nat), l = pre ++ post → post.length < n → L n ((List.length pre : Nat) : Int) = some (post.all p) := by
  intro post
  induction post with
  | nil =>
   intro pre n h hn
   obtain ⟨n, rfl⟩ : ∃ m, n = m + 1 := ⟨n - 1, by omega⟩
   rw [hL, ge_app h]; simp
  | cons x post ih =>
   intro pre n h hn
   obtain ⟨n, rfl⟩ : ∃ m, n = m + 1 := ⟨n - 1, by omega⟩
   rw [hL, if_pos (lt_app h), at_app h, bind_some', hf x (by rw [h]; simp), bind_some', wrap_app h hl, List.all_cons]
   cases p x with
   | false => rfl
   | true => exact ih (pre ++ [x]) n (next_app h) (by simp at hn; omega)
 exact loop l [] fuel rfl (by rw [fuel_eq]; unfold Big at hl; omega)
theorem len0 {α : Type} {l : List α} : decide (((List.length l : Nat) : Int) = 0) = decide (l.length = 0) := by congr 1; exact propext (by omega)
theorem len1 {α : Type} {l : List α} : decide (((List.length l : Nat) : Int) = 1) = decide (l.length = 1) := by congr 1; exact propext (by omega)
theorem len2 {α : Type} {l : List α} : decide (((List.length l : Nat) : Int) = 2) = decide (l.length = 2) := by congr 1; exact propext (by omega)
theorem len14 {α : Type} {l : List α} : decide (1 ≤ ((List.length l : Nat) : Int) ∧ ((List.length l : Nat) : Int) ≤ 4) = decide (1 ≤ l.length ∧ l.length ≤ 4) := by congr 1; exact propext (by omega)
theorem content3_eq (a : Agent) (hd : a.data.length ≤ Big) : s_l11Content_l3 fuel a 0 = some (a.data.all inBook) :=
 gAll (fun n i => s_l11Content_l3 n a i) s_l11Def inBook a.data (fun n i => by rw [s_l11Content_l3]) hd fun x _ => l11Def_eq x
theorem sContent_eq (a : Agent) (hd : a.data.length ≤ Big) : s_l11Content a = some (contB a) := by
 have h3 := content3_eq a hd
 unfold s_l11Content contB
 rcases kind_cases a.kind with h | h | h | h | h | h | h | h | h | h | h | h | h
 all_goals try simp only [h, s_l11Content_j1, s_l11Content_j2, l00In_eq, l11Def_eq, bind_some', h3, len0, len1, len2, len14, eq_self, decide_true, reduceIte, Int.reduceEq, decide_false, Bool.false_eq_true]
 all_goals first | (by_cases h0 : a.value = 0 <;> by_cases h1 : a.data.length = 0 <;> simp [h0, h1]; done) | skip
 ·match hdd : a.data with
  | [] => simp
  | [d] => by_cases h1 : 1 ≤ a.value ∧ a.value ≤ 6 <;> simp [at?, h1]
  | d :: e :: l => simp
 ·cases decide (a.value = 0) <;> cases decide (1 ≤ a.data.length ∧ a.data.length ≤ 4) <;> simp
 ·cases decide (a.value = 0) <;> cases decide (a.data.length = 2) <;> simp
 ·obtain ⟨k1, k2, k3, k4, k5, k6, k7, k8, k9, k10, k11, k12⟩ := ne_of_out h
  simp only [k6, k7, k8, k9, k10, k11, k12, decide_false, Bool.false_eq_true, reduceIte]
  cases decide (a.value = 0) <;> simp
theorem nets_any {l : List Int} : l.any (fun k => !inBook k) = !l.all inBook := any_not
theorem iDefs_eq (l : List Int) (hl : l.length ≤ Big) : g_ContainsFunc_sint64 l (fun y0 => i_wellFormed_1 y0) = some (!l.all inBook) := by
 rw [containsInt l _ (fun k => !inBook k) hl (fun x _ => by unfold i_wellFormed_1; rw [isDefIndex_eq, bind_some']), nets_any]
def agB (a : Agent) : Bool := decide (0 < a.ports.length ∧ ports a.kind (if a.kind = 9 then (a.ports.length : Int) - 1 else 0) = (a.ports.length : Int)) && levB a.kind a.level && contB a
theorem sAgent_eq (a : Agent) (hp : a.ports.length ≤ Big) (hd : a.data.length ≤ Big) : s_l11Agent a = some (agB a) := by
 have hf : s_l11Fields a = some (if a.kind = 9 then (a.ports.length : Int) - 1 else 0) := by
  unfold s_l11Fields
  by_cases h : a.kind = 9
  ·simp only [h, decide_true, reduceIte]; rw [w64 (by omega) (by unfold Big at hp; omega)]
  ·simp [h]
 unfold s_l11Agent agB
 rw [hf, bind_some', sPorts_eq, bind_some', sLevel_eq, sContent_eq a hd]
 generalize ports a.kind _ = p
 by_cases h : 0 < a.ports.length ∧ p = (a.ports.length : Int)
 ·obtain ⟨h1, rfl⟩ := h
  have h2 : (0 : Int) < (a.ports.length : Int) := by omega
  cases levB a.kind a.level <;> simp [h1, h2, bind_some']
 ·by_cases h1 : (0 : Int) < p
  ·have h2 : ¬ ((a.ports.length : Int) = p) := by omega
   simp [h, h1, h2]
  ·simp [h, h1]
theorem j2_eq (x y : Bool) : i_wellFormed_j2 x y = some (x && y) := by cases x <;> simp [i_wellFormed_j2]
theorem iContent_eq (a : Agent) (hd : a.data.length ≤ Big) : i_wellFormed_j1 a false = some (contB a) := by
 unfold i_wellFormed_j1 contB
 rw [if_neg (by simp), iDefs_eq a.data hd, bind_some']
 rcases kind_cases a.kind with h | h | h | h | h | h | h | h | h | h | h | h | h
 all_goals try simp only [h, j2_eq, isInt_eq, isOperator_eq, isDefIndex_eq, bind_some', len0, len1, len2, eq_self, decide_true, reduceIte, Int.reduceEq, decide_false, Bool.false_eq_true, Bool.not_not]
 all_goals first | (by_cases h0 : a.value = 0 <;> by_cases h1 : a.data.length = 0 <;> simp [h0, h1]; done) | skip
 ·match hdd : a.data with
  | [] => simp
  | [d] => by_cases h1 : 1 ≤ a.value ∧ a.value ≤ 6 <;> simp [at?, h1]
  | d :: e :: l => simp
 ·by_cases h0 : 0 ≤ a.value
  ·have e : decide (a.value < 4) = decide (0 ≤ a.value ∧ a.value ≤ 3) := by congr 1; exact propext (by omega)
   rw [decide_eq_true h0, if_pos rfl, e, Bool.and_comm]
  ·simp [h0]
 ·by_cases h1 : 1 ≤ a.data.length <;> by_cases h2 : a.data.length ≤ 4
  ·have e1 : (1 : Int) ≤ (a.data.length : Int) := by omega
   have e2 : (a.data.length : Int) ≤ 4 := by omega
   simp [e1, e2, h1, h2]
  ·have e2 : ¬ (a.data.length : Int) ≤ 4 := by omega
   simp [e2, h2]
  ·have e1 : ¬ (1 : Int) ≤ (a.data.length : Int) := by omega
   simp [e1, h1]
  ·have e1 : ¬ (1 : Int) ≤ (a.data.length : Int) := by omega
   simp [e1, h1]
 ·cases decide (a.value = 0) <;> cases decide (a.data.length = 2) <;> simp
 ·obtain ⟨k1, k2, k3, k4, k5, k6, k7, k8, k9, k10, k11, k12⟩ := ne_of_out h
  simp only [k6, k7, k8, k9, k10, k11, k12, decide_false, Bool.false_eq_true, reduceIte]
theorem iAgent_eq (a : Agent) (hp : a.ports.length ≤ Big) (hd : a.data.length ≤ Big) : i_wellFormed a = some (agB a) := by
 unfold i_wellFormed agB
 have hf : i_fieldsOf a.kind ((List.length a.ports : Nat) : Int) = some (if a.kind = 9 then (a.ports.length : Int) - 1 else 0) := by
  unfold i_fieldsOf
  by_cases h : a.kind = 9
  ·simp only [h, decide_true, reduceIte]; rw [w64 (by omega) (by unfold Big at hp; omega)]
  ·simp [h]
 rw [hf, bind_some', iPorts_eq, bind_some', iAllowed_eq, bind_some']
 generalize ports a.kind _ = p
 have ht : i_wellFormed_j1 a true = some false := by rw [i_wellFormed_j1, if_pos rfl]
 by_cases h0 : a.ports.length = 0
 ·have e0 : ((List.length a.ports : Nat) : Int) = 0 := by omega
  rw [decide_eq_true e0, if_pos rfl, ht]
  simp [h0]
 ·have e0 : ¬ ((List.length a.ports : Nat) : Int) = 0 := by omega
  rw [decide_eq_false e0, if_neg (by simp)]
  by_cases h1 : p = ((List.length a.ports : Nat) : Int)
  ·rw [decide_eq_true h1, Bool.not_true, if_neg (by simp), decide_eq_true ⟨by omega, h1⟩, Bool.true_and]
   cases levB a.kind a.level with
   | true => rw [Bool.not_true, iContent_eq a hd, Bool.true_and]
   | false => rw [Bool.not_false, ht, Bool.false_and]
  ·rw [decide_eq_false h1, Bool.not_false, if_pos rfl, ht, decide_eq_false (fun h => h1 h.2)]
   rfl
def agsB : Nat → List Agent → Bool
 | _, [] => true
 | i, x :: l => (agB x && (decide (x.kind = 1) == decide (i = 0))) && agsB (i + 1) l
def agentsB (l : List Agent) : Bool := decide (1 ≤ l.length ∧ l.length ≤ 600) && agsB 0 l
def Agent.Small (a : Agent) : Prop := a.ports.length ≤ Big ∧ a.data.length ≤ Big
theorem root_dec {n : Nat} : decide ((n : Int) = 0) = decide (n = 0) := by congr 1; exact propext (by omega)
theorem sAgents_loop (l : List Agent) (hl : l.length ≤ Big) (hs : ∀ a ∈ l, a.Small) : ∀ (post pre : List Agent) (n : Nat), l = pre ++ post → 2 * post.length < n → s_l11Agents_l3 n l ((List.length pre : Nat) : Int) = some (agsB pre.length post) := by
 intro post
 induction post with
 | nil =>
  intro pre n h hn
  obtain ⟨n, rfl⟩ : ∃ m, n = m + 1 := ⟨n - 1, by omega⟩
  rw [s_l11Agents_l3, ge_app h]; rfl
 | cons x post ih =>
  intro pre n h hn
  simp only [List.length_cons] at hn
  obtain ⟨n, rfl⟩ : ∃ m, n = m + 2 := ⟨n - 2, by omega⟩
  obtain ⟨h1, h2⟩ := hs x (by rw [h]; simp)
  rw [s_l11Agents_l3, if_pos (lt_app h), at_app h, bind_some', sAgent_eq x h1 h2, bind_some', bind_some', s_l11Agents_j4, s_l11Agents_j4, wrap_app h hl, ih (pre ++ [x]) n (next_app h) (by omega), agsB, root_dec]
  cases agB x
  ·rfl
  ·cases (decide (x.kind = 1) == decide (pre.length = 0))
   ·rfl
   ·simp
theorem sAgents_eq (l : List Agent) (hl : l.length ≤ Big) (hs : ∀ a ∈ l, a.Small) : s_l11Agents l = some (agentsB l) := by
 unfold s_l11Agents agentsB
 rw [l00In_eq, bind_some']
 have := sAgents_loop l hl hs l [] fuel rfl (by rw [fuel_eq]; unfold Big at hl; omega)
 simp only [List.length_nil, Int.natCast_zero] at this
 rw [this]
 have e : decide (1 ≤ ((List.length l : Nat) : Int) ∧ ((List.length l : Nat) : Int) ≤ 600) = decide (1 ≤ l.length ∧ l.length ≤ 600) := by congr 1; exact propext (by omega)
 rw [e]
 cases decide (1 ≤ l.length ∧ l.length ≤ 600) <;> rfl
theorem iAgents_loop (l : List Agent) (hl : l.length ≤ Big) (hs : ∀ a ∈ l, a.Small) : ∀ (post pre : List Agent) (n : Nat), l = pre ++ post → 2 * post.length < n → i_areAgents_l4 n l ((List.length pre : Nat) : Int) = some (agsB pre.length post) := by
 intro post
 induction post with
 | nil =>
  intro pre n h hn
  obtain ⟨n, rfl⟩ : ∃ m, n = m + 1 := ⟨n - 1, by omega⟩
  rw [i_areAgents_l4, ge_app h]; rfl
 | cons x post ih =>
  intro pre n h hn
  simp only [List.length_cons] at hn
  obtain ⟨n, rfl⟩ : ∃ m, n = m + 2 := ⟨n - 2, by omega⟩
  obtain ⟨h1, h2⟩ := hs x (by rw [h]; simp)
  rw [i_areAgents_l4, if_pos (lt_app h), at_app h, bind_some', iAgent_eq x h1 h2, bind_some', i_areAgents_j5, i_areAgents_j5, wrap_app h hl, ih (pre ++ [x]) n (next_app h) (by omega), agsB, root_dec]
  cases agB x
  ·rfl
  ·cases (decide (x.kind = 1) == decide (pre.length = 0))
   ·rfl
   ·simp
theorem iAgents_eq (l : List Agent) (hl : l.length ≤ Big) (hs : ∀ a ∈ l, a.Small) : i_areAgents l = some (agentsB l) := by
 have h4 := iAgents_loop l hl hs l [] fuel rfl (by rw [fuel_eq]; unfold Big at hl; omega)
 simp only [List.length_nil, Int.natCast_zero] at h4
 unfold i_areAgents agentsB
 rw [i_areAgents_j1, i_areAgents_j1, h4]
 by_cases h1 : 1 ≤ l.length
 ·have e1 : ¬ ((List.length l : Nat) : Int) < 1 := by omega
  by_cases h2 : l.length ≤ 600
  ·have e2 : ¬ (600 : Int) < ((List.length l : Nat) : Int) := by omega
   simp [e1, e2, h1, h2]
  ·have e2 : (600 : Int) < ((List.length l : Nat) : Int) := by omega
   simp [e1, e2, h1, h2]
 ·have e1 : ((List.length l : Nat) : Int) < 1 := by omega
  simp [e1, h1]
def peerB (l : List Agent) (p : Port) : Option Port := (at? l p.agent).bind fun y => at? y.ports p.slot
def wireB (l : List Agent) (i k : Nat) (p : Port) : Bool := !(decide (p.agent = i) && decide (p.slot = k)) && match peerB l p with
 | some q => decide (q.agent = i) && decide (q.slot = k)
 | none => false
def wiresB (l : List Agent) (i : Nat) : Nat → List Port → Bool
 | _, [] => true
 | k, p :: ps => wireB l i k p && wiresB l i (k + 1) ps
def allWiresB (l : List Agent) : Nat → List Agent → Bool
 | _, [] => true
 | i, x :: xs => wiresB l i 0 x.ports && allWiresB l (i + 1) xs
def Net.valid (n : Net) : Bool := agentsB n.agents && allWiresB n.agents 0 n.agents
theorem at_none {α : Type} {l : List α} {i : Int} (h : ¬ (0 ≤ i ∧ i < (l.length : Int))) : at? l i = none := by
 unfold at?
 split
 ·rw [List.getElem?_eq_none]; omega
 ·rfl
theorem at_get {α : Type} {l : List α} {i : Int} (h : 0 ≤ i ∧ i < (l.length : Int)) : ∃ x, at? l i = some x ∧ x ∈ l := by
 unfold at?
 rw [if_pos h.1]
 have : i.toNat < l.length := by omega
 exact ⟨l[i.toNat], by rw [List.getElem?_eq_getElem this], List.getElem_mem this⟩
theorem sPort_eq (l : List Agent) (p : Port) (hl : l.length ≤ Big) (hs : ∀ a ∈ l, a.Small) : s_l11Port l p = some (peerB l p).isSome := by
 unfold s_l11Port peerB
 rw [l00In_eq, bind_some', w64 (by omega) (by unfold Big at hl; omega)]
 by_cases h : 0 ≤ p.agent ∧ p.agent < (l.length : Int)
 ·obtain ⟨y, hy, hm⟩ := at_get h
  rw [decide_eq_true ⟨h.1, by omega⟩, if_pos rfl, hy, bind_some', bind_some', l00In_eq, bind_some']
  have := (hs y hm).1
  rw [w64 (by omega) (by unfold Big at this; omega)]
  by_cases h2 : 0 ≤ p.slot ∧ p.slot < (y.ports.length : Int)
  ·obtain ⟨q, hq, -⟩ := at_get h2
   rw [decide_eq_true ⟨h2.1, by omega⟩, hq]; rfl
  ·rw [decide_eq_false (by omega), at_none h2]; rfl
 ·rw [decide_eq_false (by omega), at_none h]; rfl
theorem hasPort_eq (l : List Agent) (p : Port) : i_hasPort l p = some (peerB l p).isSome := by
 unfold i_hasPort peerB
 by_cases h : 0 ≤ p.agent ∧ p.agent < (l.length : Int)
 ·obtain ⟨y, hy, hm⟩ := at_get h
  rw [decide_eq_true h.1, if_pos rfl, decide_eq_true h.2, if_pos rfl, hy, bind_some', bind_some']
  by_cases h2 : 0 ≤ p.slot
  ·rw [decide_eq_true h2, if_pos rfl]
   by_cases h3 : p.slot < (y.ports.length : Int)
   ·obtain ⟨q, hq, -⟩ := at_get ⟨h2, h3⟩
    rw [decide_eq_true h3, hq]; rfl
   ·rw [decide_eq_false h3, at_none (fun h => h3 h.2)]; rfl
  ·rw [decide_eq_false h2, if_neg (by simp), at_none (fun h => h2 h.1)]; rfl
 ·rw [at_none h]
  by_cases h1 : 0 ≤ p.agent
  ·have h2 : ¬ p.agent < (l.length : Int) := fun h3 => h ⟨h1, h3⟩
   simp [h1, h2]
  ·simp [h1]
theorem sWires_loop (n : Net) (hl : n.agents.length ≤ Big) (hs : ∀ a ∈ n.agents, a.Small) (i : Nat) (x : Agent) (hx : x.Small) (R : Bool) (N : Nat) (hR : ∀ m, N ≤ m → s_l11Ok_l9 m n (IntKind.i64.wrap ((i : Int) + 1)) = some R) :
  ∀ (post pre : List Port) (m : Nat), x.ports = pre ++ post → 2 * post.length + 1 + N ≤ m → s_l11Ok_l12 m n (i : Int) x ((List.length pre : Nat) : Int) = some (wiresB n.agents i pre.length post && R) := by
 intro post
 induction post with
 | nil =>
  intro pre m h hm
  simp only [List.length_nil] at hm
  obtain ⟨m, rfl⟩ : ∃ k, m = k + 1 := ⟨m - 1, by omega⟩
  rw [s_l11Ok_l12, ge_app h, if_neg (by simp), hR m (by omega), wiresB]; rfl
 | cons p post ih =>
  intro pre m h hm
  simp only [List.length_cons] at hm
  obtain ⟨m, rfl⟩ : ∃ k, m = k + 2 := ⟨m - 2, by omega⟩
  have h13 : ∀ b, s_l11Ok_j13 (m + 1) n (i : Int) ((List.length pre : Nat) : Int) x b = some (!b && (wiresB n.agents i (pre.length + 1) post && R)) := fun b => by
   rw [s_l11Ok_j13, wrap_app h hx.1, ih (pre ++ [p]) m (next_app h) (by omega), List.length_append, List.length_singleton]
   cases b <;> simp
  rw [s_l11Ok_l12, if_pos (lt_app h), at_app h, bind_some', h13, sPort_eq n.agents p hl hs, bind_some', wiresB, wireB]
  cases (decide (p.agent = (i : Int)) && decide (p.slot = ((List.length pre : Nat) : Int))) with
  | true => simp
  | false =>
   rw [if_neg (by simp)]
   cases hp : peerB n.agents p with
   | none => simp
   | some q =>
    unfold peerB at hp
    simp only [Option.bind_eq_some_iff] at hp
    obtain ⟨y, hy, hq⟩ := hp
    rw [hy, bind_some', hq, bind_some', h13]
    simp [Bool.and_assoc]
theorem sOk_loop (n : Net) (hl : n.agents.length ≤ Big) (hs : ∀ a ∈ n.agents, a.Small) : ∀ (post pre : List Agent) (m : Nat), n.agents = pre ++ post → 2 * szl (fun a => a.ports.length) post + 1 ≤ m → s_l11Ok_l9 m n ((List.length pre : Nat) : Int) = some (allWiresB n.agents pre.length post) := by
 intro post
 induction post with
 | nil =>
  intro pre m h hm
  obtain ⟨m, rfl⟩ : ∃ k, m = k + 1 := ⟨m - 1, by omega⟩
  rw [s_l11Ok_l9, ge_app h]; rfl
 | cons x post ih =>
  intro pre m h hm
  simp only [szl] at hm
  obtain ⟨m, rfl⟩ : ∃ k, m = k + 1 := ⟨m - 1, by omega⟩
  rw [s_l11Ok_l9, if_pos (lt_app h), at_app h, bind_some', allWiresB]
  refine sWires_loop n hl hs pre.length x (hs x (by rw [h]; simp)) _ (2 * szl (fun a => a.ports.length) post + 1) (fun k hk => ?_) x.ports [] m rfl (by omega)
  rw [wrap_app h hl, ih (pre ++ [x]) k (next_app h) hk, List.length_append, List.length_singleton]
def Net.Small (n : Net) : Prop := szl (fun a => a.ports.length) n.agents ≤ Big ∧ ∀ a ∈ n.agents, a.data.length ≤ Big
theorem Net.Small.agents {n : Net} (h : n.Small) : n.agents.length ≤ Big ∧ ∀ a ∈ n.agents, a.Small :=
 ⟨Nat.le_trans (szl_len (fun a => a.ports.length) _) h.1, fun a ha => ⟨by have := szl_mem (s := fun a : Agent => a.ports.length) ha; have := h.1; omega, h.2 a ha⟩⟩
theorem sNet_eq (n : Net) (h : n.Small) : s_l11Ok n = some n.valid := by
 obtain ⟨hl, hs⟩ := h.agents
 unfold s_l11Ok Net.valid
 rw [sAgents_eq _ hl hs, bind_some']
 have := sOk_loop n hl hs n.agents [] fuel rfl (by rw [fuel_eq]; have := h.1; unfold Big at this; omega)
 simp only [List.length_nil, Int.natCast_zero] at this
 rw [this]
 cases agentsB n.agents <;> simp
def portsL (i : Nat) : Nat → List Port → List Port
 | _, [] => []
 | k, _ :: ps => ⟨(i : Int), (k : Int)⟩ :: portsL i (k + 1) ps
def allPorts : Nat → List Agent → List Port
 | _, [] => []
 | i, x :: xs => portsL i 0 x.ports ++ allPorts (i + 1) xs
theorem portsL_len (i : Nat) : ∀ (ps : List Port) (k : Nat), (portsL i k ps).length = ps.length
 | [], _ => rfl
 | _ :: ps, k => by rw [portsL, List.length_cons, portsL_len i ps, List.length_cons]
theorem allPorts_len : ∀ (l : List Agent) (i : Nat), (allPorts i l).length ≤ szl (fun a => a.ports.length) l
 | [], _ => by simp [allPorts, szl]
 | x :: l, i => by
  have := allPorts_len l (i + 1)
  simp only [allPorts, szl, List.length_append, portsL_len]; omega
theorem iPorts8 (n : Net) (i : Nat) (x : Agent) (hx : x.Small) (Z : List Port) (N : Nat) :
  ∀ (post pre : List Port) (acc : List Port) (m : Nat), x.ports = pre ++ post → acc.length + post.length ≤ Big → (∀ m, N ≤ m → i_Net_ports_l4 m n (acc ++ portsL i pre.length post) (IntKind.i64.wrap ((i : Int) + 1)) = some Z) → post.length + 1 + N ≤ m → i_Net_ports_l8 m n (i : Int) x acc ((List.length pre : Nat) : Int) = some Z := by
 intro post
 induction post with
 | nil =>
  intro pre acc m h hacc hR hm
  simp only [List.length_nil] at hm
  obtain ⟨m, rfl⟩ : ∃ k, m = k + 1 := ⟨m - 1, by omega⟩
  rw [i_Net_ports_l8, ge_app h, if_neg (by simp)]
  have := hR m (by omega)
  simpa [portsL] using this
 | cons p post ih =>
  intro pre acc m h hacc hR hm
  simp only [List.length_cons] at hm hacc
  obtain ⟨m, rfl⟩ : ∃ k, m = k + 1 := ⟨m - 1, by omega⟩
  rw [i_Net_ports_l8, if_pos (lt_app h), app_ok (by simp; omega), bind_some', wrap_app h hx.1]
  refine ih (pre ++ [p]) _ m (next_app h) (by simp; omega) (fun k hk => ?_) (by omega)
  have := hR k hk
  simp only [portsL] at this
  simp only [List.length_append, List.length_singleton, List.append_assoc, List.cons_append, List.nil_append]
  exact this
theorem iPorts4 (n : Net) (hl : n.agents.length ≤ Big) (hs : ∀ a ∈ n.agents, a.Small) : ∀ (post pre : List Agent) (acc : List Port) (m : Nat), n.agents = pre ++ post → acc.length + szl (fun a => a.ports.length) post ≤ Big → 2 * szl (fun a => a.ports.length) post + 1 ≤ m → i_Net_ports_l4 m n acc ((List.length pre : Nat) : Int) = some (acc ++ allPorts pre.length post) := by
 intro post
 induction post with
 | nil =>
  intro pre acc m h hacc hm
  obtain ⟨m, rfl⟩ : ∃ k, m = k + 1 := ⟨m - 1, by omega⟩
  rw [i_Net_ports_l4, ge_app h]; simp [allPorts]
 | cons x post ih =>
  intro pre acc m h hacc hm
  simp only [szl] at hm hacc
  obtain ⟨m, rfl⟩ : ∃ k, m = k + 1 := ⟨m - 1, by omega⟩
  rw [i_Net_ports_l4, if_pos (lt_app h), at_app h, bind_some']
  refine iPorts8 n pre.length x (hs x (by rw [h]; simp)) _ (2 * szl (fun a => a.ports.length) post + 1) x.ports [] acc m rfl (by omega) (fun k hk => ?_) (by omega)
  rw [wrap_app h hl, ih (pre ++ [x]) _ k (next_app h) (by simp [portsL_len]; omega) hk, List.length_append, List.length_singleton, allPorts, List.append_assoc]
  rfl
theorem iNetPorts_eq (n : Net) (h : n.Small) : i_Net_ports n = some (allPorts 0 n.agents) := by
 obtain ⟨hl, hs⟩ := h.agents
 unfold i_Net_ports
 have := iPorts4 n hl hs n.agents [] [] fuel rfl (by have := h.1; simp; exact this) (by rw [fuel_eq]; have := h.1; unfold Big at this; omega)
 simpa using this
def badB (l : List Agent) (p : Port) : Bool := match peerB l p with
 | some q => !wireB l p.agent.toNat p.slot.toNat q
 | none => true
theorem iValid1_eq (n : Net) (i k : Nat) (q : Port) (hq : peerB n.agents ⟨(i : Int), (k : Int)⟩ = some q) : i_ValidNet_1 ⟨(i : Int), (k : Int)⟩ n = some (badB n.agents ⟨(i : Int), (k : Int)⟩) := by
 have hpeer : ∀ (p r : Port), peerB n.agents p = some r → i_Net_peer n p = some r := fun p r h => by
  unfold peerB at h
  simp only [Option.bind_eq_some_iff] at h
  obtain ⟨y, hy, hr⟩ := h
  unfold i_Net_peer
  rw [hy, bind_some', hr]; rfl
 unfold i_ValidNet_1 badB
 rw [hpeer _ _ hq, bind_some', hq, hasPort_eq, bind_some']
 simp only [wireB, Int.toNat_natCast]
 cases (decide (q.agent = (i : Int)) && decide (q.slot = (k : Int))) with
 | true => simp
 | false =>
  cases hp : peerB n.agents q with
  | none => simp
  | some r => rw [hpeer _ _ hp, bind_some']; simp
theorem containsPort (l : List Port) (f : Port → Option Bool) (p : Port → Bool) (hl : l.length ≤ Big) (hf : ∀ x ∈ l, f x = some (p x)) : g_ContainsFunc_simpl_Port l f = some (l.any p) := by
 obtain ⟨i, h1, h2, -⟩ := indexFunc_go g_IndexFunc_simpl_Port_l1 (fun n l i f => by rw [g_IndexFunc_simpl_Port_l1]) l f p hl hf
 unfold g_ContainsFunc_simpl_Port g_IndexFunc_simpl_Port
 rw [h1, bind_some']
 congr 1
 rw [Bool.eq_iff_iff, decide_eq_true_eq]; exact h2
theorem peer_at {l pre post : List Agent} {x : Agent} {ppre ppost : List Port} {p : Port} (h : l = pre ++ x :: post) (hx : x.ports = ppre ++ p :: ppost) : peerB l ⟨((List.length pre : Nat) : Int), ((List.length ppre : Nat) : Int)⟩ = some p := by
 unfold peerB
 rw [at_app h, Option.bind_some, at_app hx]
theorem ports_any {l pre post : List Agent} {x : Agent} (h : l = pre ++ x :: post) : ∀ (ps ppre : List Port), x.ports = ppre ++ ps → (portsL pre.length ppre.length ps).any (badB l) = !wiresB l pre.length ppre.length ps
 | [], _, _ => by simp [portsL, wiresB]
 | p :: ps, ppre, hx => by
  have := ports_any h ps (ppre ++ [p]) (next_app hx)
  rw [List.length_append, List.length_singleton] at this
  rw [portsL, wiresB, List.any_cons, this, badB, peer_at h hx]
  simp
theorem ports_mem {l pre post : List Agent} {x : Agent} (h : l = pre ++ x :: post) : ∀ (ps ppre : List Port), x.ports = ppre ++ ps → ∀ y ∈ portsL pre.length ppre.length ps, ∃ (i k : Nat) (q : Port), y = ⟨(i : Int), (k : Int)⟩ ∧ peerB l ⟨(i : Int), (k : Int)⟩ = some q
 | [], _, _, y, hy => by simp [portsL] at hy
 | p :: ps, ppre, hx, y, hy => by
  rw [portsL, List.mem_cons] at hy
  rcases hy with rfl | hy
  ·exact ⟨_, _, p, rfl, peer_at h hx⟩
  ·exact ports_mem h ps (ppre ++ [p]) (next_app hx) y (by rw [List.length_append, List.length_singleton]; exact hy)
theorem all_any {l : List Agent} : ∀ (post pre : List Agent), l = pre ++ post → (allPorts pre.length post).any (badB l) = !allWiresB l pre.length post
 | [], _, _ => by simp [allPorts, allWiresB]
 | x :: post, pre, h => by
  have h1 := all_any post (pre ++ [x]) (next_app h)
  rw [List.length_append, List.length_singleton] at h1
  have h2 := ports_any h x.ports [] rfl
  rw [List.length_nil] at h2
  rw [allPorts, allWiresB, List.any_append, h1, h2]
  simp
theorem all_mem {l : List Agent} : ∀ (post pre : List Agent), l = pre ++ post → ∀ y ∈ allPorts pre.length post, ∃ (i k : Nat) (q : Port), y = ⟨(i : Int), (k : Int)⟩ ∧ peerB l ⟨(i : Int), (k : Int)⟩ = some q
 | [], _, _, y, hy => by simp [allPorts] at hy
 | x :: post, pre, h, y, hy => by
  rw [allPorts, List.mem_append] at hy
  rcases hy with hy | hy
  ·exact ports_mem h x.ports [] rfl y hy
  ·exact all_mem post (pre ++ [x]) (next_app h) y (by rw [List.length_append, List.length_singleton]; exact hy)
theorem iNet_eq (n : Net) (h : n.Small) : i_ValidNet n = some n.valid := by
 obtain ⟨hl, hs⟩ := h.agents
 unfold i_ValidNet Net.valid
 rw [iAgents_eq _ hl hs, bind_some', iNetPorts_eq n h, bind_some', containsPort _ _ (badB n.agents) (Nat.le_trans (allPorts_len _ _) h.1) (fun y hy => by
  obtain ⟨i, k, q, rfl, hq⟩ := all_mem n.agents [] rfl y hy
  exact iValid1_eq n i k q hq), bind_some']
 have := all_any (l := n.agents) n.agents [] rfl
 rw [List.length_nil] at this
 rw [this]
 cases agentsB n.agents <;> simp
end Go.Proofs.YtckcfdggbbabfaaGreat.Ab
