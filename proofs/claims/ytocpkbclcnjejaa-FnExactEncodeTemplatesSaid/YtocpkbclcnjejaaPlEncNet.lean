/-
  EncodeNet: the law on the models. By hand.
-/
import Derived.Test.YtocpkbclcnjejaaModB
import Derived.Test.YtocpkbclcnjejaaPlNet
import Derived.Test.YtocpkbclcnjejaaPlNum
import Derived.Test.YtocpkbclcnjejaaPlTU
namespace Go.Proofs.Ytocpkbclcnjejaa.Ab
set_option linter.unusedVariables false
set_option linter.unusedSimpArgs false
set_option maxRecDepth 20000
set_option maxHeartbeats 4000000
open Go.RowKit

/-! ### Ports and wires -/
def befB (p q : Port) : Bool := decide (p.agent < q.agent) || (decide (p.agent = q.agent) && decide (p.slot < q.slot))
theorem sBef (p q : Port) : s_l11Before p q = some (befB p q) := by
  unfold s_l11Before befB; by_cases h : p.agent < q.agent <;> by_cases h2 : p.agent = q.agent <;> simp [h, h2]
theorem iBef (p q : Port) : i_Port_before p q = some (befB p q) := by
  unfold i_Port_before befB; by_cases h : p.agent < q.agent <;> by_cases h2 : p.agent = q.agent <;> simp [h, h2]
def portEnc (p : Port) : List Int := varint (zig p.agent) ++ [IntKind.u8.wrap p.slot]
def wiresL (i : Nat) : Nat → List Port → List Wire
  | _, [] => []
  | k, p :: ps => (if befB ⟨(i : Int), (k : Int)⟩ p = true then [⟨⟨(i : Int), (k : Int)⟩, p⟩] else []) ++ wiresL i (k + 1) ps
def allWires : Nat → List Agent → List Wire
  | _, [] => []
  | i, x :: xs => wiresL i 0 x.ports ++ allWires (i + 1) xs
theorem wiresL_len (i : Nat) : ∀ (ps : List Port) (k : Nat), (wiresL i k ps).length ≤ ps.length
  | [], _ => by simp [wiresL]
  | p :: ps, k => by
    have := wiresL_len i ps (k + 1)
    rw [wiresL, List.length_append, List.length_cons]
    split <;> simp <;> omega
theorem allWires_len : ∀ (l : List Agent) (i : Nat), (allWires i l).length ≤ szl (fun a => a.ports.length) l
  | [], _ => by simp [allWires]
  | x :: l, i => by
    have := allWires_len l (i + 1)
    have := wiresL_len i x.ports 0
    simp only [allWires, szl, List.length_append]; omega
theorem sWires14 (n : Net) {pre post : List Agent} {x : Agent} (h : n.agents = pre ++ x :: post) (hx : x.ports.length ≤ Big) (Z : List Wire) (N : Nat) :
    ∀ (qs ps : List Port) (acc : List Wire) (m : Nat), x.ports = ps ++ qs → acc.length + qs.length ≤ Big → (∀ m, N ≤ m → s_l11Wires_l12 m n (acc ++ wiresL pre.length ps.length qs) (IntKind.i64.wrap ((List.length pre : Nat) + 1 : Int)) = some Z) → qs.length + 1 + N ≤ m → s_l11Wires_l14 m n ((List.length pre : Nat) : Int) acc ((List.length ps : Nat) : Int) = some Z := by
  intro qs
  induction qs with
  | nil =>
    intro ps acc m hp hacc hR hm
    simp only [List.length_nil] at hm
    obtain ⟨m, rfl⟩ : ∃ k, m = k + 1 := ⟨m - 1, by omega⟩
    rw [s_l11Wires_l14, at_app h, bind_some', ge_app hp, if_neg (by simp)]
    have := hR m (by omega)
    simpa [wiresL] using this
  | cons p qs ih =>
    intro ps acc m hp hacc hR hm
    simp only [List.length_cons] at hm hacc
    obtain ⟨m, rfl⟩ : ∃ k, m = k + 1 := ⟨m - 1, by omega⟩
    rw [s_l11Wires_l14, at_app h, bind_some', if_pos (lt_app hp), bind_some', at_app hp, bind_some', sBef, bind_some']
    cases hb : befB ⟨((List.length pre : Nat) : Int), ((List.length ps : Nat) : Int)⟩ p with
    | true =>
      rw [if_pos rfl, bind_some', at_app hp, bind_some', app_ok (by simp; omega), bind_some', wrap_app hp hx]
      refine ih (ps ++ [p]) _ m (next_app hp) (by simp; omega) (fun k hk => ?_) (by omega)
      have := hR k hk
      rw [wiresL, if_pos hb] at this
      simp only [List.length_append, List.length_singleton, List.append_assoc, List.cons_append, List.nil_append] at this ⊢
      exact this
    | false =>
      rw [if_neg (by simp), wrap_app hp hx]
      refine ih (ps ++ [p]) _ m (next_app hp) (by omega) (fun k hk => ?_) (by omega)
      have := hR k hk
      rw [wiresL, if_neg (by rw [hb]; simp), List.nil_append] at this
      simp only [List.length_append, List.length_singleton]
      exact this
theorem sWires12 (n : Net) (hl : n.agents.length ≤ Big) (hs : ∀ a ∈ n.agents, a.ports.length ≤ Big) : ∀ (post pre : List Agent) (acc : List Wire) (m : Nat), n.agents = pre ++ post → acc.length + szl (fun a => a.ports.length) post ≤ Big → 2 * szl (fun a => a.ports.length) post + 1 ≤ m → s_l11Wires_l12 m n acc ((List.length pre : Nat) : Int) = some (acc ++ allWires pre.length post) := by
  intro post
  induction post with
  | nil =>
    intro pre acc m h hacc hm
    obtain ⟨m, rfl⟩ : ∃ k, m = k + 1 := ⟨m - 1, by omega⟩
    rw [s_l11Wires_l12, ge_app h]; simp [allWires]
  | cons x post ih =>
    intro pre acc m h hacc hm
    simp only [szl] at hm hacc
    obtain ⟨m, rfl⟩ : ∃ k, m = k + 1 := ⟨m - 1, by omega⟩
    have hwl := wiresL_len pre.length x.ports 0
    rw [s_l11Wires_l12, if_pos (lt_app h)]
    refine sWires14 n h (hs x (by rw [h]; simp)) _ (2 * szl (fun a => a.ports.length) post + 1) x.ports [] acc m rfl (by omega) (fun k hk => ?_) (by omega)
    rw [wrap_app h hl, ih (pre ++ [x]) _ k (next_app h) (by rw [List.length_append]; simp only [List.length_nil]; omega) hk, List.length_append, List.length_singleton, allWires, List.append_assoc]
    rfl
theorem sWires_eq (n : Net) (h : n.Small) : s_l11Wires n = some (allWires 0 n.agents) := by
  obtain ⟨hl, hs⟩ := h.agents
  unfold s_l11Wires
  have := sWires12 n hl (fun a ha => (hs a ha).1) n.agents [] [] fuel rfl (by have := h.1; simp; exact this) (by rw [fuel_eq]; have := h.1; unfold Big at this; omega)
  simpa using this
def I32 (v : Int) : Prop := -2147483648 ≤ v ∧ v ≤ 2147483647
theorem sW44 (ws : List Wire) (hl : ws.length ≤ Big) (hr : ∀ w ∈ ws, I32 w.b.agent) : ∀ (post pre : List Wire) (m : Nat) (acc : List Int), ws = pre ++ post → post.length + 1 ≤ m → acc.length + 6 * post.length ≤ Big → s_l33PutNet_l44 m ws acc ((List.length pre : Nat) : Int) = some (acc ++ post.flatMap fun w => portEnc w.b) := by
  intro post
  induction post with
  | nil =>
    intro pre m acc h hm ha
    obtain ⟨m, rfl⟩ : ∃ k, m = k + 1 := ⟨m - 1, by omega⟩
    rw [s_l33PutNet_l44, ge_app h]; simp
  | cons w post ih =>
    intro pre m acc h hm ha
    simp only [List.length_cons] at hm ha
    obtain ⟨m, rfl⟩ : ∃ k, m = k + 1 := ⟨m - 1, by omega⟩
    have hw := hr w (by rw [h]; simp)
    have hz := zig_len hw.1 hw.2
    rw [s_l33PutNet_l44, if_pos (lt_app h), at_app h, bind_some', bind_some', sNum_eq _ _ hw.1 hw.2 (by omega), bind_some', app_ok (by simp; omega), bind_some', wrap_app h hl, ih (pre ++ [w]) m _ (next_app h) (by omega) (by simp; omega)]
    simp [portEnc]
/-- What a port adds. -/
def pEnc (l : List Agent) (p : Port) : List Int := match peerB l p with
  | some q => if befB p q = true then portEnc q else []
  | none => []
theorem iPeer (n : Net) (p r : Port) (h : peerB n.agents p = some r) : i_Net_peer n p = some r := by
  unfold peerB at h
  simp only [Option.bind_eq_some_iff] at h
  obtain ⟨y, hy, hr⟩ := h
  unfold i_Net_peer
  rw [hy, bind_some', hr]; rfl
theorem iW44 (n : Net) (ps : List Port) (hl : ps.length ≤ Big) (hr : ∀ p ∈ ps, ∃ q, peerB n.agents p = some q ∧ I32 q.agent) : ∀ (post pre : List Port) (m : Nat) (acc : List Int), ps = pre ++ post → post.length + 1 ≤ m → acc.length + 6 * post.length ≤ Big → i_appendNet_l44 m n ps acc ((List.length pre : Nat) : Int) = some (acc ++ post.flatMap (pEnc n.agents)) := by
  intro post
  induction post with
  | nil =>
    intro pre m acc h hm ha
    obtain ⟨m, rfl⟩ : ∃ k, m = k + 1 := ⟨m - 1, by omega⟩
    rw [i_appendNet_l44, ge_app h]; simp
  | cons w post ih =>
    intro pre m acc h hm ha
    simp only [List.length_cons] at hm ha
    obtain ⟨m, rfl⟩ : ∃ k, m = k + 1 := ⟨m - 1, by omega⟩
    obtain ⟨q, hq, hw⟩ := hr w (by rw [h]; simp)
    have hz := zig_len hw.1 hw.2
    rw [i_appendNet_l44, if_pos (lt_app h), at_app h, bind_some', iPeer n w q hq, bind_some', iBef, bind_some', List.flatMap_cons, show pEnc n.agents w = if befB w q = true then portEnc q else [] by unfold pEnc; rw [hq]]
    cases hb : befB w q with
    | true =>
      rw [if_pos rfl, iNum_eq _ _ hw.1 hw.2 (by omega), bind_some', app_ok (by simp; omega), bind_some', wrap_app h hl, ih (pre ++ [w]) m _ (next_app h) (by omega) (by simp; omega)]
      simp [portEnc]
    | false =>
      rw [if_neg (by simp), wrap_app h hl, ih (pre ++ [w]) m _ (next_app h) (by omega) (by omega)]
      simp
theorem ports_flat {l pre post : List Agent} {x : Agent} (h : l = pre ++ x :: post) : ∀ (qs ps : List Port), x.ports = ps ++ qs → (portsL pre.length ps.length qs).flatMap (pEnc l) = (wiresL pre.length ps.length qs).flatMap fun w => portEnc w.b
  | [], _, _ => by simp [portsL, wiresL]
  | p :: qs, ps, hx => by
    have := ports_flat h qs (ps ++ [p]) (next_app hx)
    rw [List.length_append, List.length_singleton] at this
    rw [portsL, wiresL, List.flatMap_cons, this, pEnc, peer_at h hx]
    cases hb : befB ⟨((List.length pre : Nat) : Int), ((List.length ps : Nat) : Int)⟩ p <;> simp [hb]
theorem all_flat {l : List Agent} : ∀ (post pre : List Agent), l = pre ++ post → (allPorts pre.length post).flatMap (pEnc l) = (allWires pre.length post).flatMap fun w => portEnc w.b
  | [], _, _ => by simp [allPorts, allWires]
  | x :: post, pre, h => by
    have h1 := all_flat post (pre ++ [x]) (next_app h)
    rw [List.length_append, List.length_singleton] at h1
    have h2 := ports_flat h x.ports [] rfl
    rw [List.length_nil] at h2
    rw [allPorts, allWires, List.flatMap_append, h1, h2, List.flatMap_append]
/-! ### What stands at a port of a valid net -/
theorem wire_in {l : List Agent} {i k : Nat} {p : Port} (h : wireB l i k p = true) (hl : l.length ≤ 600) : I32 p.agent := by
  unfold wireB at h
  rw [Bool.and_eq_true] at h
  have h2 := h.2
  cases hp : peerB l p with
  | none => rw [hp] at h2; simp at h2
  | some q =>
    unfold peerB at hp
    by_cases hh : 0 ≤ p.agent ∧ p.agent < (l.length : Int)
    · unfold I32; omega
    · rw [at_none hh] at hp; simp at hp
theorem wiresL_in {l : List Agent} (hl : l.length ≤ 600) (i : Nat) : ∀ (ps : List Port) (k : Nat), wiresB l i k ps = true → (∀ p ∈ ps, I32 p.agent) ∧ ∀ w ∈ wiresL i k ps, I32 w.b.agent
  | [], _, _ => ⟨fun _ h => (List.not_mem_nil h).elim, fun _ h => by simp [wiresL] at h⟩
  | p :: ps, k, h => by
    rw [wiresB, Bool.and_eq_true] at h
    have hp := wire_in h.1 hl
    obtain ⟨h1, h2⟩ := wiresL_in hl i ps (k + 1) h.2
    refine ⟨fun q hq => ?_, fun w hw => ?_⟩
    · rcases List.mem_cons.1 hq with rfl | hq
      · exact hp
      · exact h1 q hq
    · rw [wiresL, List.mem_append] at hw
      rcases hw with hw | hw
      · split at hw
        · rw [List.mem_singleton] at hw; subst hw; exact hp
        · simp at hw
      · exact h2 w hw
theorem allWires_in {l : List Agent} (hl : l.length ≤ 600) : ∀ (xs : List Agent) (i : Nat), allWiresB l i xs = true → (∀ x ∈ xs, ∀ p ∈ x.ports, I32 p.agent) ∧ ∀ w ∈ allWires i xs, I32 w.b.agent
  | [], _, _ => ⟨fun _ h => (List.not_mem_nil h).elim, fun _ h => by simp [allWires] at h⟩
  | x :: xs, i, h => by
    rw [allWiresB, Bool.and_eq_true] at h
    obtain ⟨h1, h2⟩ := wiresL_in hl i x.ports 0 h.1
    obtain ⟨h3, h4⟩ := allWires_in hl xs (i + 1) h.2
    refine ⟨fun q hq => ?_, fun w hw => ?_⟩
    · rcases List.mem_cons.1 hq with rfl | hq
      · exact h1
      · exact h3 q hq
    · rw [allWires, List.mem_append] at hw
      rcases hw with hw | hw
      · exact h2 w hw
      · exact h4 w hw
theorem peer_in {l : List Agent} {p q : Port} (hi : ∀ x ∈ l, ∀ p ∈ x.ports, I32 p.agent) (h : peerB l p = some q) : I32 q.agent := by
  unfold peerB at h
  simp only [Option.bind_eq_some_iff] at h
  obtain ⟨y, hy, hq⟩ := h
  have mem : ∀ {α : Type} {l : List α} {i : Int} {x : α}, at? l i = some x → x ∈ l := by
    intro α l i x h
    unfold at? at h
    split at h
    · exact List.mem_of_getElem? h
    · simp at h
  exact hi y (mem hy) q (mem hq)
/-! ### Agents -/
def hasLev (k : Int) : Bool := decide (1 ≤ k ∧ k ≤ 12) && !decide (k = 1 ∨ k = 5 ∨ k = 6)
theorem sLev_eq (k : Int) : s_HasLevel k = some (hasLev k) := by
  rcases kind_cases k with h | h | h | h | h | h | h | h | h | h | h | h | h
  all_goals first | (subst h; simp [s_HasLevel, s_HasLevel_j1, hasLev]; done) | skip
  have h' := ne_of_out h
  have h2 : ¬ (1 ≤ k ∧ k ≤ 12) := by omega
  simp [s_HasLevel, s_HasLevel_j1, hasLev, h', h2]
theorem iLev_eq (k : Int) : i_HasLevel k = some (hasLev k) := by
  rcases kind_cases k with h | h | h | h | h | h | h | h | h | h | h | h | h
  all_goals first | (subst h; simp [i_HasLevel, isKind_eq, bind_some', hasLev]; done) | skip
  have h' := ne_of_out h
  have h2 : ¬ (1 ≤ k ∧ k ≤ 12) := by omega
  simp [i_HasLevel, isKind_eq, bind_some', hasLev, h2]
def hasVal (k : Int) : Bool := decide (k = 6) || decide (k = 7) || decide (k = 8) || decide (k = 12) || decide (k = 9)
theorem iVal_eq (k : Int) : i_hasValue k = some (hasVal k) := by
  unfold i_hasValue hasVal
  by_cases h6 : k = 6 <;> by_cases h7 : k = 7 <;> by_cases h8 : k = 8 <;> by_cases h12 : k = 12 <;> simp [h6, h7, h8, h12]
def nums (l : List Int) : List Int := l.flatMap fun x => varint (zig x)
def levP (a : Agent) : List Int := if hasLev a.kind = true then [IntKind.u8.wrap a.level] else []
def valP (a : Agent) : List Int := if hasVal a.kind = true then varint (zig a.value) else []
def cntP (a : Agent) : List Int := if a.kind = 10 then [IntKind.u8.wrap ((List.length a.data : Nat) : Int)] else []
def conP (a : Agent) : List Int := if a.kind = 9 then [IntKind.u8.wrap (IntKind.i64.wrap (((List.length a.ports : Nat) : Int) - 1))] else []
def Agent.enc (a : Agent) : List Int := [IntKind.u8.wrap a.kind] ++ levP a ++ valP a ++ cntP a ++ nums a.data ++ conP a
def agEnc (l : List Agent) : List Int := l.flatMap Agent.enc
structure Agent.In (a : Agent) : Prop where
  value : I32 a.value
  data : ∀ d ∈ a.data, I32 d
theorem contB_in {a : Agent} (h : contB a = true) : a.In := by
  unfold contB at h
  have e0 : a.data.length = 0 → ∀ d ∈ a.data, I32 d := fun hl d hd => by rw [List.length_eq_zero_iff.1 hl] at hd; cases hd
  have eb : a.data.all inBook = true → ∀ d ∈ a.data, I32 d := fun hl d hd => by
    have := List.all_eq_true.1 hl d hd
    unfold inBook at this; rw [decide_eq_true_eq] at this; unfold I32; omega
  split at h
  · simp only [Bool.and_eq_true, decide_eq_true_eq] at h; exact ⟨h.2, e0 h.1⟩
  split at h
  · simp only [Bool.and_eq_true, decide_eq_true_eq] at h; exact ⟨by unfold I32; omega, e0 h.1⟩
  split at h
  · simp only [Bool.and_eq_true, decide_eq_true_eq] at h
    refine ⟨by unfold I32; omega, fun d hd => ?_⟩
    have := List.all_eq_true.1 h.2 d hd
    rwa [decide_eq_true_eq] at this
  split at h
  · simp only [Bool.and_eq_true, decide_eq_true_eq] at h; exact ⟨by unfold I32; omega, e0 h.1⟩
  split at h
  · simp only [Bool.and_eq_true, decide_eq_true_eq, inBook] at h; exact ⟨by unfold I32; omega, e0 h.1⟩
  split at h
  · rw [Bool.and_eq_true, Bool.and_eq_true, decide_eq_true_eq] at h; exact ⟨by unfold I32; omega, eb h.2⟩
  split at h
  · rw [Bool.and_eq_true, Bool.and_eq_true, decide_eq_true_eq] at h; exact ⟨by unfold I32; omega, eb h.2⟩
  · simp only [Bool.and_eq_true, decide_eq_true_eq] at h; exact ⟨by unfold I32; omega, e0 h.2⟩
theorem agsB_in : ∀ (l : List Agent) (i : Nat), agsB i l = true → ∀ a ∈ l, a.In
  | [], _, _, _, h => (List.not_mem_nil h).elim
  | x :: l, i, h, a, ha => by
    simp only [agsB, Bool.and_eq_true] at h
    rcases List.mem_cons.1 ha with rfl | ha
    · have := h.1.1
      unfold agB at this
      rw [Bool.and_eq_true] at this
      exact contB_in this.2
    · exact agsB_in l (i + 1) h.2 a ha
theorem nums_len : ∀ (l : List Int), (∀ d ∈ l, I32 d) → (nums l).length ≤ 5 * l.length
  | [], _ => by simp [nums]
  | x :: l, h => by
    have := nums_len l fun d hd => h d (List.mem_cons_of_mem _ hd)
    have hx := h x List.mem_cons_self
    have := zig_len hx.1 hx.2
    unfold nums at *
    rw [List.flatMap_cons, List.length_append, List.length_cons]; omega
theorem levP_len (a : Agent) : (levP a).length ≤ 1 := by unfold levP; split <;> simp
theorem cntP_len (a : Agent) : (cntP a).length ≤ 1 := by unfold cntP; split <;> simp
theorem conP_len (a : Agent) : (conP a).length ≤ 1 := by unfold conP; split <;> simp
theorem valP_len {a : Agent} (h : a.In) : (valP a).length ≤ 5 := by
  unfold valP; split
  · exact zig_len h.value.1 h.value.2
  · simp
theorem Agent.enc_len {a : Agent} (h : a.In) : a.enc.length ≤ 9 + 5 * a.data.length := by
  have := nums_len a.data h.data
  have := levP_len a
  have := cntP_len a
  have := conP_len a
  have := valP_len h
  unfold Agent.enc
  simp only [List.length_append, List.length_singleton]; omega
abbrev wgt (a : Agent) : Nat := a.data.length + a.ports.length
theorem agEnc_len : ∀ (l : List Agent), (∀ a ∈ l, a.In) → (agEnc l).length + 6 * szl (fun a => a.ports.length) l ≤ 15 * szl wgt l
  | [], _ => by simp [agEnc, szl]
  | x :: l, h => by
    have := agEnc_len l fun d hd => h d (List.mem_cons_of_mem _ hd)
    have := Agent.enc_len (h x List.mem_cons_self)
    unfold agEnc at *
    rw [List.flatMap_cons, List.length_append]
    simp only [szl, wgt] at *; omega
/-! ### The agents written -/
theorem sVal_step (n : Net) (i : Int) (x : Agent) (hx : x.In) (c : List Int) (hc : c.length + 6 ≤ Big) (m : Nat) : s_l33PutNet_j38 (m + 3) n i x c = s_l33PutNet_l46 m n i x (c ++ valP x ++ cntP x) 0 := by
  have e : s_l33PutNet_j38 (m + 3) n i x c = s_l33PutNet_j39 (m + 2) n i c x (hasVal x.kind) := by
    rw [s_l33PutNet_j38]
    unfold hasVal
    by_cases h6 : x.kind = 6 <;> by_cases h7 : x.kind = 7 <;> by_cases h8 : x.kind = 8 <;> by_cases h12 : x.kind = 12 <;> simp [h6, h7, h8, h12]
  rw [e, s_l33PutNet_j39]
  unfold valP cntP
  cases hv : hasVal x.kind with
  | true =>
    have h10 : ¬ x.kind = 10 := fun h => by rw [h] at hv; simp [hasVal] at hv
    rw [if_pos rfl, sNum_eq _ _ hx.value.1 hx.value.2 (by omega), bind_some', s_l33PutNet_j40, if_neg h10, if_pos rfl, List.append_nil]
  | false =>
    simp only [Bool.false_eq_true, reduceIte, List.append_nil]
    by_cases h10 : x.kind = 10
    · rw [decide_eq_true h10, if_pos rfl, if_pos h10, app_ok (by simp; omega), bind_some', s_l33PutNet_j40]
    · rw [decide_eq_false h10, if_neg (by simp), if_neg h10, s_l33PutNet_j40, List.append_nil]
theorem iVal_step (n : Net) (i : Int) (vs : List Agent) (x : Agent) (hx : x.In) (c : List Int) (hc : c.length + 6 ≤ Big) (m : Nat) : i_appendNet_j38 (m + 3) n i vs x c = i_appendNet_l46 m n i vs x (c ++ valP x ++ cntP x) 0 := by
  rw [i_appendNet_j38, iVal_eq, bind_some']
  unfold valP cntP
  cases hv : hasVal x.kind with
  | true =>
    have h10 : ¬ x.kind = 10 := fun h => by rw [h] at hv; simp [hasVal] at hv
    rw [if_pos rfl, iNum_eq _ _ hx.value.1 hx.value.2 (by omega), bind_some', i_appendNet_j39, decide_eq_false h10, if_neg (by simp), i_appendNet_j40, if_neg h10, if_pos rfl, List.append_nil]
  | false =>
    simp only [Bool.false_eq_true, reduceIte, List.append_nil]
    rw [i_appendNet_j39]
    by_cases h10 : x.kind = 10
    · rw [decide_eq_true h10, if_pos rfl, if_pos h10, app_ok (by simp; omega), bind_some', i_appendNet_j40]
    · rw [decide_eq_false h10, if_neg (by simp), if_neg h10, i_appendNet_j40, List.append_nil]
theorem sData46 (n : Net) (i : Int) (x : Agent) (hx : x.In) (hl : x.data.length ≤ Big) (R : Option (List Int)) (N : Nat) : ∀ (post pre c : List Int) (m : Nat), x.data = pre ++ post → c.length + 5 * post.length + 1 ≤ Big → (∀ m, N ≤ m → s_l33PutNet_l37 m n (c ++ nums post ++ conP x) (IntKind.i64.wrap (i + 1)) = R) → post.length + 1 + N ≤ m → s_l33PutNet_l46 m n i x c ((List.length pre : Nat) : Int) = R := by
  intro post
  induction post with
  | nil =>
    intro pre c m h hc hR hm
    simp only [List.length_nil] at hm hc
    obtain ⟨m, rfl⟩ : ∃ k, m = k + 1 := ⟨m - 1, by omega⟩
    have hr := hR m (by omega)
    unfold nums conP at hr
    rw [s_l33PutNet_l46, ge_app h, if_neg (by simp)]
    by_cases h9 : x.kind = 9
    · rw [if_pos h9] at hr
      rw [decide_eq_true h9, if_pos rfl, app_ok (by simp; omega), bind_some']
      simpa using hr
    · rw [if_neg h9] at hr
      rw [decide_eq_false h9, if_neg (by simp)]
      simpa using hr
  | cons d post ih =>
    intro pre c m h hc hR hm
    simp only [List.length_cons] at hm hc
    obtain ⟨m, rfl⟩ : ∃ k, m = k + 1 := ⟨m - 1, by omega⟩
    have hd := hx.data d (by rw [h]; simp)
    have hz := zig_len hd.1 hd.2
    rw [s_l33PutNet_l46, if_pos (lt_app h), at_app h, bind_some', sNum_eq _ _ hd.1 hd.2 (by omega), bind_some', wrap_app h hl]
    refine ih (pre ++ [d]) _ m (next_app h) (by rw [List.length_append]; omega) (fun k hk => ?_) (by omega)
    have := hR k hk
    unfold nums at this ⊢
    simpa using this
theorem iData46 (n : Net) (i : Int) (vs : List Agent) (x : Agent) (hx : x.In) (hl : x.data.length ≤ Big) (R : Option (List Int)) (N : Nat) : ∀ (post pre c : List Int) (m : Nat), x.data = pre ++ post → c.length + 5 * post.length + 1 ≤ Big → (∀ m, N ≤ m → i_appendNet_l37 m n vs (c ++ nums post ++ conP x) (IntKind.i64.wrap (i + 1)) = R) → post.length + 1 + N ≤ m → i_appendNet_l46 m n i vs x c ((List.length pre : Nat) : Int) = R := by
  intro post
  induction post with
  | nil =>
    intro pre c m h hc hR hm
    simp only [List.length_nil] at hm hc
    obtain ⟨m, rfl⟩ : ∃ k, m = k + 1 := ⟨m - 1, by omega⟩
    have hr := hR m (by omega)
    unfold nums conP at hr
    rw [i_appendNet_l46, ge_app h, if_neg (by simp)]
    by_cases h9 : x.kind = 9
    · rw [if_pos h9] at hr
      rw [decide_eq_true h9, if_pos rfl, app_ok (by simp; omega), bind_some']
      simpa using hr
    · rw [if_neg h9] at hr
      rw [decide_eq_false h9, if_neg (by simp)]
      simpa using hr
  | cons d post ih =>
    intro pre c m h hc hR hm
    simp only [List.length_cons] at hm hc
    obtain ⟨m, rfl⟩ : ∃ k, m = k + 1 := ⟨m - 1, by omega⟩
    have hd := hx.data d (by rw [h]; simp)
    have hz := zig_len hd.1 hd.2
    rw [i_appendNet_l46, if_pos (lt_app h), at_app h, bind_some', iNum_eq _ _ hd.1 hd.2 (by omega), bind_some', wrap_app h hl]
    refine ih (pre ++ [d]) _ m (next_app h) (by rw [List.length_append]; omega) (fun k hk => ?_) (by omega)
    have := hR k hk
    unfold nums at this ⊢
    simpa using this
theorem sAg37 (n : Net) (hl : n.agents.length ≤ Big) (hs : ∀ a ∈ n.agents, a.Small) (hi : ∀ a ∈ n.agents, a.In) : ∀ (post pre : List Agent) (m : Nat) (c : List Int), n.agents = pre ++ post → 5 * szl wgt post + 1 ≤ m → c.length + 15 * szl wgt post ≤ Big → s_l33PutNet_l37 m n c ((List.length pre : Nat) : Int) = Option.bind (s_l11Wires n) fun v => s_l33PutNet_l44 fuel v (c ++ agEnc post) 0 := by
  intro post
  induction post with
  | nil =>
    intro pre m c h hm hc
    obtain ⟨m, rfl⟩ : ∃ k, m = k + 1 := ⟨m - 1, by omega⟩
    rw [s_l33PutNet_l37, ge_app h, if_neg (by simp)]; simp [agEnc]
  | cons x post ih =>
    intro pre m c h hm hc
    simp only [szl, wgt] at hm hc
    have hmem : x ∈ n.agents := by rw [h]; simp
    have hx := hi x hmem
    have h1 := levP_len x
    have h2 := valP_len hx
    have h3 := cntP_len x
    have h4 := Agent.enc_len hx
    obtain ⟨m, rfl⟩ : ∃ k, m = k + 4 := ⟨m - 4, by omega⟩
    rw [s_l33PutNet_l37, if_pos (lt_app h), at_app h, bind_some', app_ok (by simp; omega), bind_some', sLev_eq, bind_some']
    have key : s_l33PutNet_j38 (m + 3) n ((List.length pre : Nat) : Int) x (c ++ [IntKind.u8.wrap x.kind] ++ levP x) = Option.bind (s_l11Wires n) fun v => s_l33PutNet_l44 fuel v (c ++ agEnc (x :: post)) 0 := by
      rw [sVal_step n _ x hx _ (by simp; omega)]
      refine sData46 n _ x hx (hs x hmem).2 _ (5 * szl wgt post + 1) x.data [] _ m rfl (by simp; omega) (fun k hk => ?_) (by omega)
      have e : c ++ [IntKind.u8.wrap x.kind] ++ levP x ++ valP x ++ cntP x ++ nums x.data ++ conP x = c ++ x.enc := by simp [Agent.enc]
      rw [e, wrap_app h hl, ih (pre ++ [x]) k _ (next_app h) hk (by rw [List.length_append]; omega)]
      simp [agEnc]
    cases hv : hasLev x.kind with
    | true =>
      rw [if_pos rfl, app_ok (by simp; omega), bind_some']
      unfold levP at key
      rw [hv, if_pos rfl] at key
      exact key
    | false =>
      rw [if_neg (by simp)]
      unfold levP at key
      rw [hv, if_neg (by simp), List.append_nil] at key
      exact key
theorem iAg37 (n : Net) (vs : List Agent) (hl : vs.length ≤ Big) (hs : ∀ a ∈ vs, a.Small) (hi : ∀ a ∈ vs, a.In) : ∀ (post pre : List Agent) (m : Nat) (c : List Int), vs = pre ++ post → 5 * szl wgt post + 1 ≤ m → c.length + 15 * szl wgt post ≤ Big → i_appendNet_l37 m n vs c ((List.length pre : Nat) : Int) = Option.bind (i_Net_ports n) fun v => i_appendNet_l44 fuel n v (c ++ agEnc post) 0 := by
  intro post
  induction post with
  | nil =>
    intro pre m c h hm hc
    obtain ⟨m, rfl⟩ : ∃ k, m = k + 1 := ⟨m - 1, by omega⟩
    rw [i_appendNet_l37, ge_app h, if_neg (by simp)]; simp [agEnc]
  | cons x post ih =>
    intro pre m c h hm hc
    simp only [szl, wgt] at hm hc
    have hmem : x ∈ vs := by rw [h]; simp
    have hx := hi x hmem
    have h1 := levP_len x
    have h2 := valP_len hx
    have h3 := cntP_len x
    have h4 := Agent.enc_len hx
    obtain ⟨m, rfl⟩ : ∃ k, m = k + 4 := ⟨m - 4, by omega⟩
    rw [i_appendNet_l37, if_pos (lt_app h), at_app h, bind_some', app_ok (by simp; omega), bind_some', iLev_eq, bind_some']
    have key : i_appendNet_j38 (m + 3) n ((List.length pre : Nat) : Int) vs x (c ++ [IntKind.u8.wrap x.kind] ++ levP x) = Option.bind (i_Net_ports n) fun v => i_appendNet_l44 fuel n v (c ++ agEnc (x :: post)) 0 := by
      rw [iVal_step n _ vs x hx _ (by simp; omega)]
      refine iData46 n _ vs x hx (hs x hmem).2 _ (5 * szl wgt post + 1) x.data [] _ m rfl (by simp; omega) (fun k hk => ?_) (by omega)
      have e : c ++ [IntKind.u8.wrap x.kind] ++ levP x ++ valP x ++ cntP x ++ nums x.data ++ conP x = c ++ x.enc := by simp [Agent.enc]
      rw [e, wrap_app h hl, ih (pre ++ [x]) k _ (next_app h) hk (by rw [List.length_append]; omega)]
      simp [agEnc]
    cases hv : hasLev x.kind with
    | true =>
      rw [if_pos rfl, app_ok (by simp; omega), bind_some']
      unfold levP at key
      rw [hv, if_pos rfl] at key
      exact key
    | false =>
      rw [if_neg (by simp)]
      unfold levP at key
      rw [hv, if_neg (by simp), List.append_nil] at key
      exact key
/-- What is written for a net. -/
def Net.enc (n : Net) : List Int := varint (zig (n.agents.length : Int)) ++ agEnc (n.agents.drop 1) ++ (allWires 0 n.agents).flatMap fun w => portEnc w.b
theorem szl_ports_wgt : ∀ l : List Agent, szl (fun a => a.ports.length) l ≤ szl wgt l
  | [] => Nat.le_refl _
  | a :: l => by
    have := szl_ports_wgt l
    simp only [szl, wgt] at *; omega
theorem szl_data_wgt : ∀ (l : List Agent), ∀ a ∈ l, a.data.length ≤ szl wgt l := fun l a ha => by
  have := szl_mem (s := wgt) ha
  simp only [wgt] at *; omega
theorem flat_len : ∀ (l : List Wire), (∀ w ∈ l, I32 w.b.agent) → (l.flatMap fun w => portEnc w.b).length ≤ 6 * l.length
  | [], _ => by simp
  | w :: l, h => by
    have := flat_len l fun d hd => h d (List.mem_cons_of_mem _ hd)
    have hx := h w List.mem_cons_self
    have := zig_len hx.1 hx.2
    have he : (portEnc w.b).length = (varint (zig w.b.agent)).length + 1 := by unfold portEnc; rw [List.length_append, List.length_singleton]
    rw [List.flatMap_cons, List.length_append, List.length_cons]
    omega
theorem putNet_same (n : Net) (hn : szl wgt n.agents ≤ 1048576) (hv : n.valid = true) (b : List Int) (hb : b.length ≤ 16777300) : s_l33PutNet b n = some (b ++ n.enc) ∧ i_appendNet b n = some (b ++ n.enc) ∧ n.enc.length ≤ 5 + 15 * szl wgt n.agents := by
  have hsmall : n.Small := ⟨by have := szl_ports_wgt n.agents; unfold Big; omega, fun a ha => by have := szl_data_wgt n.agents a ha; unfold Big; omega⟩
  obtain ⟨hl, hs⟩ := hsmall.agents
  unfold Net.valid at hv
  rw [Bool.and_eq_true] at hv
  obtain ⟨ha, hw⟩ := hv
  unfold agentsB at ha
  rw [Bool.and_eq_true, decide_eq_true_eq] at ha
  obtain ⟨⟨hl1, hl6⟩, hag⟩ := ha
  have hin := agsB_in n.agents 0 hag
  obtain ⟨hp, hwi⟩ := allWires_in hl6 n.agents 0 hw
  have hz := zig_len (n := (n.agents.length : Int)) (by omega) (by omega)
  obtain ⟨r, vs, hrv⟩ : ∃ r vs, n.agents = r :: vs := by
    cases hh : n.agents with
    | nil => rw [hh] at hl1; simp at hl1
    | cons r vs => exact ⟨r, vs, rfl⟩
  have hdrop : n.agents.drop 1 = vs := by rw [hrv]; rfl
  have hvw : szl wgt vs ≤ szl wgt n.agents := by rw [hrv]; simp only [szl]; omega
  have hinv : ∀ a ∈ vs, a.In := fun a ha => hin a (by rw [hrv]; exact List.mem_cons_of_mem _ ha)
  have hsv : ∀ a ∈ vs, a.Small := fun a ha => hs a (by rw [hrv]; exact List.mem_cons_of_mem _ ha)
  have hae := agEnc_len vs hinv
  have hpl := allPorts_len n.agents 0
  have hwl := allWires_len n.agents 0
  have hpw := szl_ports_wgt n.agents
  have hfl := flat_len _ hwi
  have hvl : vs.length ≤ Big := by have := szl_len wgt vs; unfold Big; omega
  have hfu : ∀ k : Nat, k ≤ 100000000 → k ≤ fuel := fun k hk => by rw [fuel_eq]; omega
  refine ⟨?_, ?_, ?_⟩
  · unfold s_l33PutNet Net.enc
    rw [sNum_eq _ _ (by omega) (by omega) (by unfold Big; omega), bind_some', hdrop]
    have := sAg37 n hl hs hin vs [r] fuel (b ++ varint (zig (n.agents.length : Int))) hrv (hfu _ (by omega)) (by rw [List.length_append]; unfold Big; omega)
    rw [show ((List.length [r] : Nat) : Int) = 1 from rfl] at this
    rw [this, sWires_eq n hsmall, bind_some']
    have h44 := sW44 (allWires 0 n.agents) (by unfold Big; omega) hwi (allWires 0 n.agents) [] fuel (b ++ varint (zig (n.agents.length : Int)) ++ agEnc vs) rfl (hfu _ (by omega)) (by simp only [List.length_append]; unfold Big; omega)
    rw [show ((List.length ([] : List Wire) : Nat) : Int) = 0 from rfl] at h44
    rw [h44]; simp
  · unfold i_appendNet Net.enc
    rw [iNum_eq _ _ (by omega) (by omega) (by unfold Big; omega), bind_some', hdrop]
    have hcut : cutL n.agents 1 ((List.length n.agents : Nat) : Int) = some vs := by
      unfold cutL
      rw [if_pos (by omega), hrv]
      simp
    rw [hcut, bind_some']
    have := iAg37 n vs hvl hsv hinv vs [] fuel (b ++ varint (zig (n.agents.length : Int))) rfl (hfu _ (by omega)) (by rw [List.length_append]; unfold Big; omega)
    rw [show ((List.length ([] : List Agent) : Nat) : Int) = 0 from rfl] at this
    rw [this, iNetPorts_eq n hsmall, bind_some']
    have h44 := iW44 n (allPorts 0 n.agents) (by unfold Big; omega) (fun p hp' => by
      obtain ⟨i, k, q, rfl, hq⟩ := all_mem n.agents [] rfl p hp'
      exact ⟨q, hq, peer_in hp hq⟩) (allPorts 0 n.agents) [] fuel (b ++ varint (zig (n.agents.length : Int)) ++ agEnc vs) rfl (hfu _ (by omega)) (by simp only [List.length_append]; unfold Big; omega)
    rw [show ((List.length ([] : List Port) : Nat) : Int) = 0 from rfl] at h44
    have hfe := all_flat (l := n.agents) n.agents [] rfl
    rw [List.length_nil] at hfe
    rw [h44, hfe]; simp
  · unfold Net.enc
    rw [hdrop]
    simp only [List.length_append]
    have h1 : szl wgt n.agents = 1 + wgt r + szl wgt vs := by rw [hrv, szl]
    have h2 : szl (fun a => a.ports.length) n.agents = 1 + r.ports.length + szl (fun a => a.ports.length) vs := by rw [hrv, szl]
    have h3 := wiresL_len 0 r.ports 0
    have h4 := allWires_len vs 1
    simp only [wgt] at *
    omega
theorem EncodeNet_same' (n : Net) (hn : szl wgt n.agents ≤ 1048576) : ∃ r, s_EncodeNet n = some r ∧ i_EncodeNet n = some r ∧ r.1.length ≤ Big := by
  have hsmall : n.Small := ⟨by have := szl_ports_wgt n.agents; unfold Big; omega, fun a ha => by have := szl_data_wgt n.agents a ha; unfold Big; omega⟩
  unfold s_EncodeNet i_EncodeNet
  rw [sNet_eq n hsmall, iNet_eq n hsmall, bind_some', bind_some']
  cases hv : n.valid with
  | false => exact ⟨([], 1), by simp, by simp, by simp⟩
  | true =>
    obtain ⟨h1, h2, h3⟩ := putNet_same n hn hv [] (by simp)
    obtain ⟨r, h4, h5, h6⟩ := frame_same 1 n.enc (by omega) (by omega) (by omega)
    rw [if_neg (by simp), if_neg (by simp), h1, h2, bind_some', bind_some', List.nil_append, h4, h5]
    exact ⟨r, rfl, rfl, h6⟩
theorem EncodeNet_same (n : Net) (hn : n.sz ≤ 1048576) : ∃ r, s_EncodeNet n = some r ∧ i_EncodeNet n = some r ∧ r.1.length ≤ Big :=
  EncodeNet_same' n (show szl Agent.sz n.agents + 0 ≤ 1048576 from hn)
end Go.Proofs.Ytocpkbclcnjejaa.Ab
