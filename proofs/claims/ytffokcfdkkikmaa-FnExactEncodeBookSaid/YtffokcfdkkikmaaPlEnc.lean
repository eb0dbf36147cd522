/-
  Core terms and books as bytes: both programs append the same. No program is in sight.
-/
import Derived.Test.YtffokcfdkkikmaaPlNum
import Derived.Test.YtffokcfdkkikmaaPlBook
import Derived.Test.YtffokcfdkkikmaaModB
namespace Go.Proofs.Ytffokcfdkkikmaa.Ab
set_option linter.unusedVariables false
set_option linter.unusedSimpArgs false
open Go.RowKit

def u8s (l : List Int) : List Int := l.map fun x => IntKind.u8.wrap x
mutual
def Core.enc : Core → List Int
  | ⟨k, v, d, ks⟩ => ([IntKind.u8.wrap k] ++ varint (zig v)) ++ [IntKind.u8.wrap (d.length : Int)] ++ u8s d ++ [IntKind.u8.wrap (ks.length : Int)] ++ Core.encs ks
def Core.encs : List Core → List Int
  | [] => []
  | c :: cs => Core.enc c ++ Core.encs cs
end
theorem Core.enc_eq (c : Core) : c.enc = ([IntKind.u8.wrap c.kind] ++ varint (zig c.value)) ++ [IntKind.u8.wrap (c.data.length : Int)] ++ u8s c.data ++ [IntKind.u8.wrap (c.kids.length : Int)] ++ Core.encs c.kids := by cases c; rw [Core.enc]
theorem nodeOk_value {c : Core} (h : nodeOk c = true) : -2147483648 ≤ c.value ∧ c.value ≤ 2147483647 := by
  unfold nodeOk at h
  simp only [Bool.and_eq_true] at h
  have := h.1.2
  unfold valOk at this
  repeat' split at this
  all_goals simp only [decide_eq_true_eq] at this
  all_goals omega
theorem nodeOk_data' {c : Core} (h : nodeOk c = true) : c.data.length ≤ 4 := by
  unfold nodeOk at h
  simp only [Bool.and_eq_true] at h
  exact nodeOk_data h.1.1.2
theorem u8s_len (l : List Int) : (u8s l).length = l.length := by simp [u8s]
mutual
theorem Core.enc_len : ∀ c : Core, c.wf = true → c.enc.length ≤ 16 * (1 + c.sz)
  | ⟨k, v, d, ks⟩, h => by
    rw [Core.wf, Bool.and_eq_true] at h
    have hv := nodeOk_value h.1
    have hz := zig_len hv.1 hv.2
    have := Core.encs_len ks h.2
    rw [Core.enc, Core.sz]
    simp only [List.length_append, List.length_cons, List.length_nil, u8s_len]
    simp only at hz
    omega
theorem Core.encs_len : ∀ l : List Core, Core.wfs l = true → (Core.encs l).length ≤ 16 * Core.szs l
  | [], _ => by simp [Core.encs]
  | c :: cs, h => by
    rw [Core.wfs, Bool.and_eq_true] at h
    have := Core.enc_len c h.1
    have := Core.encs_len cs h.2
    rw [Core.encs, Core.szs, List.length_append]
    omega
end
theorem u8s_snoc (pre : List Int) (x : Int) : u8s (pre ++ [x]) = u8s pre ++ [IntKind.u8.wrap x] := by simp [u8s]
theorem encs_snoc (x : Core) : ∀ pre : List Core, Core.encs (pre ++ [x]) = Core.encs pre ++ x.enc
  | [] => by simp [Core.encs]
  | c :: cs => by rw [List.cons_append, Core.encs, Core.encs, encs_snoc x cs, List.append_assoc]
theorem encs_app : ∀ (a b : List Core), Core.encs (a ++ b) = Core.encs a ++ Core.encs b
  | [], b => by simp [Core.encs]
  | c :: cs, b => by rw [List.cons_append, Core.encs, Core.encs, encs_app cs b, List.append_assoc]
theorem wfs_app : ∀ {a b : List Core}, Core.wfs (a ++ b) = true → Core.wfs a = true ∧ Core.wfs b = true
  | [], b, h => ⟨rfl, h⟩
  | c :: cs, b, h => by
    rw [List.cons_append, Core.wfs, Bool.and_eq_true] at h
    have := wfs_app h.2
    rw [Core.wfs, Bool.and_eq_true]
    exact ⟨⟨h.1, this.1⟩, this.2⟩
theorem sPut_eq : ∀ (c : Core), c.wf = true → ∀ (n : Nat) (a : List Int), 20 * c.nodes ≤ n → a.length + 16 * (1 + c.sz) ≤ Big → s_l33PutCore n a c = some (a ++ c.enc) := by
  refine Core.ind fun c ih hw n a hn ha => ?_
  rw [Core.wf_eq, Bool.and_eq_true] at hw
  obtain ⟨hno, hks⟩ := hw
  have hv := nodeOk_value hno
  have hd := nodeOk_data' hno
  have hz := zig_len hv.1 hv.2
  have hnd := c.nodes_eq
  have hsz := c.sz_eq
  have hks1 := Core.len_szs c.kids
  obtain ⟨n, rfl⟩ : ∃ m, n = m + 1 := ⟨n - 1, by omega⟩
  rw [s_l33PutCore, app_ok (by simp; omega), bind_some', sNum_eq _ _ hv.1 hv.2 (by simp; omega), bind_some']
  rw [app_ok (by simp; omega), bind_some']
  generalize hb0 : a ++ [IntKind.u8.wrap c.kind] ++ varint (zig c.value) ++ [IntKind.u8.wrap ((List.length c.data : Nat) : Int)] = b0
  have hb0l : b0.length ≤ a.length + 7 := by rw [← hb0]; simp; omega
  have kids : ∀ (post pre : List Core) (n : Nat) (b : List Int), c.kids = pre ++ post → 20 * Core.nodess post + 1 ≤ n → b.length + 16 * Core.szs post ≤ Big →
      s_l33PutCore_l4 n c b ((List.length pre : Nat) : Int) = some (b ++ Core.encs post) := by
    intro post
    induction post with
    | nil =>
      intro pre n b h hn hb
      obtain ⟨n, rfl⟩ : ∃ m, n = m + 1 := ⟨n - 1, by omega⟩
      rw [s_l33PutCore_l4, ge_app h]
      simp [Core.encs]
    | cons x post ihp =>
      intro pre n b h hn hb
      rw [Core.nodess] at hn
      rw [Core.szs] at hb
      obtain ⟨n, rfl⟩ : ∃ m, n = m + 1 := ⟨n - 1, by omega⟩
      have hx : x ∈ c.kids := by rw [h]; simp
      have hxw := wfs_mem hx hks
      have hxl := Core.enc_len x hxw
      have hxn := x.nodes_pos
      rw [s_l33PutCore_l4, if_pos (lt_app h), at_app h, bind_some', ih x hx hxw n b (by omega) (by omega), bind_some', wrap_app h (by unfold Big at *; omega), ihp (pre ++ [x]) n (b ++ x.enc) (next_app h) (by omega) (by simp; omega), Core.encs, List.append_assoc]
  have data : ∀ (post pre : List Int) (n : Nat) (b : List Int), c.data = pre ++ post → 20 * Core.nodess c.kids + 1 + post.length + 1 ≤ n → b.length + post.length + 1 + 16 * Core.szs c.kids ≤ Big →
      s_l33PutCore_l2 n c b ((List.length pre : Nat) : Int) = some (b ++ u8s post ++ [IntKind.u8.wrap ((List.length c.kids : Nat) : Int)] ++ Core.encs c.kids) := by
    intro post
    induction post with
    | nil =>
      intro pre n b h hn hb
      obtain ⟨n, rfl⟩ : ∃ m, n = m + 1 := ⟨n - 1, by omega⟩
      rw [s_l33PutCore_l2, ge_app h, if_neg (by simp), app_ok (by simp; omega), bind_some']
      rw [show (0 : Int) = ((List.length ([] : List Core) : Nat) : Int) from rfl, kids c.kids [] n (b ++ [IntKind.u8.wrap ((List.length c.kids : Nat) : Int)]) (by simp) (by omega) (by simp; omega)]
      simp [u8s]
    | cons x post ihp =>
      intro pre n b h hn hb
      rw [List.length_cons] at hn hb
      obtain ⟨n, rfl⟩ : ∃ m, n = m + 1 := ⟨n - 1, by omega⟩
      rw [s_l33PutCore_l2, if_pos (lt_app h), at_app h, bind_some', app_ok (by simp; omega), bind_some', wrap_app h (by unfold Big at *; omega), ihp (pre ++ [x]) n (b ++ [IntKind.u8.wrap x]) (next_app h) (by omega) (by simp; omega)]
      simp [u8s]
  rw [show (0 : Int) = ((List.length ([] : List Int) : Nat) : Int) from rfl, data c.data [] n b0 (by simp) (by omega) (by omega), Core.enc_eq, ← hb0]
  simp
theorem iPut_eq : ∀ (c : Core), c.wf = true → ∀ (n : Nat) (a : List Int), 20 * c.nodes ≤ n → a.length + 16 * (1 + c.sz) ≤ Big → i_appendCore n a c = some (a ++ c.enc) := by
  refine Core.ind fun c ih hw n a hn ha => ?_
  rw [Core.wf_eq, Bool.and_eq_true] at hw
  obtain ⟨hno, hks⟩ := hw
  have hv := nodeOk_value hno
  have hd := nodeOk_data' hno
  have hz := zig_len hv.1 hv.2
  have hnd := c.nodes_eq
  have hsz := c.sz_eq
  have hks1 := Core.len_szs c.kids
  obtain ⟨n, rfl⟩ : ∃ m, n = m + 1 := ⟨n - 1, by omega⟩
  rw [i_appendCore, app_ok (by simp; omega), bind_some', iNum_eq _ _ hv.1 hv.2 (by simp; omega), bind_some']
  obtain ⟨n, rfl⟩ : ∃ m, n = m + 1 := ⟨n - 1, by omega⟩
  rw [i_appendCore_j1]
  rw [app_ok (by simp; omega), bind_some']
  generalize hb0 : a ++ [IntKind.u8.wrap c.kind] ++ varint (zig c.value) ++ [IntKind.u8.wrap ((List.length c.data : Nat) : Int)] = b0
  have hb0l : b0.length ≤ a.length + 7 := by rw [← hb0]; simp; omega
  have kids : ∀ (post pre : List Core) (n : Nat) (b : List Int), c.kids = pre ++ post → 20 * Core.nodess post + 1 ≤ n → b.length + 16 * Core.szs post ≤ Big →
      i_appendCore_l5 n c b ((List.length pre : Nat) : Int) = some (b ++ Core.encs post) := by
    intro post
    induction post with
    | nil =>
      intro pre n b h hn hb
      obtain ⟨n, rfl⟩ : ∃ m, n = m + 1 := ⟨n - 1, by omega⟩
      rw [i_appendCore_l5, ge_app h]
      simp [Core.encs]
    | cons x post ihp =>
      intro pre n b h hn hb
      rw [Core.nodess] at hn
      rw [Core.szs] at hb
      obtain ⟨n, rfl⟩ : ∃ m, n = m + 1 := ⟨n - 1, by omega⟩
      have hx : x ∈ c.kids := by rw [h]; simp
      have hxw := wfs_mem hx hks
      have hxl := Core.enc_len x hxw
      have hxn := x.nodes_pos
      rw [i_appendCore_l5, if_pos (lt_app h), at_app h, bind_some', ih x hx hxw n b (by omega) (by omega), bind_some', wrap_app h (by unfold Big at *; omega), ihp (pre ++ [x]) n (b ++ x.enc) (next_app h) (by omega) (by simp; omega), Core.encs, List.append_assoc]
  have data : ∀ (post pre : List Int) (n : Nat) (b : List Int), c.data = pre ++ post → 20 * Core.nodess c.kids + 1 + post.length + 1 ≤ n → b.length + post.length + 1 + 16 * Core.szs c.kids ≤ Big →
      i_appendCore_l3 n c b ((List.length pre : Nat) : Int) = some (b ++ u8s post ++ [IntKind.u8.wrap ((List.length c.kids : Nat) : Int)] ++ Core.encs c.kids) := by
    intro post
    induction post with
    | nil =>
      intro pre n b h hn hb
      obtain ⟨n, rfl⟩ : ∃ m, n = m + 1 := ⟨n - 1, by omega⟩
      rw [i_appendCore_l3, ge_app h, if_neg (by simp), app_ok (by simp; omega), bind_some']
      rw [show (0 : Int) = ((List.length ([] : List Core) : Nat) : Int) from rfl, kids c.kids [] n (b ++ [IntKind.u8.wrap ((List.length c.kids : Nat) : Int)]) (by simp) (by omega) (by simp; omega)]
      simp [u8s]
    | cons x post ihp =>
      intro pre n b h hn hb
      rw [List.length_cons] at hn hb
      obtain ⟨n, rfl⟩ : ∃ m, n = m + 1 := ⟨n - 1, by omega⟩
      rw [i_appendCore_l3, if_pos (lt_app h), at_app h, bind_some', app_ok (by simp; omega), bind_some', wrap_app h (by unfold Big at *; omega), ihp (pre ++ [x]) n (b ++ [IntKind.u8.wrap x]) (next_app h) (by omega) (by simp; omega)]
      simp [u8s]
  rw [show (0 : Int) = ((List.length ([] : List Int) : Nat) : Int) from rfl, data c.data [] n b0 (by simp) (by omega) (by omega), Core.enc_eq, ← hb0]
  simp
theorem EncodeBook_same (b : Book) (hb : b.sz ≤ 1048576) : ∃ r, s_EncodeBook b = some r ∧ i_EncodeBook b = some r ∧ r.1.length ≤ Big := by
  obtain ⟨hl, hs, hN⟩ := szs_small (l := b.defs) hb
  unfold s_EncodeBook i_EncodeBook
  rw [l06Book_eq b hl hs, ValidBook_eq b hl hs, bind_some', bind_some']
  cases hv : b.valid with
  | false => exact ⟨([], 1), by simp, by simp, by simp⟩
  | true =>
    have hall : ∀ c ∈ b.defs, c.closed = true := fun c hc => by
      unfold Book.valid at hv
      rw [Bool.and_eq_true, List.all_eq_true] at hv
      have := hv.2 c hc
      unfold defOk at this
      rw [Bool.and_eq_true] at this
      exact this.1
    have hlen : b.defs.length ≤ 24 := by
      unfold Book.valid at hv
      simp at hv
      omega
    have hb' : Core.szs b.defs ≤ 1048576 := hb
    have hwf : ∀ c ∈ b.defs, c.wf = true := fun c hc => closed_wf (hall c hc)
    simp only [Bool.not_true, Bool.false_eq_true, reduceIte]
    rw [sNum_eq _ _ (by omega) (by omega) (by simp [Big]), iNum_eq _ _ (by omega) (by omega) (by simp [Big]), bind_some', bind_some', List.nil_append]
    have hz := zig_len (n := (b.defs.length : Int)) (by omega) (by omega)
    have loop : ∀ (post pre : List Core) (n : Nat) (a : List Int), b.defs = pre ++ post → post.length + 1 ≤ n → a.length + 16 * Core.szs post ≤ 16777300 →
        ∃ r, s_EncodeBook_l2 n b a ((List.length pre : Nat) : Int) = some r ∧ i_EncodeBook_l2 n b a ((List.length pre : Nat) : Int) = some r ∧ r.1.length ≤ Big := by
      intro post
      induction post with
      | nil =>
        intro pre n a h hn ha
        obtain ⟨n, rfl⟩ : ∃ m, n = m + 1 := ⟨n - 1, by omega⟩
        obtain ⟨r, h1, h2, h3⟩ := frame_same 3 a (by omega) (by omega) (by omega)
        rw [s_EncodeBook_l2, i_EncodeBook_l2, ge_app h, if_neg (by simp), if_neg (by simp), h1, h2]
        exact ⟨_, rfl, rfl, h3⟩
      | cons x post ihp =>
        intro pre n a h hn ha
        rw [List.length_cons] at hn
        rw [Core.szs] at ha
        obtain ⟨n, rfl⟩ : ∃ m, n = m + 1 := ⟨n - 1, by omega⟩
        have hx : x ∈ b.defs := by rw [h]; simp
        have hxl := Core.enc_len x (hwf x hx)
        have hxN := (hs x hx).2
        have hf : 20 * x.nodes ≤ fuel := by rw [fuel_eq]; unfold Big at hxN; omega
        obtain ⟨r, h1, h2, h3⟩ := ihp (pre ++ [x]) n (a ++ x.enc) (next_app h) (by omega) (by simp; omega)
        refine ⟨r, ?_, ?_, h3⟩
        · rw [s_EncodeBook_l2, if_pos (lt_app h), at_app h, bind_some', sPut_eq x (hwf x hx) fuel a hf (by unfold Big; omega), bind_some', wrap_app h hl, h1]
        · rw [i_EncodeBook_l2, if_pos (lt_app h), at_app h, bind_some', iPut_eq x (hwf x hx) fuel a hf (by unfold Big; omega), bind_some', wrap_app h hl, h2]
    have hf : b.defs.length + 1 ≤ fuel := by rw [fuel_eq]; omega
    exact loop b.defs [] fuel _ (by simp) hf (by omega)
end Go.Proofs.Ytffokcfdkkikmaa.Ab
