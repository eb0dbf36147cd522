/-
  ReportLines: core terms, texts, both sides, the law about the models. No program is in sight.
-/
import Derived.Test.YtlmanchbpommaaaDoorPlH
import Derived.Test.YtlmanchbpommaaaDoorModP
import Derived.Test.YtlmanchbpommaaaDoorPlG
import Derived.Test.YtlmanchbpommaaaDoorPlM
import Derived.Test.YtlmanchbpommaaaDoorAbZ
import Derived.Test.YtlmanchbpommaaaDoorModC
import Derived.Test.YtlmanchbpommaaaDoorPlDec
namespace Go.Proofs.YtlmanchbpommaaaDoor.Ab
set_option linter.unusedVariables false
set_option linter.unusedSimpArgs false
open Go.RowKit
/-! ### Core -/
mutual
def Core.sz : Core → Nat
  | ⟨_, _, d, ks⟩ => d.length + Core.szs ks
def Core.szs : List Core → Nat
  | [] => 0
  | c :: cs => 1 + Core.sz c + Core.szs cs
end
theorem Core.sz_eq (c : Core) : c.sz = c.data.length + Core.szs c.kids := by cases c; rw [Core.sz]
mutual
def Core.nodes : Core → Nat
  | ⟨_, _, _, ks⟩ => 1 + Core.nodess ks
def Core.nodess : List Core → Nat
  | [] => 0
  | c :: cs => Core.nodes c + Core.nodess cs
end
theorem Core.nodes_eq (c : Core) : c.nodes = 1 + Core.nodess c.kids := by cases c; rw [Core.nodes]
theorem Core.nodes_pos (c : Core) : 1 ≤ c.nodes := by rw [Core.nodes_eq]; omega
mutual
theorem Core.nodes_le : ∀ c : Core, c.nodes ≤ 1 + c.sz
  | ⟨k, v, d, ks⟩ => by rw [Core.nodes, Core.sz]; have := Core.nodess_le ks; omega
theorem Core.nodess_le : ∀ l : List Core, Core.nodess l ≤ Core.szs l
  | [] => by simp [Core.nodess, Core.szs]
  | c :: cs => by rw [Core.nodess, Core.szs]; have := Core.nodes_le c; have := Core.nodess_le cs; omega
end
theorem Core.len_szs : ∀ l : List Core, l.length ≤ Core.szs l
  | [] => by simp
  | c :: cs => by rw [Core.szs, List.length_cons]; have := Core.len_szs cs; omega
theorem Core.szs_append (a b : List Core) : Core.szs (a ++ b) = Core.szs a + Core.szs b := by
  induction a with
  | nil => simp [Core.szs]
  | cons c cs ih => rw [List.cons_append, Core.szs, Core.szs, ih]; omega
/-- Induction along the kids. -/
theorem Core.ind {P : Core → Prop} (h : ∀ c : Core, (∀ k ∈ c.kids, P k) → P c) : ∀ c, P c := by
  suffices ∀ n (c : Core), c.nodes ≤ n → P c from fun c => this _ c (Nat.le_refl _)
  intro n
  induction n with
  | zero => intro c hc; have := Core.nodes_pos c; omega
  | succ n ih =>
    intro c hc
    refine h c fun k hk => ih k ?_
    rw [Core.nodes_eq] at hc
    have key : ∀ l : List Core, k ∈ l → k.nodes ≤ Core.nodess l := by
      intro l
      induction l with
      | nil => intro h; cases h
      | cons x xs ih =>
        intro h
        rw [Core.nodess]
        rcases List.mem_cons.1 h with rfl | h
        · omega
        · have := ih h; omega
    have := key _ hk
    omega
/-- All lists of a term are such as memory can hold. -/
inductive Core.Fits : Core → Prop where
  | mk (c : Core) (hd : c.data.length ≤ 9223372036854775807) (hk : c.kids.length ≤ 9223372036854775807) (h : ∀ k ∈ c.kids, Core.Fits k) : Core.Fits c

theorem szCoreS_of (l : List Core) (hk : l.length ≤ 9223372036854775807) (ih : ∀ x ∈ l, ∀ (left n : Nat), left ≤ 1048576 → 4 * left + 4 ≤ n → l_szCore n x left = some (szr x.sz left))
    (left n : Nat) (h1 : left ≤ 1048576) (hn : 4 * left + 3 ≤ n) : l_szCoreS n l left = some (szr (Core.szs l) left) := by
  obtain ⟨n, rfl⟩ : ∃ m, n = m + 1 := ⟨n - 1, by omega⟩
  rw [l_szCoreS, sub_len h1 hk]
  have hlen := Core.len_szs l
  by_cases h3 : left < l.length
  · rw [if_pos (by simp; omega), szr_gt (by omega)]
  · rw [if_neg (by simp; omega)]
    have loop : ∀ (post pre : List Core) (n l3 : Nat), l = pre ++ post → l3 + l.length ≤ left → 1 ≤ n → (post.length ≠ 0 → 4 * l3 + 4 + post.length + 1 ≤ n) → l_szCoreS_l1 n l l3 ((List.length pre : Nat) : Int) = some (szr (Core.szs post - post.length) l3) := by
      intro post
      induction post with
      | nil =>
        intro pre n l3 h _ hn _
        obtain ⟨n, rfl⟩ : ∃ m, n = m + 1 := ⟨n - 1, by omega⟩
        rw [l_szCoreS_l1, ge_app h]
        simp [Core.szs, szr]
      | cons x post ihp =>
        intro pre n l3 h h4 hn1 hn
        obtain ⟨n, rfl⟩ : ∃ m, n = m + 1 := ⟨n - 1, by omega⟩
        have hx : x ∈ l := by rw [h]; simp
        rw [List.length_cons] at hn
        have hn := hn (by omega)
        rw [l_szCoreS_l1, if_pos (lt_app h), at_app h, bind_some', ih x hx l3 n (by omega) (by omega), bind_some', szr_neg, Core.szs, List.length_cons]
        have hp := Core.len_szs post
        by_cases h5 : l3 < x.sz
        · rw [if_pos (by simpa using h5), szr_gt (by omega)]
        · rw [if_neg (by simpa using h5), szr_le (by omega), wrap_app h (by unfold Big; omega), ihp (pre ++ [x]) n (l3 - x.sz) (next_app h) (by omega) (by omega) (by omega)]
          congr 1
          unfold szr
          by_cases h6 : Core.szs post - post.length ≤ l3 - x.sz
          · rw [if_pos h6, if_pos (by omega)]; congr 1; omega
          · rw [if_neg h6, if_neg (by omega)]
    have := loop l [] n (left - l.length) (by simp) (by omega) (by omega) (by omega)
    rw [show ((left : Int) - (l.length : Int)) = ((left - l.length : Nat) : Int) from by omega]
    rw [show (0 : Int) = ((List.length ([] : List Core) : Nat) : Int) from rfl, this]
    congr 1
    unfold szr
    by_cases h6 : Core.szs l ≤ left
    · rw [if_pos h6, if_pos (by omega)]; congr 1; omega
    · rw [if_neg h6, if_neg (by omega)]
theorem szCore_eq : ∀ (c : Core), c.Fits → ∀ (left n : Nat), left ≤ 1048576 → 4 * left + 4 ≤ n → l_szCore n c left = some (szr c.sz left) := by
  refine Core.ind fun c ih hf left n h1 hn => ?_
  obtain ⟨_, hd, hk, hf⟩ := hf
  obtain ⟨n, rfl⟩ : ∃ m, n = m + 1 := ⟨n - 1, by omega⟩
  rw [l_szCore, szInt64S_eq _ _ h1 hd, bind_some', szr_neg, Core.sz_eq]
  by_cases h2 : left < c.data.length
  · rw [if_pos (by simpa using h2), szr_gt (by omega)]
  · rw [if_neg (by simpa using h2), szr_le (by omega)]
    generalize hl2 : left - c.data.length = left2
    rw [szCoreS_of c.kids hk (fun x hx => ih x hx (hf x hx)) left2 n (by omega) (by omega), bind_some', szr_neg]
    by_cases h7 : left2 < Core.szs c.kids
    · rw [if_pos (by simpa using h7), szr_gt (by omega)]
    · rw [if_neg (by simpa using h7)]
      congr 1
      unfold szr
      rw [if_pos (by omega), if_pos (by omega)]; congr 1; omega
theorem szCoreS_eq (l : List Core) (hk : l.length ≤ 9223372036854775807) (hf : ∀ x ∈ l, x.Fits) (left n : Nat) (h1 : left ≤ 1048576) (hn : 4 * left + 3 ≤ n) : l_szCoreS n l left = some (szr (Core.szs l) left) :=
  szCoreS_of l hk (fun x hx => szCore_eq x (hf x hx)) left n h1 hn

theorem toCoreS_of (l : List Core) (hl : l.length ≤ Big) (ih : ∀ x ∈ l, ∀ n, 4 * x.nodes ≤ n → l_toCore n x = some x) (n : Nat) (hn : 4 * Core.nodess l + 2 ≤ n) : l_toCoreS n l = some l := by
  obtain ⟨n, rfl⟩ : ∃ m, n = m + 1 := ⟨n - 1, by omega⟩
  rw [l_toCoreS, rep_ok hl, bind_some']
  have loop : ∀ (post pre : List Core) (n : Nat), l = pre ++ post → 4 * Core.nodess post + 1 ≤ n → l_toCoreS_l2 n l (pre ++ List.replicate post.length ⟨0, 0, [], []⟩) ((List.length pre : Nat) : Int) = some l := by
    intro post
    induction post with
    | nil =>
      intro pre n h hn
      obtain ⟨n, rfl⟩ : ∃ m, n = m + 1 := ⟨n - 1, by omega⟩
      rw [l_toCoreS_l2, ge_app h]; simp [h]
    | cons x post ihp =>
      intro pre n h hn
      rw [Core.nodess] at hn
      have := x.nodes_pos
      obtain ⟨n, rfl⟩ : ∃ m, n = m + 1 := ⟨n - 1, by omega⟩
      have hx : x ∈ l := by rw [h]; simp
      rw [l_toCoreS_l2, if_pos (lt_app h), at_app h, bind_some', ih x hx n (by omega), bind_some', List.length_cons, at_rep, bind_some', set1_app, bind_some', wrap_app h hl]
      exact ihp (pre ++ [x]) n (next_app h) (by omega)
  exact loop l [] n (by simp) (by omega)
/-- A term whose lists are not too long. -/
inductive Core.Small : Core → Prop where
  | mk (c : Core) (hd : c.data.length ≤ Big) (hk : c.kids.length ≤ Big) (h : ∀ k ∈ c.kids, Core.Small k) : Core.Small c
theorem Core.szs_mem {x : Core} : ∀ {l : List Core}, x ∈ l → x.sz ≤ Core.szs l
  | c :: cs, h => by
    rw [Core.szs]
    rcases List.mem_cons.1 h with rfl | h
    · omega
    · have := Core.szs_mem h; omega
theorem Core.small_of : ∀ (c : Core), c.sz ≤ Big → c.Small := by
  refine Core.ind fun c ih h => ?_
  rw [Core.sz_eq] at h
  have := Core.len_szs c.kids
  exact ⟨c, by omega, by omega, fun k hk => ih k hk (by have := Core.szs_mem hk; omega)⟩
theorem toCore_eq : ∀ (c : Core), c.Small → ∀ n, 4 * c.nodes ≤ n → l_toCore n c = some c := by
  refine Core.ind fun c ih hs n hn => ?_
  obtain ⟨_, hd, hk, hf⟩ := hs
  rw [Core.nodes_eq] at hn
  obtain ⟨n, rfl⟩ : ∃ m, n = m + 1 := ⟨n - 1, by omega⟩
  rw [l_toCore, toInt64S_eq _ hd, bind_some', toCoreS_of c.kids hk (fun x hx => ih x hx (hf x hx)) n (by omega), bind_some']
  cases c; rfl
theorem toCoreS_eq (l : List Core) (hl : l.length ≤ Big) (hs : ∀ x ∈ l, x.Small) (n : Nat) (hn : 4 * Core.nodess l + 2 ≤ n) : l_toCoreS n l = some l := toCoreS_of l hl (fun x hx => toCore_eq x (hs x hx)) n hn

theorem eqCoreS_of (l : List Core) (hl : l.length ≤ Big) (ih : ∀ x ∈ l, ∀ n, 4 * x.nodes ≤ n → l_eqCore n x x = some true) (n : Nat) (hn : 4 * Core.nodess l + 2 ≤ n) : l_eqCoreS n l l = some true := by
  obtain ⟨n, rfl⟩ : ∃ m, n = m + 1 := ⟨n - 1, by omega⟩
  rw [l_eqCoreS, if_neg (by simp)]
  have loop : ∀ (post pre : List Core) (n : Nat), l = pre ++ post → 4 * Core.nodess post + 1 ≤ n → l_eqCoreS_l1 n l l ((List.length pre : Nat) : Int) = some true := by
    intro post
    induction post with
    | nil =>
      intro pre n h hn
      obtain ⟨n, rfl⟩ : ∃ m, n = m + 1 := ⟨n - 1, by omega⟩
      rw [l_eqCoreS_l1, ge_app h]; rfl
    | cons x post ihp =>
      intro pre n h hn
      rw [Core.nodess] at hn
      have := x.nodes_pos
      obtain ⟨n, rfl⟩ : ∃ m, n = m + 1 := ⟨n - 1, by omega⟩
      have hx : x ∈ l := by rw [h]; simp
      rw [l_eqCoreS_l1, if_pos (lt_app h), at_app h, bind_some', bind_some', ih x hx n (by omega), bind_some', if_neg (by simp), wrap_app h hl]
      exact ihp (pre ++ [x]) n (next_app h) (by omega)
  exact loop l [] n (by simp) (by omega)
theorem eqCore_eq : ∀ (c : Core), c.Small → ∀ n, 4 * c.nodes ≤ n → l_eqCore n c c = some true := by
  refine Core.ind fun c ih hs n hn => ?_
  obtain ⟨_, hd, hk, hf⟩ := hs
  rw [Core.nodes_eq] at hn
  obtain ⟨n, rfl⟩ : ∃ m, n = m + 1 := ⟨n - 1, by omega⟩
  rw [l_eqCore, if_neg (by simp), if_neg (by simp), eqInt64S_eq _ hd, bind_some', if_neg (by simp), eqCoreS_of c.kids hk (fun x hx => ih x hx (hf x hx)) n (by omega), bind_some']
  rfl
theorem eqCoreS_eq (l : List Core) (hl : l.length ≤ Big) (hs : ∀ x ∈ l, x.Small) (n : Nat) (hn : 4 * Core.nodess l + 2 ≤ n) : l_eqCoreS n l l = some true := eqCoreS_of l hl (fun x hx => eqCore_eq x (hs x hx)) n hn

end Go.Proofs.YtlmanchbpommaaaDoor.Ab

namespace Go.Proofs.YtlmanchbpommaaaDoor.Ab
set_option linter.unusedVariables false
set_option linter.unusedSimpArgs false
open Go.RowKit
/-! ### Core terms -/
theorem toCore_e (c : Core) (h : c.sz ≤ Big) : l_toCore fuel c = some c := toCore_eq c (Core.small_of c h) fuel (by have := Core.nodes_le c; rw [fuel_eq]; unfold Big at h; omega)
theorem eqCore_e (c : Core) (h : c.sz ≤ Big) : l_eqCore fuel c c = some true := eqCore_eq c (Core.small_of c h) fuel (by have := Core.nodes_le c; rw [fuel_eq]; unfold Big at h; omega)
theorem Core.szs_szl : ∀ l : List Core, Core.szs l = szl Core.sz l
  | [] => rfl
  | c :: cs => by rw [Core.szs, szl, Core.szs_szl cs]
theorem toCoreS_e (l : List Core) (h : Core.szs l ≤ Big) : l_toCoreS fuel l = some l :=
  toCoreS_eq l (by have := Core.len_szs l; omega) (fun x hx => Core.small_of x (by have := Core.szs_mem hx; omega)) fuel (by have := Core.nodess_le l; rw [fuel_eq]; unfold Big at h; omega)
theorem eqCoreS_e (l : List Core) (h : Core.szs l ≤ Big) : l_eqCoreS fuel l l = some true :=
  eqCoreS_eq l (by have := Core.len_szs l; omega) (fun x hx => Core.small_of x (by have := Core.szs_mem hx; omega)) fuel (by have := Core.nodess_le l; rw [fuel_eq]; unfold Big at h; omega)

end Go.Proofs.YtlmanchbpommaaaDoor.Ab

namespace Go.Proofs.YtlmanchbpommaaaDoor.Ab
set_option linter.unusedVariables false
set_option linter.unusedSimpArgs false
open Go.RowKit
theorem markInt64S_eq (l : List Int) (k : Nat) (h : l.length ≤ Big) (hk : k + cnts one l ≤ KB) : l_markInt64S l (k : Int) = some (((k + cnts one l : Nat) : Int), mks mkI one k l) := by
  unfold l_markInt64S
  refine gMark (fun n l k i => l_markInt64S_l1 n l k i) mkI one (fun _ => True) ?_ ?_ l k (fun _ _ => trivial) h hk
  · intro n pre post x k hx hk hp
    have e : k + one x = k + 1 := by rfl
    rw [e] at hk ⊢
    rw [l_markInt64S_l1, if_pos lt_mid]
    simp (disch := omega) only [at_mid, set_mid, bind_some', wk, wrap_len]
    rfl
  · intro n l k; rw [l_markInt64S_l1, if_neg (by rw [ge_len]; decide)]
theorem Core.fits_ok : ∀ (c : Core), oksC (Core.ds c) → c.Fits := by
  refine Core.ind fun c ih h => ?_
  rw [Core.ds_eq] at h
  simp only [oksC, D.ok, List.length_map] at h
  obtain ⟨-, -, ⟨hd, -⟩, ⟨hk, hr⟩, -⟩ := h
  exact ⟨c, hd, hk, fun k hkk => ih k hkk (oksR_mem hr hkk)⟩
mutual
def Core.cnt : Core → Nat
  | ⟨_, _, d, ks⟩ => 1 + 1 + Ab.cnts one d + Core.cnts ks
def Core.cnts : List Core → Nat
  | [] => 0
  | c :: cs => Core.cnt c + Core.cnts cs
end
theorem Core.cnt_eq (c : Core) : c.cnt = 1 + 1 + Ab.cnts one c.data + Core.cnts c.kids := by cases c; rw [Core.cnt]
theorem Core.cnts_eq : ∀ l : List Core, Core.cnts l = Ab.cnts Core.cnt l
  | [] => rfl
  | c :: cs => by rw [Core.cnts, Ab.cnts, Core.cnts_eq cs]
mutual
def Core.mk1 : Nat → Core → Core
  | k, ⟨_, _, d, ks⟩ => ⟨(k : Int), ((k + 1 : Nat) : Int), Ab.mks mkI one (k + 1 + 1) d, Core.mks (k + 1 + 1 + Ab.cnts one d) ks⟩
def Core.mks : Nat → List Core → List Core
  | _, [] => []
  | k, c :: cs => Core.mk1 k c :: Core.mks (k + Core.cnt c) cs
end
theorem Core.mk1_eq (k : Nat) (c : Core) : Core.mk1 k c = ⟨(k : Int), ((k + 1 : Nat) : Int), Ab.mks mkI one (k + 1 + 1) c.data, Core.mks (k + 1 + 1 + Ab.cnts one c.data) c.kids⟩ := by cases c; rw [Core.mk1]
theorem Core.mks_eq : ∀ (k : Nat) (l : List Core), Core.mks k l = Ab.mks Core.mk1 Core.cnt k l
  | k, [] => rfl
  | k, c :: cs => by rw [Core.mks, Ab.mks, Core.mks_eq _ cs]
mutual
theorem Core.cnt_le : ∀ c : Core, c.cnt ≤ 2 + 2 * c.sz
  | ⟨k, v, d, ks⟩ => by
    rw [Core.cnt, Core.sz]
    have := cnts_flat (c := one) (b := 1) (l := d) (fun x => one_le)
    have := Core.cnts_le ks
    omega
theorem Core.cnts_le : ∀ l : List Core, Core.cnts l ≤ 2 * Core.szs l
  | [] => by simp [Core.cnts, Core.szs]
  | c :: cs => by
    rw [Core.cnts, Core.szs]
    have := Core.cnt_le c
    have := Core.cnts_le cs
    omega
end
theorem markCore_all : ∀ n : Nat, (∀ (l : List Core) (k : Nat), 2 * Core.szs l + 2 ≤ n → Core.szs l ≤ Big → k + Core.cnts l ≤ KB → l_markCoreS n l (k : Int) = some (((k + Core.cnts l : Nat) : Int), Core.mks k l)) ∧
    (∀ (pre post : List Core) (k : Nat), 2 * Core.szs post + 1 ≤ n → pre.length + post.length ≤ Big → Core.szs post ≤ Big → k + Core.cnts post ≤ KB →
      l_markCoreS_l1 n (pre ++ post) (k : Int) ((List.length pre : Nat) : Int) = some (((k + Core.cnts post : Nat) : Int), pre ++ Core.mks k post)) := by
  intro n
  induction n with
  | zero => exact ⟨fun l k h => by omega, fun pre post k h => by omega⟩
  | succ n ih =>
    refine ⟨fun l k h hs hk => ?_, fun pre post k h hl hs hk => ?_⟩
    · rw [l_markCoreS]
      exact ih.2 [] l k (by omega) (by have := Core.len_szs l; simp; omega) hs hk
    · cases post with
      | nil => rw [List.append_nil, l_markCoreS_l1, if_neg (by rw [ge_len]; decide), Core.cnts, Core.mks, List.append_nil]; rfl
      | cons x post =>
        rw [Core.szs] at h hs
        rw [Core.cnts] at hk ⊢
        rw [List.length_cons] at hl
        have e : k + (Core.cnt x + Core.cnts post) = k + 1 + 1 + Ab.cnts one x.data + Core.cnts x.kids + Core.cnts post := by rw [Core.cnt_eq]; omega
        rw [e] at hk ⊢
        rw [Core.sz_eq] at h hs
        rw [l_markCoreS_l1, if_pos lt_mid]
        simp (disch := omega) only [at_mid, set_mid, bind_some', wk, wrap_len, markInt64S_eq, ih.1]
        have hx : Core.mk1 k x = ⟨(k : Int), ((k + 1 : Nat) : Int), Ab.mks mkI one (k + 1 + 1) x.data, Core.mks (k + 1 + 1 + Ab.cnts one x.data) x.kids⟩ := Core.mk1_eq k x
        rw [← hx]
        have := ih.2 (pre ++ [Core.mk1 k x]) post (k + 1 + 1 + Ab.cnts one x.data + Core.cnts x.kids) (by omega) (by simp; omega) (by omega) (by omega)
        rw [List.append_assoc, List.append_assoc, List.length_append] at this
        simp only [List.cons_append, List.nil_append, List.length_cons, List.length_nil, Nat.zero_add] at this
        rw [this, Core.mks, show k + Core.cnt x = k + 1 + 1 + Ab.cnts one x.data + Core.cnts x.kids from by rw [Core.cnt_eq]; omega]
theorem markCoreS_eq (l : List Core) (k : Nat) (h : Core.szs l ≤ Big) (hk : k + Core.cnts l ≤ KB) : l_markCoreS fuel l (k : Int) = some (((k + Core.cnts l : Nat) : Int), Core.mks k l) :=
  (markCore_all fuel).1 l k (by rw [fuel_eq]; unfold Big at h; omega) h hk
/-- By value: the term's own numbers stay. -/
def Core.mkV (k : Nat) (c : Core) : Core := ⟨c.kind, c.value, Ab.mks mkI one k c.data, Core.mks (k + Ab.cnts one c.data) c.kids⟩
def Core.cntV (c : Core) : Nat := Ab.cnts one c.data + Core.cnts c.kids
theorem Core.cntV_le (c : Core) : c.cntV ≤ 2 * c.sz := by
  rw [Core.cntV, Core.sz_eq]
  have := cnts_flat (c := one) (b := 1) (l := c.data) (fun x => one_le)
  have := Core.cnts_le c.kids
  omega
theorem markCore_eq (c : Core) (k : Nat) (h : c.sz ≤ Big) (hk : k + c.cntV ≤ KB) : l_markCore c (k : Int) = some (((k + c.cntV : Nat) : Int), (Core.mkV k c).data, (Core.mkV k c).kids) := by
  have h1 := Core.cntV_le c
  rw [Core.cntV] at h1
  have h2 := Core.sz_eq c
  rw [Core.cntV] at hk
  unfold l_markCore
  rw [markInt64S_eq _ _ (by omega) (by omega), bind_some', markCoreS_eq _ _ (by omega) (by omega), bind_some']
  simp only [Core.mkV, Core.cntV, Nat.add_assoc]
end Go.Proofs.YtlmanchbpommaaaDoor.Ab

namespace Go.Proofs.YtlmanchbpommaaaDoor.Ab
set_option linter.unusedVariables false
set_option linter.unusedSimpArgs false
open Go.RowKit

/-! ### The library's searches -/
theorem indexFunc_go {α : Type} (L : Nat → List α → Int → (α → Option Bool) → Option Int) (hL : ∀ n l i f, L (n + 1) l i f = (if (decide (i < ((List.length l : Nat) : Int))) = true then (Option.bind (at? l i) fun x => (Option.bind (f x) fun b => (if b = true then (some i) else (L n l (IntKind.i64.wrap (i + 1)) f)))) else (some (-1))))
    (l : List α) (f : α → Option Bool) (p : α → Bool) (hl : l.length ≤ Big) (hf : ∀ x ∈ l, f x = some (p x)) : ∃ i : Int, L fuel l 0 f = some i ∧ (0 ≤ i ↔ l.any p = true) ∧ (l.any p = false → i = -1) := by
  have loop : ∀ (post pre : List α) (n : Nat), l = pre ++ post → post.length < n → ∃ i : Int, L n l ((List.length pre : Nat) : Int) f = some i ∧ (0 ≤ i ↔ post.any p = true) ∧ (post.any p = false → i = -1) := by
    intro post
    induction post with
    | nil =>
      intro pre n h hn
      obtain ⟨n, rfl⟩ : ∃ m, n = m + 1 := ⟨n - 1, by omega⟩
      rw [hL, ge_app h]
      exact ⟨-1, rfl, by simp, fun _ => rfl⟩
    | cons x post ih =>
      intro pre n h hn
      obtain ⟨n, rfl⟩ : ∃ m, n = m + 1 := ⟨n - 1, by omega⟩
      rw [hL, if_pos (lt_app h), at_app h, bind_some', hf x (by rw [h]; simp), bind_some']
      by_cases hp : p x = true
      · rw [if_pos hp]
        exact ⟨_, rfl, by simp [hp], by simp [hp]⟩
      · rw [if_neg hp, wrap_app h hl]
        obtain ⟨i, h1, h2, h3⟩ := ih (pre ++ [x]) n (next_app h) (by simp at hn; omega)
        have hp' : p x = false := by simpa using hp
        exact ⟨i, h1, by simpa [hp'] using h2, by simpa [hp'] using h3⟩
  exact loop l [] fuel (by simp) (by rw [fuel_eq]; unfold Big at hl; omega)
theorem containsInt (l : List Int) (f : Int → Option Bool) (p : Int → Bool) (hl : l.length ≤ Big) (hf : ∀ x ∈ l, f x = some (p x)) : g_ContainsFunc_sint64 l f = some (l.any p) := by
  obtain ⟨i, h1, h2, -⟩ := indexFunc_go g_IndexFunc_sint64_l1 (fun n l i f => by rw [g_IndexFunc_sint64_l1]) l f p hl hf
  unfold g_ContainsFunc_sint64 g_IndexFunc_sint64
  rw [h1, bind_some']
  congr 1
  rw [Bool.eq_iff_iff, decide_eq_true_eq]; exact h2
/-! ### One node -/
def shape (k : Int) : Int × Int × Int × Int :=
  if k = 1 ∨ k = 2 ∨ k = 11 then (0, 0, 0, 0) else if k = 3 ∨ k = 5 ∨ k = 7 then (2, 2, 0, 0) else if k = 4 ∨ k = 6 then (1, 1, 0, 0)
  else if k = 8 then (0, 3, 0, 0) else if k = 9 then (1, 1, 1, 4) else if k = 10 then (1, 1, 2, 2) else (0, -1, 0, 0)
def valOk (c : Core) : Bool :=
  if c.kind = 1 then decide (0 ≤ c.value ∧ c.value ≤ 255) else if c.kind = 2 then decide (-2147483648 ≤ c.value ∧ c.value ≤ 2147483647) else if c.kind = 3 then decide (1 ≤ c.value ∧ c.value ≤ 6)
  else if c.kind = 8 then decide (0 ≤ c.value ∧ c.value ≤ 3) else if c.kind = 11 then decide (0 ≤ c.value ∧ c.value ≤ 23) else decide (c.value = 0)
def inBook (n : Int) : Bool := decide (0 ≤ n ∧ n ≤ 23)
def nodeOk (c : Core) : Bool :=
  decide ((shape c.kind).1 ≤ (c.kids.length : Int) ∧ (c.kids.length : Int) ≤ (shape c.kind).2.1) && decide ((shape c.kind).2.2.1 ≤ (c.data.length : Int) ∧ (c.data.length : Int) ≤ (shape c.kind).2.2.2) && valOk c && c.data.all inBook
theorem l00In_eq (n a b : Int) : s_l00In n a b = some (decide (a ≤ n ∧ n ≤ b)) := by
  unfold s_l00In
  by_cases h : a ≤ n <;> simp [h]
theorem isInt_eq (n : Int) : i_isInt n = some (decide (-2147483648 ≤ n ∧ n ≤ 2147483647)) := by
  unfold i_isInt
  by_cases h : -2147483648 ≤ n <;> simp [h]
theorem isOperator_eq (n : Int) : i_isOperator n = some (decide (1 ≤ n ∧ n ≤ 6)) := by
  unfold i_isOperator
  by_cases h : 1 ≤ n <;> simp [h]
theorem isDefIndex_eq (n : Int) : i_isDefIndex n = some (inBook n) := by
  unfold i_isDefIndex inBook
  by_cases h : 0 ≤ n
  · simp [h]; omega
  · simp [h]
theorem l06Shape_eq (k : Int) : s_l06Shape k = some (shape k) := by
  unfold s_l06Shape s_l06Shape_j1 s_l06Shape_j2 s_l06Shape_j3 shape
  by_cases h1 : k = 1
  · simp [h1]
  by_cases h2 : k = 2
  · simp [h2]
  by_cases h11 : k = 11
  · simp [h11]
  by_cases h3 : k = 3
  · simp [h3]
  by_cases h5 : k = 5
  · simp [h5]
  by_cases h7 : k = 7
  · simp [h7]
  by_cases h4 : k = 4
  · simp [h4]
  by_cases h6 : k = 6
  · simp [h6]
  by_cases h8 : k = 8
  · simp [h8]
  by_cases h9 : k = 9
  · simp [h9]
  by_cases h10 : k = 10
  · simp [h10]
  simp [*]
theorem l06Value_eq (c : Core) : s_l06Value c = some (valOk c) := by
  unfold s_l06Value valOk
  simp only [l00In_eq, bind_some', decide_eq_true_eq]
  repeat' split
  all_goals first | rfl | simp_all
theorem any_not {l : List Int} : l.any (fun k => !inBook k) = !l.all inBook := by
  induction l with
  | nil => rfl
  | cons x xs ih => simp only [List.any_cons, List.all_cons, ih, Bool.not_and]
theorem validCoreNode_eq (c : Core) (hd : c.data.length ≤ Big) : i_validCoreNode c = some (nodeOk c) := by
  have hc : g_ContainsFunc_sint64 c.data (fun y0 => i_validCoreNode_1 y0) = some (!c.data.all inBook) := by
    rw [containsInt c.data _ (fun k => !inBook k) hd (fun x _ => by unfold i_validCoreNode_1; rw [isDefIndex_eq, bind_some']), any_not]
  have hj : ∀ v d (n : Int), i_validCoreNode_j3 c v d n = some (v && d && decide ((c.kids.length : Int) = n) && c.data.all inBook) := by
    intro v d n
    unfold i_validCoreNode_j3
    rw [hc, bind_some', Bool.not_not]
    cases v <;> cases d <;> by_cases h : (c.kids.length : Int) = n <;> simp [h]
  unfold i_validCoreNode i_validCoreNode_j1 i_validCoreNode_j2
  simp only [hj, isInt_eq, isOperator_eq, isDefIndex_eq, bind_some']
  unfold nodeOk
  have hall : (c.data.length : Int) = 0 → (c.data.all inBook) = true := fun h => by
    have h0 : c.data = [] := List.eq_nil_of_length_eq_zero (by omega)
    rw [h0]; rfl
  have hD0 : 0 ≤ (c.data.length : Int) := by omega
  have hK0 : 0 ≤ (c.kids.length : Int) := by omega
  generalize c.data.all inBook = A at *
  unfold shape valOk inBook
  generalize (c.data.length : Int) = D at *
  generalize (c.kids.length : Int) = K at *
  generalize c.value = v at *
  generalize c.kind = k at *
  clear hc hj hd
  by_cases h1 : k = 1
  · by_cases h0 : 0 ≤ v <;> simp [h1, h0] <;> (rw [Bool.eq_iff_iff]; cases A <;> simp <;> omega)
  by_cases h2 : k = 2
  · simp [h2]; rw [Bool.eq_iff_iff]; cases A <;> simp <;> omega
  by_cases h3 : k = 3
  · simp [h3]; rw [Bool.eq_iff_iff]; cases A <;> simp <;> omega
  by_cases h4 : k = 4
  · simp [h4]; rw [Bool.eq_iff_iff]; cases A <;> simp <;> omega
  by_cases h6 : k = 6
  · simp [h6]; rw [Bool.eq_iff_iff]; cases A <;> simp <;> omega
  by_cases h5 : k = 5
  · simp [h5]; rw [Bool.eq_iff_iff]; cases A <;> simp <;> omega
  by_cases h7 : k = 7
  · simp [h7]; rw [Bool.eq_iff_iff]; cases A <;> simp <;> omega
  by_cases h11 : k = 11
  · simp [h11]; rw [Bool.eq_iff_iff]; cases A <;> simp <;> omega
  by_cases h10 : k = 10
  · simp [h10]; rw [Bool.eq_iff_iff]; cases A <;> simp <;> omega
  by_cases h9 : k = 9
  · by_cases h0 : 1 ≤ D <;> simp [h9, h0] <;> (try rw [Bool.eq_iff_iff]) <;> cases A <;> simp <;> omega
  by_cases h8 : k = 8
  · by_cases h0 : D = 0
    · have := hall h0
      by_cases h9 : 0 ≤ v <;> by_cases h10 : v < 4 <;> simp [h8, h0, h9, h10, this] <;> (try omega) <;> (rw [Bool.eq_iff_iff]; simp; omega)
    · simp [h8, h0]; cases A <;> simp <;> omega
  · simp [*]; omega

/-! ### Whole terms -/
mutual
def Core.wf : Core → Bool
  | ⟨k, v, d, ks⟩ => nodeOk ⟨k, v, d, ks⟩ && Core.wfs ks
def Core.wfs : List Core → Bool
  | [] => true
  | c :: cs => Core.wf c && Core.wfs cs
end
theorem Core.wf_eq (c : Core) : c.wf = (nodeOk c && Core.wfs c.kids) := by cases c; rw [Core.wf]
mutual
def Core.depth : Core → Nat
  | ⟨_, _, _, ks⟩ => Core.depths ks + 1
def Core.depths : List Core → Nat
  | [] => 0
  | c :: cs => max (Core.depth c) (Core.depths cs)
end
theorem Core.depth_eq (c : Core) : c.depth = Core.depths c.kids + 1 := by cases c; rw [Core.depth]
mutual
theorem Core.depth_le : ∀ c : Core, c.depth ≤ c.nodes
  | ⟨k, v, d, ks⟩ => by rw [Core.depth, Core.nodes]; have := Core.depths_le ks; omega
theorem Core.depths_le : ∀ l : List Core, Core.depths l ≤ Core.nodess l
  | [] => by simp [Core.depths, Core.nodess]
  | c :: cs => by rw [Core.depths, Core.nodess]; have := Core.depth_le c; have := Core.depths_le cs; omega
end
theorem maxI (a b : Nat) : (if (a : Int) < (b : Int) then (b : Int) else (a : Int)) = ((max a b : Nat) : Int) := by
  by_cases h : (a : Int) < b
  · rw [if_pos h]; omega
  · rw [if_neg h]; omega
theorem w64n {n : Nat} (h : n ≤ Big) : IntKind.i64.wrap (n : Int) = (n : Int) := w64 (by omega) (by unfold Big at h; omega)
theorem w64n1 {n : Nat} (h : n ≤ Big) : IntKind.i64.wrap ((n : Int) + 1) = ((n + 1 : Nat) : Int) := by
  rw [w64 (by omega) (by unfold Big at h; omega)]; omega
theorem w64nn {n m : Nat} (h : n + m ≤ Big) : IntKind.i64.wrap ((n : Int) + (m : Int)) = ((n + m : Nat) : Int) := by
  rw [w64 (by omega) (by unfold Big at h; omega)]; omega

theorem coreExtent_eq : ∀ (c : Core), c.Small → c.nodes ≤ Big → ∀ n, 4 * c.nodes ≤ n → i_coreExtent n c = some ((c.depth : Int), (c.nodes : Int)) := by
  refine Core.ind fun c ih hs hN n hn => ?_
  obtain ⟨_, hd, hk, hf⟩ := hs
  rw [Core.nodes_eq] at hn hN ⊢
  rw [Core.depth_eq]
  obtain ⟨n, rfl⟩ : ∃ m, n = m + 1 := ⟨n - 1, by omega⟩
  rw [i_coreExtent]
  have loop : ∀ (post pre : List Core) (n d s : Nat), c.kids = pre ++ post → 4 * Core.nodess post + 1 ≤ n → s + Core.nodess post ≤ Big →
      i_coreExtent_l1 n c d s ((List.length pre : Nat) : Int) = some (((max d (if post = [] then d else Core.depths post + 1) : Nat) : Int), ((s + Core.nodess post : Nat) : Int)) := by
    intro post
    induction post with
    | nil =>
      intro pre n d s h hn _
      obtain ⟨n, rfl⟩ : ∃ m, n = m + 1 := ⟨n - 1, by omega⟩
      rw [i_coreExtent_l1, ge_app h]; simp [Core.nodess]
    | cons x post ihp =>
      intro pre n d s h hn hsB
      rw [Core.nodess] at hn hsB
      have := x.nodes_pos
      have hdx := Core.depth_le x
      obtain ⟨n, rfl⟩ : ∃ m, n = m + 1 := ⟨n - 1, by omega⟩
      have hx : x ∈ c.kids := by rw [h]; simp
      rw [i_coreExtent_l1, if_pos (lt_app h), at_app h, bind_some', ih x hx (hf x hx) (by omega) n (by omega), bind_some', w64n1 (by omega), maxI, w64nn (by omega), wrap_app h hk,
        ihp (pre ++ [x]) n _ _ (next_app h) (by omega) (by omega)]
      rw [Core.nodess, Core.depths, if_neg (List.cons_ne_nil _ _)]
      congr 2
      · by_cases hp : post = []
        · subst hp; simp [Core.depths] <;> omega
        · rw [if_neg hp]; omega
      · omega
  have := loop c.kids [] n 1 1 (by simp) (by omega) (by omega)
  refine this.trans ?_
  congr 2
  by_cases hp : c.kids = []
  · simp [hp, Core.depths]
  · rw [if_neg hp]; omega
theorem coreShape_eq : ∀ (c : Core), c.Small → c.nodes ≤ Big → ∀ n, 4 * c.nodes ≤ n → i_coreShape n c = some (if c.wf = true then ((c.depth : Int), (c.nodes : Int), true) else (0, 0, false)) := by
  refine Core.ind fun c ih hs hN n hn => ?_
  obtain ⟨_, hd, hk, hf⟩ := hs
  rw [Core.nodes_eq] at hn hN ⊢
  rw [Core.depth_eq, Core.wf_eq]
  obtain ⟨n, rfl⟩ : ∃ m, n = m + 1 := ⟨n - 1, by omega⟩
  rw [i_coreShape, validCoreNode_eq c hd, bind_some']
  cases hno : nodeOk c with
  | false => simp
  | true =>
    rw [if_neg (by simp)]
    have loop : ∀ (post pre : List Core) (n d s : Nat), c.kids = pre ++ post → 4 * Core.nodess post + 1 ≤ n → s + Core.nodess post ≤ Big →
        i_coreShape_l1 n c d s ((List.length pre : Nat) : Int) = some (if Core.wfs post = true then (((max d (if post = [] then d else Core.depths post + 1) : Nat) : Int), ((s + Core.nodess post : Nat) : Int), true) else (0, 0, false)) := by
      intro post
      induction post with
      | nil =>
        intro pre n d s h hn _
        obtain ⟨n, rfl⟩ : ∃ m, n = m + 1 := ⟨n - 1, by omega⟩
        rw [i_coreShape_l1, ge_app h]; simp [Core.nodess, Core.wfs]
      | cons x post ihp =>
        intro pre n d s h hn hsB
        rw [Core.nodess] at hn hsB
        have := x.nodes_pos
        have hdx := Core.depth_le x
        obtain ⟨n, rfl⟩ : ∃ m, n = m + 1 := ⟨n - 1, by omega⟩
        have hx : x ∈ c.kids := by rw [h]; simp
        rw [i_coreShape_l1, if_pos (lt_app h), at_app h, bind_some', ih x hx (hf x hx) (by omega) n (by omega), bind_some', Core.wfs]
        cases hw : x.wf with
        | false => simp
        | true =>
          rw [if_pos rfl, if_neg (by simp)]
          dsimp only
          rw [w64n1 (by omega), maxI, w64nn (by omega), wrap_app h hk, ihp (pre ++ [x]) n _ _ (next_app h) (by omega) (by omega)]
          rw [Core.nodess, Core.depths, if_neg (List.cons_ne_nil _ _), Bool.true_and]
          congr 1
          split
          · congr 2
            · by_cases hp : post = []
              · subst hp; simp [Core.depths] <;> omega
              · rw [if_neg hp]; omega
            · congr 1; omega
          · rfl
    have := loop c.kids [] n 1 1 (by simp) (by omega) (by omega)
    refine this.trans ?_
    rw [Bool.true_and]
    congr 1
    split
    · congr 2
      by_cases hp : c.kids = []
      · simp [hp, Core.depths]
      · rw [if_neg hp]; omega
    · rfl
/-- A valid term. -/
def Core.valid (c : Core) : Bool := c.wf && decide (c.depth ≤ 80 ∧ c.nodes ≤ 400)
theorem fuel_nodes {c : Core} (h : c.nodes ≤ Big) : 16 * c.nodes ≤ fuel := by rw [fuel_eq]; unfold Big at h; omega
theorem coreFits_eq (c : Core) (hs : c.Small) (hN : c.nodes ≤ Big) : i_coreFits c = some (decide (c.depth ≤ 80 ∧ c.nodes ≤ 400)) := by
  unfold i_coreFits
  rw [coreExtent_eq c hs hN fuel (by have := fuel_nodes hN; omega), bind_some']
  dsimp only
  by_cases h : c.depth ≤ 80
  · rw [if_pos (by simp; omega)]; congr 1; rw [Bool.eq_iff_iff]; simp; omega
  · rw [if_neg (by simp; omega)]; congr 1; rw [Bool.eq_iff_iff]; simp; omega
theorem ValidCore_eq (c : Core) (hs : c.Small) (hN : c.nodes ≤ Big) : i_ValidCore c = some c.valid := by
  unfold i_ValidCore Core.valid
  rw [coreShape_eq c hs hN fuel (by have := fuel_nodes hN; omega), bind_some']
  cases c.wf with
  | false => simp
  | true => simp [coreFits_eq c hs hN]
end Go.Proofs.YtlmanchbpommaaaDoor.Ab

/-
  Core terms and books: the reference's checks, closed terms, definitions named. No program is in sight.
-/
namespace Go.Proofs.YtlmanchbpommaaaDoor.Ab
set_option linter.unusedVariables false
set_option linter.unusedSimpArgs false
open Go.RowKit

theorem nodeOk_data {c : Core} (h : decide ((shape c.kind).2.2.1 ≤ (c.data.length : Int) ∧ (c.data.length : Int) ≤ (shape c.kind).2.2.2) = true) : c.data.length ≤ 4 := by
  have : (shape c.kind).2.2.2 ≤ 4 := by
    unfold shape
    repeat' split
    all_goals simp
  simp at h
  omega
theorem l06Nodes_eq : ∀ (c : Core), c.Small → ∀ (d l n : Nat), d ≤ Big → l ≤ Big → 16 * c.nodes ≤ n → s_l06Nodes n c d l = some (if c.wf = true ∧ c.depth ≤ d ∧ c.nodes ≤ l then ((c.nodes : Nat) : Int) else -1) := by
  refine Core.ind fun c ih hs d l n hd hl hn => ?_
  obtain ⟨_, hdl, hk, hf⟩ := hs
  rw [Core.nodes_eq] at hn ⊢
  rw [Core.depth_eq, Core.wf_eq]
  obtain ⟨n, rfl⟩ : ∃ m, n = m + 1 := ⟨n - 1, by omega⟩
  rw [s_l06Nodes, l06Shape_eq, bind_some']
  have hj : ∀ m, 1 ≤ m → s_l06Nodes_j1 m c d l true = some (-1) := by
    intro m hm
    obtain ⟨m, rfl⟩ : ∃ k, m = k + 1 := ⟨m - 1, by omega⟩
    rw [s_l06Nodes_j1, if_pos rfl]
  rw [hj n (by omega)]
  by_cases h1 : d < 1
  · rw [if_pos (by simp; omega), if_neg (by omega)]
  rw [if_neg (by simp; omega)]
  by_cases h2 : l < 1
  · rw [if_pos (by simp; omega), if_neg (by omega)]
  rw [if_neg (by simp; omega), l00In_eq, bind_some', l00In_eq, bind_some', l06Value_eq, bind_some']
  have hno : nodeOk c = (decide ((shape c.kind).1 ≤ (c.kids.length : Int) ∧ (c.kids.length : Int) ≤ (shape c.kind).2.1) && decide ((shape c.kind).2.2.1 ≤ (c.data.length : Int) ∧ (c.data.length : Int) ≤ (shape c.kind).2.2.2) && valOk c && c.data.all inBook) := rfl
  rw [hno]
  cases hA : decide ((shape c.kind).1 ≤ (c.kids.length : Int) ∧ (c.kids.length : Int) ≤ (shape c.kind).2.1) with
  | false => simp
  | true =>
  cases hB : decide ((shape c.kind).2.2.1 ≤ (c.data.length : Int) ∧ (c.data.length : Int) ≤ (shape c.kind).2.2.2) with
  | false => simp
  | true =>
  have hd4 := nodeOk_data hB
  cases hC : valOk c with
  | false => simp only [Bool.not_true, Bool.not_false, Bool.false_eq_true, if_false, hj n (by omega)]; simp
  | true =>
  simp only [Bool.not_true, Bool.false_eq_true, if_false, Bool.true_and]
  obtain ⟨n, rfl⟩ : ∃ m, n = m + 1 := ⟨n - 1, by omega⟩
  rw [s_l06Nodes_j1, if_neg (by simp)]
  have loop3 : ∀ (post pre : List Core) (n s : Nat), c.kids = pre ++ post → 16 * Core.nodess post + 1 ≤ n → s ≤ l →
      s_l06Nodes_l3 n c d l s ((List.length pre : Nat) : Int) = some (if Core.wfs post = true ∧ Core.depths post + 1 ≤ d ∧ s + Core.nodess post ≤ l then ((s + Core.nodess post : Nat) : Int) else -1) := by
    intro post
    induction post with
    | nil =>
      intro pre n s h hn hsl
      obtain ⟨n, rfl⟩ : ∃ m, n = m + 1 := ⟨n - 1, by omega⟩
      rw [s_l06Nodes_l3, ge_app h, if_neg (by simp), if_pos ⟨rfl, by simp [Core.depths]; omega, by simp [Core.nodess]; omega⟩]
      simp [Core.nodess]
    | cons x post ihp =>
      intro pre n s h hn hsl
      rw [Core.nodess] at hn
      have := x.nodes_pos
      obtain ⟨n, rfl⟩ : ∃ m, n = m + 1 := ⟨n - 1, by omega⟩
      have hx : x ∈ c.kids := by rw [h]; simp
      rw [s_l06Nodes_l3, if_pos (lt_app h), at_app h, bind_some', show IntKind.i64.wrap ((d : Int) - 1) = ((d - 1 : Nat) : Int) from by rw [w64 (by omega) (by unfold Big at hd; omega)]; omega,
        show IntKind.i64.wrap ((l : Int) - (s : Int)) = ((l - s : Nat) : Int) from by rw [w64 (by omega) (by unfold Big at hl; omega)]; omega,
        ih x hx (hf x hx) (d - 1) (l - s) n (by omega) (by omega) (by omega), bind_some', Core.wfs, Core.nodess, Core.depths]
      by_cases hw : x.wf = true ∧ x.depth ≤ d - 1 ∧ x.nodes ≤ l - s
      · rw [if_pos hw, if_neg (by simp), w64nn (by omega), wrap_app h hk, ihp (pre ++ [x]) n _ (next_app h) (by omega) (by omega)]
        congr 1
        by_cases hw2 : Core.wfs post = true ∧ Core.depths post + 1 ≤ d ∧ s + x.nodes + Core.nodess post ≤ l
        · rw [if_pos hw2, if_pos ⟨by simp [hw.1, hw2.1], by omega, by omega⟩]; omega
        · rw [if_neg hw2, if_neg]
          rintro ⟨k1, k2, k3⟩
          simp only [Bool.and_eq_true] at k1
          exact hw2 ⟨k1.2, by omega, by omega⟩
      · rw [if_neg hw, if_pos (by decide), if_neg]
        rintro ⟨k1, k2, k3⟩
        simp only [Bool.and_eq_true] at k1
        exact hw ⟨k1.1, by omega, by omega⟩
  have loop2 : ∀ (post pre : List Int) (n : Nat), c.data = pre ++ post → post.length + 16 * Core.nodess c.kids + 2 ≤ n →
      s_l06Nodes_l2 n c d l ((List.length pre : Nat) : Int) = some (if post.all inBook = true ∧ Core.wfs c.kids = true ∧ Core.depths c.kids + 1 ≤ d ∧ 1 + Core.nodess c.kids ≤ l then ((1 + Core.nodess c.kids : Nat) : Int) else -1) := by
    intro post
    induction post with
    | nil =>
      intro pre n h hn
      obtain ⟨n, rfl⟩ : ∃ m, n = m + 1 := ⟨n - 1, by omega⟩
      rw [s_l06Nodes_l2, ge_app h, if_neg (by simp)]
      have := loop3 c.kids [] n 1 (by simp) (by simp at hn; omega) (by omega)
      refine this.trans ?_
      simp
    | cons x post ihp =>
      intro pre n h hn
      obtain ⟨n, rfl⟩ : ∃ m, n = m + 1 := ⟨n - 1, by omega⟩
      rw [s_l06Nodes_l2, if_pos (lt_app h), at_app h, bind_some', l00In_eq, bind_some', List.all_cons]
      have e : inBook x = decide (0 ≤ x ∧ x ≤ 23) := rfl
      rw [← e]
      cases hx : inBook x with
      | false => simp
      | true =>
        rw [if_neg (by simp), wrap_app h hdl, ihp (pre ++ [x]) n (next_app h) (by simp at hn; omega), Bool.true_and]
  have := loop2 c.data [] n (by simp) (by omega)
  refine this.trans ?_
  congr 1
  by_cases hw : c.data.all inBook = true ∧ Core.wfs c.kids = true ∧ Core.depths c.kids + 1 ≤ d ∧ 1 + Core.nodess c.kids ≤ l
  · rw [if_pos hw, if_pos ⟨by rw [hw.1, hw.2.1]; rfl, hw.2.2.1, hw.2.2.2⟩]
  · rw [if_neg hw, if_neg]
    rintro ⟨k1, k2, k3⟩
    simp only [Bool.and_eq_true] at k1
    exact hw ⟨k1.1, k1.2, k2, k3⟩
theorem l06Ok_eq (c : Core) (hs : c.Small) (hN : c.nodes ≤ Big) : s_l06Ok c = some c.valid := by
  unfold s_l06Ok Core.valid
  have := l06Nodes_eq c hs 80 400 fuel (by unfold Big; omega) (by unfold Big; omega) (fuel_nodes hN)
  rw [show ((80 : Nat) : Int) = 80 from rfl, show ((400 : Nat) : Int) = 400 from rfl] at this
  rw [this, bind_some']
  congr 1
  have hp := c.nodes_pos
  by_cases h : c.wf = true ∧ c.depth ≤ 80 ∧ c.nodes ≤ 400
  · rw [if_pos h]; simp [h.1, h.2]; omega
  · rw [if_neg h]
    cases hw : c.wf with
    | false => simp
    | true => simp [hw] at h; simp; omega

end Go.Proofs.YtlmanchbpommaaaDoor.Ab

namespace Go.Proofs.YtlmanchbpommaaaDoor.Ab
set_option linter.unusedVariables false
set_option linter.unusedSimpArgs false
open Go.RowKit

structure Report.Ok (x : Report) : Prop where
  result : Core.Fits x.result
  interactions : (x.interactions.length ≤ 9223372036854775807 ∧ ∀ e ∈ x.interactions, (Lit.int IntKind.i64 e).wf = true)
  steps : (x.steps.length ≤ 9223372036854775807 ∧ ∀ e ∈ x.steps, (Lit.int IntKind.i64 e).wf = true)
  peak : (Lit.int IntKind.i64 x.peak).wf = true
  rounds : (Lit.int IntKind.i64 x.rounds).wf = true
  entered : (Lit.int IntKind.i64 x.entered).wf = true
theorem Report.ok_of (x : Report) (h : oksC (Report.ds x)) : x.Ok := by
  rw [Report.ds_eq] at h
  simp only [oksC, D.ok, List.length_map] at h
  obtain ⟨h1, h2, h3, h4, h5, h6, h7, h8, h9, -⟩ := h
  exact ⟨Core.fits_ok _ (by rw [Core.ds_eq]; simp only [oksC, D.ok, List.length_map]; exact ⟨h1, h2, h3, h4, trivial⟩), ⟨h5.1, fun e he => by have := (oksR_mem h5.2 he); simpa only [i64D, oksC, D.ok, and_true] using this⟩, ⟨h6.1, fun e he => by have := (oksR_mem h6.2 he); simpa only [i64D, oksC, D.ok, and_true] using this⟩, h7, h8, h9⟩
theorem Report.eq_iff (x y : Report) : x = y ↔ x.result = y.result ∧ x.interactions = y.interactions ∧ x.steps = y.steps ∧ x.peak = y.peak ∧ x.rounds = y.rounds ∧ x.entered = y.entered := by
  cases x; cases y; simp only [Report.mk.injEq]
def Report.sz (x : Report) : Nat := x.result.sz + (x.interactions.length + (x.steps.length + 0))
theorem szReport_eq (x : Report) (h : x.Ok) (left : Nat) (h1 : left ≤ 1048576) : l_szReport x left = some (szr x.sz left) := by
  unfold l_szReport Report.sz
  exact sz_step (szCore_eq _ h.result _ fuel (by omega) (by rw [fuel_eq]; omega)) fun _ => sz_step (szInt64S_eq _ _ (by omega) h.interactions.1) fun _ => sz_step (szInt64S_eq _ _ (by omega) h.steps.1) fun _ => sz_end
theorem toReport_eq (x : Report) (h : x.sz ≤ Big) : l_toReport x = some x := by
  unfold l_toReport
  rw [toCore_e _ (by have := h; simp only [Report.sz] at this; omega), bind_some']
  rw [toInt64S_eq _ (by have := h; simp only [Report.sz] at this; omega), bind_some']
  rw [toInt64S_eq _ (by have := h; simp only [Report.sz] at this; omega), bind_some']
  first | done | rfl
theorem eqReport_refl (x : Report) (h : x.sz ≤ Big) : l_eqReport x x = some true := by
  unfold l_eqReport
  exact eqr_bind (eqCore_e _ (by have := h; simp only [Report.sz] at this; omega)) <| eqr_bind ((eqInt64S_tells _ _ (by have := h; simp only [Report.sz] at this; omega)).true rfl) <| eqr_bind ((eqInt64S_tells _ _ (by have := h; simp only [Report.sz] at this; omega)).true rfl) <| eqr_ifn (by simp) <| eqr_ifn (by simp) <| eqr_ifn (by simp) <| rfl
end Go.Proofs.YtlmanchbpommaaaDoor.Ab

namespace Go.Proofs.YtlmanchbpommaaaDoor.Ab
set_option linter.unusedVariables false
set_option linter.unusedSimpArgs false
set_option maxRecDepth 20000
open Go.RowKit

theorem sapp_ok {a b : ByteArray} (h : a.size + b.size ≤ 9223372036854775807) : sapp? a b = some (a ++ b) := by
  unfold sapp?; rw [if_pos h]
/-! ### Texts joined by blanks -/
def joinSp : List ByteArray → ByteArray
  | [] => ByteArray.mk #[]
  | x :: r => (ByteArray.mk #[32] ++ x) ++ joinSp r
def joinL : List ByteArray → ByteArray
  | [] => ByteArray.mk #[]
  | x :: r => x ++ joinSp r
def lensB : List ByteArray → Nat
  | [] => 0
  | x :: r => x.size + 1 + lensB r
theorem e_app (a : ByteArray) : ByteArray.mk #[] ++ a = a := by
  apply ByteArray.ext; simp
theorem app_e (a : ByteArray) : a ++ ByteArray.mk #[] = a := by
  apply ByteArray.ext; simp
theorem joinSp_size : ∀ l, (joinSp l).size = lensB l
  | [] => rfl
  | x :: r => by
    rw [joinSp, ByteArray.size_append, ByteArray.size_append, joinSp_size r, lensB]
    have : (ByteArray.mk #[32]).size = 1 := rfl
    omega
theorem joinL_size : ∀ l, (joinL l).size ≤ lensB l
  | [] => by simp [joinL, lensB]; rfl
  | x :: r => by rw [joinL, ByteArray.size_append, joinSp_size r, lensB]; omega
theorem joinSp_append : ∀ a b, joinSp (a ++ b) = joinSp a ++ joinSp b
  | [], b => by rw [List.nil_append, joinSp, e_app]
  | x :: a, b => by
    rw [List.cons_append, joinSp, joinSp, joinSp_append a b]
    simp only [ByteArray.append_assoc]
theorem joinL_snoc {l : List ByteArray} (h : l ≠ []) (x : ByteArray) : joinL (l ++ [x]) = (joinL l ++ ByteArray.mk #[32]) ++ x := by
  cases l with
  | nil => exact absurd rfl h
  | cons y l =>
    rw [List.cons_append, joinL, joinL, joinSp_append]
    simp only [joinSp, app_e, ByteArray.append_assoc]
theorem join_eq (l : List ByteArray) : Lib.join (l.map (·.data.toList)) (ByteArray.mk #[32]).data.toList = (joinL l).data.toList := by
  have tail : ∀ r : List ByteArray, Lib.joinTail (ByteArray.mk #[32]).data.toList (r.map (·.data.toList)) = (joinSp r).data.toList := by
    intro r
    induction r with
    | nil => rfl
    | cons x r ih =>
      rw [joinSp, ByteArray.data_append, ByteArray.data_append, Array.toList_append, Array.toList_append, ← ih]
      simp [Lib.joinTail]
  cases l with
  | nil => rfl
  | cons x r => rw [List.map_cons, Lib.join_cons, tail, joinL, ByteArray.data_append, Array.toList_append]
theorem g_Join_eq (l : List ByteArray) (h1 : l.length ≤ 1073741824) (h2 : lensB l ≤ 1073741824) : g_Join l (ByteArray.mk #[32]) = some (joinL l) := by
  have e : joinB l (ByteArray.mk #[32]) = joinL l := by
    unfold joinB
    rw [join_eq]
  unfold g_Join
  rw [join_eq, if_pos ⟨h1, by have := joinL_size l; rw [Array.length_toList]; exact Nat.le_trans this h2⟩, e]
/-! ### Lists of numbers -/
theorem lens_dec : ∀ (l : List Int), (∀ v ∈ l, (Lit.int IntKind.i64 v).wf = true) → lensB (l.map itoaB) ≤ 22 * l.length
  | [], _ => by simp [lensB]
  | x :: l, h => by
    have := itoaB_size x (h x (by simp))
    have := lens_dec l fun v hv => h v (by simp [hv])
    rw [List.map_cons, lensB, List.length_cons]
    omega
theorem i_decimals_eq (l : List Int) (hl : l.length ≤ 16777216) (hw : ∀ v ∈ l, (Lit.int IntKind.i64 v).wf = true) : i_decimals l = some (joinL (l.map itoaB)) := by
  have hj := g_Join_eq (l.map itoaB) (by simp; omega) (by have := lens_dec l hw; omega)
  have loop : ∀ (post pre : List Int) (n : Nat), l = pre ++ post → post.length < n → i_decimals_l1 n l (pre.map itoaB) ((List.length pre : Nat) : Int) = some (joinL (l.map itoaB)) := by
    intro post
    induction post with
    | nil =>
      intro pre n h hn
      obtain ⟨n, rfl⟩ : ∃ m, n = m + 1 := ⟨n - 1, by omega⟩
      rw [i_decimals_l1, ge_app h, if_neg (by simp)]
      rw [h, List.append_nil] at hj ⊢
      rw [hj, bind_some']
    | cons x post ih =>
      intro pre n h hn
      obtain ⟨n, rfl⟩ : ∃ m, n = m + 1 := ⟨n - 1, by omega⟩
      have hpl : pre.length + 1 ≤ l.length := by rw [h]; simp
      rw [i_decimals_l1, lt_app h, if_pos rfl, at_app h, bind_some', i_Decimal_eq, bind_some', app_ok (by simp [Big]; omega), bind_some', wrap_app h (by unfold Big; omega)]
      have := ih (pre ++ [x]) n (next_app h) (by simpa using hn)
      rw [List.map_append] at this
      exact this
  exact loop l [] fuel rfl (Nat.lt_of_le_of_lt hl (Nat.lt_of_lt_of_le (by omega) (fuel_ge (n := 16777217) (by omega))))
theorem s_list (L : Nat → ByteArray → Int → Option ByteArray) (J : Nat → Int → ByteArray → Option ByteArray) (l : List Int) (hl : l.length ≤ 16777216) (hw : ∀ v ∈ l, (Lit.int IntKind.i64 v).wf = true)
    (hL : ∀ n acc i, L (n + 1) acc i = (if (decide (i < ((List.length l : Nat) : Int))) = true then (if (decide (0 < i)) = true then (Option.bind (sapp? acc (ByteArray.mk #[32])) fun v => J n i v) else J n i acc) else some acc))
    (hJ : ∀ n i acc, J (n + 1) i acc = (Option.bind (at? l i) fun v => Option.bind (s_Decimal v) fun w => Option.bind (sapp? acc w) fun z => L n z (IntKind.i64.wrap (i + 1)))) : L fuel (ByteArray.mk #[]) 0 = some (joinL (l.map itoaB)) := by
  have loop : ∀ (post pre : List Int) (n : Nat), l = pre ++ post → 2 * post.length < n → L n (joinL (pre.map itoaB)) ((List.length pre : Nat) : Int) = some (joinL (l.map itoaB)) := by
    intro post
    induction post with
    | nil =>
      intro pre n h hn
      obtain ⟨n, rfl⟩ : ∃ m, n = m + 1 := ⟨n - 1, by omega⟩
      rw [hL, ge_app h, if_neg (by simp), h, List.append_nil]
    | cons x post ih =>
      intro pre n h hn
      obtain ⟨n, rfl⟩ : ∃ m, n = m + 2 := ⟨n - 2, by simp at hn; omega⟩
      have hx : x ∈ l := by rw [h]; simp
      have hxs := itoaB_size x (hw x hx)
      have hpl : pre.length + 1 ≤ l.length := by rw [h]; simp
      have hps := lens_dec pre fun v hv => hw v (by rw [h]; simp [hv])
      have hjs := joinL_size (pre.map itoaB)
      have k1 : (ByteArray.mk #[32]).size = 1 := rfl
      have next := ih (pre ++ [x]) n (next_app h) (by simp at hn ⊢; omega)
      rw [hL, lt_app h, if_pos rfl]
      by_cases hp : pre = []
      · subst hp
        rw [if_neg (by simp), hJ, at_app h, bind_some', s_Decimal_eq x (hw x hx), bind_some', sapp_ok (by simp only [List.map_nil, joinL] at hjs ⊢; have : (ByteArray.mk #[]).size = 0 := rfl; omega), bind_some', wrap_app h (by unfold Big; omega)]
        have e : joinL (List.map itoaB []) ++ itoaB x = joinL (([] ++ [x]).map itoaB) := by
          simp only [List.map_nil, List.nil_append, List.map_cons, joinL, joinSp, e_app, app_e]
        rw [e]
        exact next
      · have hpos : 0 < pre.length := List.length_pos_iff.2 hp
        rw [if_pos (by simp; omega), sapp_ok (by omega), bind_some', hJ, at_app h, bind_some', s_Decimal_eq x (hw x hx), bind_some', sapp_ok (by rw [ByteArray.size_append]; omega), bind_some', wrap_app h (by unfold Big; omega)]
        have e : (joinL (pre.map itoaB) ++ ByteArray.mk #[32]) ++ itoaB x = joinL ((pre ++ [x]).map itoaB) := by
          rw [List.map_append, List.map_cons, List.map_nil, joinL_snoc (by simpa using hp)]
        rw [e]
        exact next
  exact loop l [] fuel rfl (Nat.lt_of_lt_of_le (by omega) (fuel_ge (n := 33554434) (by omega)))
theorem s_l06List_eq (l : List Int) (hl : l.length ≤ 16777216) (hw : ∀ v ∈ l, (Lit.int IntKind.i64 v).wf = true) : s_l06List l = some (joinL (l.map itoaB)) :=
  s_list (fun n acc i => s_l06List_l3 n l acc i) (fun n i acc => s_l06List_j4 n l i acc) l hl hw (fun n acc i => by rw [s_l06List_l3]) (fun n i acc => by rw [s_l06List_j4])
theorem s_l35List_eq (l : List Int) (hl : l.length ≤ 16777216) (hw : ∀ v ∈ l, (Lit.int IntKind.i64 v).wf = true) : s_l35List l = some (joinL (l.map itoaB)) :=
  s_list (fun n acc i => s_l35List_l3 n l acc i) (fun n i acc => s_l35List_j4 n l i acc) l hl hw (fun n acc i => by rw [s_l35List_l3]) (fun n i acc => by rw [s_l35List_j4])
/-! ### Operators -/
def opB (v : Int) : ByteArray := if v = 1 then ByteArray.mk #[43] else if v = 2 then ByteArray.mk #[45] else if v = 3 then ByteArray.mk #[42] else if v = 4 then ByteArray.mk #[47] else if v = 5 then ByteArray.mk #[60] else ByteArray.mk #[61]
theorem opB_size (v : Int) : (opB v).size = 1 := by
  unfold opB
  repeat' split
  all_goals rfl
theorem ops_cases {v : Int} (h1 : 1 ≤ v) (h2 : v ≤ 6) : v = 1 ∨ v = 2 ∨ v = 3 ∨ v = 4 ∨ v = 5 ∨ v = 6 := by omega
theorem i_OperatorText_eq {v : Int} (h1 : 1 ≤ v) (h2 : v ≤ 6) : i_OperatorText v = some (opB v) := by
  unfold i_OperatorText
  rw [isOperator_eq, bind_some', if_neg (by simp; omega), w64 (by omega) (by omega)]
  rcases ops_cases h1 h2 with rfl | rfl | rfl | rfl | rfl | rfl <;> rfl
theorem s_OperatorText_eq {v : Int} (h1 : 1 ≤ v) (h2 : v ≤ 6) : s_OperatorText v = some (opB v) := by
  unfold s_OperatorText s_l01Operators
  rw [l00In_eq, bind_some', if_neg (by simp; omega), bind_some', w64 (by omega) (by omega)]
  rcases ops_cases h1 h2 with rfl | rfl | rfl | rfl | rfl | rfl <;> rfl
/-! ### Core terms -/
def nodeText (k v : Int) (data : List Int) (t : List ByteArray) : ByteArray :=
  if k = 1 then ByteArray.mk #[35] ++ itoaB v
  else if k = 2 then itoaB v
  else if k = 3 then ByteArray.mk #[40] ++ t.getD 0 (ByteArray.mk #[]) ++ ByteArray.mk #[32] ++ opB v ++ ByteArray.mk #[32] ++ t.getD 1 (ByteArray.mk #[]) ++ ByteArray.mk #[41]
  else if k = 4 then ByteArray.mk #[94] ++ t.getD 0 (ByteArray.mk #[])
  else if k = 5 then ByteArray.mk #[40] ++ t.getD 0 (ByteArray.mk #[]) ++ ByteArray.mk #[32] ++ t.getD 1 (ByteArray.mk #[]) ++ ByteArray.mk #[41]
  else if k = 6 then ByteArray.mk #[33] ++ t.getD 0 (ByteArray.mk #[])
  else if k = 7 then ByteArray.mk #[40, 108, 101, 116, 32] ++ t.getD 0 (ByteArray.mk #[]) ++ ByteArray.mk #[32, 105, 110, 32] ++ t.getD 1 (ByteArray.mk #[]) ++ ByteArray.mk #[41]
  else if k = 9 then ByteArray.mk #[91] ++ joinL (data.map itoaB) ++ ByteArray.mk #[58] ++ t.getD 0 (ByteArray.mk #[]) ++ ByteArray.mk #[93]
  else if k = 10 then ByteArray.mk #[123] ++ joinL (data.map itoaB) ++ ByteArray.mk #[58] ++ t.getD 0 (ByteArray.mk #[]) ++ ByteArray.mk #[125]
  else if k = 11 then ByteArray.mk #[64] ++ itoaB v
  else ByteArray.mk #[60] ++ itoaB v ++ joinSp t ++ ByteArray.mk #[62]
mutual
def Core.text : Core → ByteArray
  | ⟨k, v, d, ks⟩ => nodeText k v d (Core.texts ks)
def Core.texts : List Core → List ByteArray
  | [] => []
  | c :: cs => Core.text c :: Core.texts cs
end
theorem Core.text_eq (c : Core) : c.text = nodeText c.kind c.value c.data (Core.texts c.kids) := by cases c; rw [Core.text]
theorem Core.texts_map : ∀ l : List Core, Core.texts l = l.map Core.text
  | [] => by rw [Core.texts]; rfl
  | c :: cs => by rw [Core.texts, Core.texts_map cs]; rfl
def sumB : List ByteArray → Nat
  | [] => 0
  | x :: r => x.size + sumB r
theorem lens_sum : ∀ l, lensB l = sumB l + l.length
  | [] => rfl
  | x :: r => by rw [lensB, sumB, lens_sum r, List.length_cons]; omega
theorem getD_sum (t : List ByteArray) : (t.getD 0 (ByteArray.mk #[])).size + (t.getD 1 (ByteArray.mk #[])).size ≤ sumB t := by
  have k0 : (ByteArray.mk #[]).size = 0 := rfl
  match t with
  | [] => simp [sumB, k0]
  | [x] => simp [sumB, k0]
  | x :: y :: r => simp [sumB]
set_option maxHeartbeats 4000000 in
theorem nodeText_size (k v : Int) (data : List Int) (t : List ByteArray) (hv : (Lit.int IntKind.i64 v).wf = true) (hd : data.length ≤ 4) (hw : ∀ v ∈ data, (Lit.int IntKind.i64 v).wf = true) (ht : t.length ≤ 3) : (nodeText k v data t).size ≤ 150 + sumB t := by
  have h1 := itoaB_size v hv
  have h2 := joinL_size (data.map itoaB)
  have h3 := lens_dec data hw
  have h4 := joinSp_size t
  have h5 := lens_sum t
  have h6 := getD_sum t
  have h7 := opB_size v
  have c_35 : (ByteArray.mk #[35]).size = 1 := rfl
  have c_40 : (ByteArray.mk #[40]).size = 1 := rfl
  have c_32 : (ByteArray.mk #[32]).size = 1 := rfl
  have c_41 : (ByteArray.mk #[41]).size = 1 := rfl
  have c_94 : (ByteArray.mk #[94]).size = 1 := rfl
  have c_33 : (ByteArray.mk #[33]).size = 1 := rfl
  have c_let : (ByteArray.mk #[40, 108, 101, 116, 32]).size = 5 := rfl
  have c_in : (ByteArray.mk #[32, 105, 110, 32]).size = 4 := rfl
  have c_91 : (ByteArray.mk #[91]).size = 1 := rfl
  have c_58 : (ByteArray.mk #[58]).size = 1 := rfl
  have c_93 : (ByteArray.mk #[93]).size = 1 := rfl
  have c_123 : (ByteArray.mk #[123]).size = 1 := rfl
  have c_125 : (ByteArray.mk #[125]).size = 1 := rfl
  have c_64 : (ByteArray.mk #[64]).size = 1 := rfl
  have c_60 : (ByteArray.mk #[60]).size = 1 := rfl
  have c_62 : (ByteArray.mk #[62]).size = 1 := rfl
  unfold nodeText
  repeat' split
  all_goals ((try simp only [ByteArray.size_append]); omega)
theorem small_wf {z : Int} (h0 : -2147483648 ≤ z) (h1 : z ≤ 2147483647) : (Lit.int IntKind.i64 z).wf = true := by
  simp [Lit.wf, IntKind.min, IntKind.max, IntKind.signed, IntKind.bits]; omega
theorem kinds {c : Core} (h : nodeOk c = true) : c.kind = 1 ∨ c.kind = 2 ∨ c.kind = 3 ∨ c.kind = 4 ∨ c.kind = 5 ∨ c.kind = 6 ∨ c.kind = 7 ∨ c.kind = 8 ∨ c.kind = 9 ∨ c.kind = 10 ∨ c.kind = 11 := by
  by_cases hk : c.kind = 1 ∨ c.kind = 2 ∨ c.kind = 3 ∨ c.kind = 4 ∨ c.kind = 5 ∨ c.kind = 6 ∨ c.kind = 7 ∨ c.kind = 8 ∨ c.kind = 9 ∨ c.kind = 10 ∨ c.kind = 11
  · exact hk
  · unfold nodeOk at h
    simp only [Bool.and_eq_true, decide_eq_true_eq] at h
    have e : shape c.kind = (0, -1, 0, 0) := by
      unfold shape
      rw [if_neg (by omega), if_neg (by omega), if_neg (by omega), if_neg (by omega), if_neg (by omega), if_neg (by omega)]
    rw [e] at h
    have := h.1.1.1
    simp only at this
    omega
theorem node_val {c : Core} (h : nodeOk c = true) : (Lit.int IntKind.i64 c.value).wf = true := by
  unfold nodeOk valOk at h
  simp only [Bool.and_eq_true] at h
  have := h.1.2
  repeat' split at this
  all_goals (simp only [decide_eq_true_eq] at this; exact small_wf (by omega) (by omega))
theorem node_data {c : Core} (h : nodeOk c = true) : c.data.length ≤ 4 ∧ ∀ v ∈ c.data, (Lit.int IntKind.i64 v).wf = true := by
  unfold nodeOk at h
  simp only [Bool.and_eq_true] at h
  refine ⟨nodeOk_data h.1.1.2, fun v hv => ?_⟩
  have := List.all_eq_true.1 h.2 v hv
  unfold inBook at this
  simp only [decide_eq_true_eq] at this
  exact small_wf (by omega) (by omega)
theorem node_kids {c : Core} (h : nodeOk c = true) : c.kids.length ≤ 3 := by
  unfold nodeOk at h
  simp only [Bool.and_eq_true, decide_eq_true_eq] at h
  have hs : (shape c.kind).2.1 ≤ 3 := by
    unfold shape
    repeat' split
    all_goals simp
  have := h.1.1.1.2
  omega
theorem wf_parts {c : Core} (h : c.wf = true) : nodeOk c = true ∧ ∀ k ∈ c.kids, k.wf = true := by
  rw [Core.wf_eq, Bool.and_eq_true] at h
  refine ⟨h.1, ?_⟩
  have : ∀ l : List Core, Core.wfs l = true → ∀ k ∈ l, k.wf = true := by
    intro l
    induction l with
    | nil => intro _ k hk; cases hk
    | cons x l ih =>
      intro hl k hk
      rw [Core.wfs, Bool.and_eq_true] at hl
      rcases List.mem_cons.1 hk with rfl | hk
      · exact hl.1
      · exact ih hl.2 k hk
  exact this _ h.2
theorem text_size : ∀ c : Core, c.wf = true → c.text.size ≤ 150 * c.nodes := by
  refine Core.ind fun c ih h => ?_
  obtain ⟨h1, h2⟩ := wf_parts h
  have hd := node_data h1
  have := nodeText_size c.kind c.value c.data (Core.texts c.kids) (node_val h1) hd.1 hd.2 (by rw [Core.texts_map, List.length_map]; exact node_kids h1)
  have hs : ∀ l : List Core, (∀ k ∈ l, k.text.size ≤ 150 * k.nodes) → sumB (Core.texts l) ≤ 150 * Core.nodess l := by
    intro l
    induction l with
    | nil => intro _; simp [Core.texts, sumB]
    | cons x l ihl =>
      intro hl
      have a1 := hl x (by simp)
      have a2 := ihl fun k hk => hl k (by simp [hk])
      rw [Core.texts, sumB, Core.nodess]
      omega
  have := hs c.kids fun k hk => ih k hk (h2 k hk)
  rw [Core.text_eq, Core.nodes_eq]
  omega
theorem kid_nodes {x : Core} : ∀ {l : List Core}, x ∈ l → x.nodes ≤ Core.nodess l
  | y :: l, h => by
    rw [Core.nodess]
    rcases List.mem_cons.1 h with rfl | h
    · omega
    · have := kid_nodes h; omega
theorem at0 {α : Type} (x : α) (l : List α) : at? (x :: l) 0 = some x := rfl
theorem at1 {α : Type} (x y : α) (l : List α) : at? (x :: y :: l) 1 = some y := rfl
theorem wide {a b : ByteArray} (h1 : a.size ≤ 4294967296) (h2 : b.size ≤ 4294967296) : sapp? a b = some (a ++ b) := sapp_ok (by omega)
theorem kids2 {k v : Int} {d : List Int} {ks : List Core} (h : nodeOk ⟨k, v, d, ks⟩ = true) (hk : k = 3 ∨ k = 5 ∨ k = 7) : ∃ x y, ks = [x, y] := by
  unfold nodeOk shape at h
  simp only [Bool.and_eq_true, decide_eq_true_eq] at h
  rw [if_neg (by omega), if_pos (by omega)] at h
  have := h.1.1.1
  simp only at this
  match ks, this with
  | [x, y], _ => exact ⟨x, y, rfl⟩
  | [], h => simp at h
  | [x], h => simp at h
  | x :: y :: z :: r, h => simp only [List.length_cons] at h; omega
theorem kids1 {k v : Int} {d : List Int} {ks : List Core} (h : nodeOk ⟨k, v, d, ks⟩ = true) (hk : k = 4 ∨ k = 6 ∨ k = 9 ∨ k = 10) : ∃ x, ks = [x] := by
  unfold nodeOk shape at h
  simp only [Bool.and_eq_true, decide_eq_true_eq] at h
  have h0 := h.1.1.1
  have : (ks.length : Int) = 1 := by
    rcases hk with rfl | rfl | rfl | rfl <;> simp at h0 <;> omega
  match ks, this with
  | [x], _ => exact ⟨x, rfl⟩
  | [], h => simp at h
  | x :: y :: r, h => simp only [List.length_cons] at h; omega
theorem opVal {v : Int} {d : List Int} {ks : List Core} (h : nodeOk ⟨3, v, d, ks⟩ = true) : 1 ≤ v ∧ v ≤ 6 := by
  unfold nodeOk valOk at h
  simp only [Bool.and_eq_true] at h
  have := h.1.2
  simpa using this
theorem i_end (c : Core) (h : nodeOk c = true) (ht : ∀ k ∈ c.kids, k.text.size ≤ 60000) (n : Nat) : i_coreText_l2 (n + 1) c (Core.texts c.kids) ((List.length c.kids : Nat) : Int) = some c.text := by
  rw [i_coreText_l2, if_neg (by simp), Core.text_eq]
  have hv := node_val h
  have hd := node_data h
  have hk3 := node_kids h
  have s1 := itoaB_size c.value hv
  have s2 := joinL_size (c.data.map itoaB)
  have s3 := lens_dec c.data hd.2
  have hk := kinds h
  have hdl := i_decimals_eq c.data (by omega) hd.2
  have c_35 : (ByteArray.mk #[35]).size = 1 := rfl
  have c_40 : (ByteArray.mk #[40]).size = 1 := rfl
  have c_32 : (ByteArray.mk #[32]).size = 1 := rfl
  have c_41 : (ByteArray.mk #[41]).size = 1 := rfl
  have c_94 : (ByteArray.mk #[94]).size = 1 := rfl
  have c_33 : (ByteArray.mk #[33]).size = 1 := rfl
  have c_let : (ByteArray.mk #[40, 108, 101, 116, 32]).size = 5 := rfl
  have c_in : (ByteArray.mk #[32, 105, 110, 32]).size = 4 := rfl
  have c_91 : (ByteArray.mk #[91]).size = 1 := rfl
  have c_58 : (ByteArray.mk #[58]).size = 1 := rfl
  have c_93 : (ByteArray.mk #[93]).size = 1 := rfl
  have c_123 : (ByteArray.mk #[123]).size = 1 := rfl
  have c_125 : (ByteArray.mk #[125]).size = 1 := rfl
  have c_64 : (ByteArray.mk #[64]).size = 1 := rfl
  have c_60 : (ByteArray.mk #[60]).size = 1 := rfl
  have c_62 : (ByteArray.mk #[62]).size = 1 := rfl
  obtain ⟨k, v, d, ks⟩ := c
  simp only at hv hd s1 s2 s3 hk hdl ht hk3 ⊢
  rcases hk with rfl | rfl | rfl | rfl | rfl | rfl | rfl | rfl | rfl | rfl | rfl
  · rw [if_pos (by simp), i_Decimal_eq, bind_some', sapp_ok (by first | omega | (simp only [ByteArray.size_append]; omega)), bind_some']
    unfold nodeText
    rw [if_pos rfl]
  · rw [if_neg (by simp), if_neg (by simp), if_neg (by simp), if_neg (by simp), if_neg (by simp), if_neg (by simp), if_neg (by simp), if_neg (by simp), if_neg (by simp), if_neg (by simp), i_Decimal_eq, bind_some']
    unfold nodeText
    rw [if_neg (by decide), if_pos rfl]
  · obtain ⟨x, y, rfl⟩ := kids2 h (by simp)
    have hx := ht x (by simp)
    have hy := ht y (by simp)
    have et : Core.texts [x, y] = [x.text, y.text] := by simp [Core.texts]
    have ho := opVal h
    have so := opB_size v
    rw [if_neg (by simp), if_pos (by simp), et, at0, bind_some', sapp_ok (by first | omega | (simp only [ByteArray.size_append]; omega)), bind_some', sapp_ok (by first | omega | (simp only [ByteArray.size_append]; omega)), bind_some', i_OperatorText_eq ho.1 ho.2, bind_some', sapp_ok (by first | omega | (simp only [ByteArray.size_append]; omega)), bind_some', sapp_ok (by first | omega | (simp only [ByteArray.size_append]; omega)), bind_some', at1, bind_some', sapp_ok (by first | omega | (simp only [ByteArray.size_append]; omega)), bind_some', sapp_ok (by first | omega | (simp only [ByteArray.size_append]; omega)), bind_some']
    unfold nodeText
    rw [if_neg (by decide), if_neg (by decide), if_pos rfl]
    rfl
  · obtain ⟨x, rfl⟩ := kids1 h (by simp)
    have hx := ht x (by simp)
    have et : Core.texts [x] = [x.text] := by simp [Core.texts]
    rw [if_neg (by simp), if_neg (by simp), if_pos (by simp), et, at0, bind_some', sapp_ok (by first | omega | (simp only [ByteArray.size_append]; omega)), bind_some']
    unfold nodeText
    rw [if_neg (by decide), if_neg (by decide), if_neg (by decide), if_pos rfl]
    rfl
  · obtain ⟨x, y, rfl⟩ := kids2 h (by simp)
    have hx := ht x (by simp)
    have hy := ht y (by simp)
    have et : Core.texts [x, y] = [x.text, y.text] := by simp [Core.texts]
    rw [if_neg (by simp), if_neg (by simp), if_neg (by simp), if_pos (by simp), et, at0, bind_some', sapp_ok (by first | omega | (simp only [ByteArray.size_append]; omega)), bind_some', sapp_ok (by first | omega | (simp only [ByteArray.size_append]; omega)), bind_some', at1, bind_some', sapp_ok (by first | omega | (simp only [ByteArray.size_append]; omega)), bind_some', sapp_ok (by first | omega | (simp only [ByteArray.size_append]; omega)), bind_some']
    unfold nodeText
    rw [if_neg (by decide), if_neg (by decide), if_neg (by decide), if_neg (by decide), if_pos rfl]
    rfl
  · obtain ⟨x, rfl⟩ := kids1 h (by simp)
    have hx := ht x (by simp)
    have et : Core.texts [x] = [x.text] := by simp [Core.texts]
    rw [if_neg (by simp), if_neg (by simp), if_neg (by simp), if_neg (by simp), if_pos (by simp), et, at0, bind_some', sapp_ok (by first | omega | (simp only [ByteArray.size_append]; omega)), bind_some']
    unfold nodeText
    rw [if_neg (by decide), if_neg (by decide), if_neg (by decide), if_neg (by decide), if_neg (by decide), if_pos rfl]
    rfl
  · obtain ⟨x, y, rfl⟩ := kids2 h (by simp)
    have hx := ht x (by simp)
    have hy := ht y (by simp)
    have et : Core.texts [x, y] = [x.text, y.text] := by simp [Core.texts]
    rw [if_neg (by simp), if_neg (by simp), if_neg (by simp), if_neg (by simp), if_neg (by simp), if_pos (by simp), et, at0, bind_some', sapp_ok (by first | omega | (simp only [ByteArray.size_append]; omega)), bind_some', sapp_ok (by first | omega | (simp only [ByteArray.size_append]; omega)), bind_some', at1, bind_some', sapp_ok (by first | omega | (simp only [ByteArray.size_append]; omega)), bind_some', sapp_ok (by first | omega | (simp only [ByteArray.size_append]; omega)), bind_some']
    unfold nodeText
    rw [if_neg (by decide), if_neg (by decide), if_neg (by decide), if_neg (by decide), if_neg (by decide), if_neg (by decide), if_pos rfl]
    rfl
  · have hs : ∀ l : List Core, (∀ k ∈ l, k.text.size ≤ 60000) → lensB (Core.texts l) ≤ 60001 * l.length ∧ (Core.texts l).length = l.length := by
      intro l
      induction l with
      | nil => intro _; simp [Core.texts, lensB]
      | cons x l ihl =>
        intro hl
        have a1 := hl x (by simp)
        have a2 := ihl fun k hk => hl k (by simp [hk])
        rw [Core.texts, lensB, List.length_cons, List.length_cons]
        omega
    have hst := hs ks ht
    have hjs := joinSp_size (Core.texts ks)
    rw [if_neg (by simp), if_neg (by simp), if_neg (by simp), if_neg (by simp), if_neg (by simp), if_neg (by simp), if_pos (by simp), i_Decimal_eq, bind_some', app_ok (by simp [Big]; omega), bind_some', g_Join_eq _ (by simp; omega) (by simp only [List.cons_append, List.nil_append, lensB]; omega), bind_some']
    simp only [List.cons_append, List.nil_append, joinL]
    rw [sapp_ok (by first | omega | (simp only [ByteArray.size_append]; omega)), bind_some', sapp_ok (by first | omega | (simp only [ByteArray.size_append]; omega)), bind_some']
    unfold nodeText
    rw [if_neg (by decide), if_neg (by decide), if_neg (by decide), if_neg (by decide), if_neg (by decide), if_neg (by decide), if_neg (by decide), if_neg (by decide), if_neg (by decide), if_neg (by decide)]
    simp only [ByteArray.append_assoc]
  · obtain ⟨x, rfl⟩ := kids1 h (by simp)
    have hx := ht x (by simp)
    have et : Core.texts [x] = [x.text] := by simp [Core.texts]
    rw [if_neg (by simp), if_neg (by simp), if_neg (by simp), if_neg (by simp), if_neg (by simp), if_neg (by simp), if_neg (by simp), if_pos (by simp), hdl, bind_some', sapp_ok (by first | omega | (simp only [ByteArray.size_append]; omega)), bind_some', sapp_ok (by first | omega | (simp only [ByteArray.size_append]; omega)), bind_some', et, at0, bind_some', sapp_ok (by first | omega | (simp only [ByteArray.size_append]; omega)), bind_some', sapp_ok (by first | omega | (simp only [ByteArray.size_append]; omega)), bind_some']
    unfold nodeText
    rw [if_neg (by decide), if_neg (by decide), if_neg (by decide), if_neg (by decide), if_neg (by decide), if_neg (by decide), if_neg (by decide), if_pos rfl]
    rfl
  · obtain ⟨x, rfl⟩ := kids1 h (by simp)
    have hx := ht x (by simp)
    have et : Core.texts [x] = [x.text] := by simp [Core.texts]
    rw [if_neg (by simp), if_neg (by simp), if_neg (by simp), if_neg (by simp), if_neg (by simp), if_neg (by simp), if_neg (by simp), if_neg (by simp), if_pos (by simp), hdl, bind_some', sapp_ok (by first | omega | (simp only [ByteArray.size_append]; omega)), bind_some', sapp_ok (by first | omega | (simp only [ByteArray.size_append]; omega)), bind_some', et, at0, bind_some', sapp_ok (by first | omega | (simp only [ByteArray.size_append]; omega)), bind_some', sapp_ok (by first | omega | (simp only [ByteArray.size_append]; omega)), bind_some']
    unfold nodeText
    rw [if_neg (by decide), if_neg (by decide), if_neg (by decide), if_neg (by decide), if_neg (by decide), if_neg (by decide), if_neg (by decide), if_neg (by decide), if_pos rfl]
    rfl
  · rw [if_neg (by simp), if_neg (by simp), if_neg (by simp), if_neg (by simp), if_neg (by simp), if_neg (by simp), if_neg (by simp), if_neg (by simp), if_neg (by simp), if_pos (by simp), i_Decimal_eq, bind_some', sapp_ok (by first | omega | (simp only [ByteArray.size_append]; omega)), bind_some']
    unfold nodeText
    rw [if_neg (by decide), if_neg (by decide), if_neg (by decide), if_neg (by decide), if_neg (by decide), if_neg (by decide), if_neg (by decide), if_neg (by decide), if_neg (by decide), if_pos rfl]
theorem i_coreText_eq : ∀ c : Core, c.wf = true → c.nodes ≤ 400 → ∀ n, 4 * c.nodes ≤ n → i_coreText n c = some c.text := by
  refine Core.ind fun c ih hw hN n hn => ?_
  obtain ⟨h1, h2⟩ := wf_parts hw
  have hk3 := node_kids h1
  rw [Core.nodes_eq] at hn hN
  obtain ⟨n, rfl⟩ : ∃ m, n = m + 1 := ⟨n - 1, by omega⟩
  rw [i_coreText]
  have loop : ∀ (post pre : List Core) (n : Nat), c.kids = pre ++ post → 4 * Core.nodess post + 1 ≤ n → i_coreText_l2 n c (Core.texts pre) ((List.length pre : Nat) : Int) = some c.text := by
    intro post
    induction post with
    | nil =>
      intro pre n h hn
      obtain ⟨n, rfl⟩ : ∃ m, n = m + 1 := ⟨n - 1, by omega⟩
      have hp : pre = c.kids := by rw [h, List.append_nil]
      rw [hp]
      exact i_end c h1 (fun k hk => Nat.le_trans (text_size k (h2 k hk)) (by have := kid_nodes hk; omega)) n
    | cons x post ihp =>
      intro pre n h hn
      obtain ⟨n, rfl⟩ : ∃ m, n = m + 1 := ⟨n - 1, by omega⟩
      have hx : x ∈ c.kids := by rw [h]; simp
      have hxn := kid_nodes hx
      have hpl : pre.length + 1 ≤ c.kids.length := by rw [h]; simp
      rw [Core.nodess] at hn
      have := Core.nodes_pos x
      rw [i_coreText_l2, if_pos (lt_app h), at_app h, bind_some', ih x hx (h2 x hx) (by omega) n (by omega), bind_some', app_ok (by rw [Core.texts_map]; simp [Big]; omega), bind_some', wrap_app h (by unfold Big; omega)]
      have e : Core.texts pre ++ [x.text] = Core.texts (pre ++ [x]) := by simp [Core.texts_map]
      rw [e]
      exact ihp (pre ++ [x]) n (next_app h) (by omega)
  exact loop c.kids [] n rfl (by omega)
theorem s_l06Text_eq : ∀ c : Core, c.wf = true → c.nodes ≤ 400 → ∀ n, 4 * c.nodes ≤ n → s_l06Text n c = some c.text := by
  refine Core.ind fun c ih hw hN n hn => ?_
  obtain ⟨h, h2⟩ := wf_parts hw
  rw [Core.nodes_eq] at hn hN
  obtain ⟨n, rfl⟩ : ∃ m, n = m + 1 := ⟨n - 1, by omega⟩
  have ht : ∀ k ∈ c.kids, k.text.size ≤ 60000 := fun k hk => Nat.le_trans (text_size k (h2 k hk)) (by have := kid_nodes hk; omega)
  have hr : ∀ m, 4 * Core.nodess c.kids ≤ m → ∀ k ∈ c.kids, s_l06Text m k = some k.text := fun m hm k hk => ih k hk (h2 k hk) (by have := kid_nodes hk; omega) m (by have := kid_nodes hk; omega)
  rw [Core.text_eq]
  have hv := node_val h
  have hd := node_data h
  have hk3 := node_kids h
  have s1 := itoaB_size c.value hv
  have s2 := joinL_size (c.data.map itoaB)
  have s3 := lens_dec c.data hd.2
  have hk := kinds h
  have hdl := s_l06List_eq c.data (by omega) hd.2
  have hdec := s_Decimal_eq c.value hv
  have c_35 : (ByteArray.mk #[35]).size = 1 := rfl
  have c_40 : (ByteArray.mk #[40]).size = 1 := rfl
  have c_32 : (ByteArray.mk #[32]).size = 1 := rfl
  have c_41 : (ByteArray.mk #[41]).size = 1 := rfl
  have c_94 : (ByteArray.mk #[94]).size = 1 := rfl
  have c_33 : (ByteArray.mk #[33]).size = 1 := rfl
  have c_let : (ByteArray.mk #[40, 108, 101, 116, 32]).size = 5 := rfl
  have c_in : (ByteArray.mk #[32, 105, 110, 32]).size = 4 := rfl
  have c_91 : (ByteArray.mk #[91]).size = 1 := rfl
  have c_58 : (ByteArray.mk #[58]).size = 1 := rfl
  have c_93 : (ByteArray.mk #[93]).size = 1 := rfl
  have c_123 : (ByteArray.mk #[123]).size = 1 := rfl
  have c_125 : (ByteArray.mk #[125]).size = 1 := rfl
  have c_64 : (ByteArray.mk #[64]).size = 1 := rfl
  have c_60 : (ByteArray.mk #[60]).size = 1 := rfl
  have c_62 : (ByteArray.mk #[62]).size = 1 := rfl
  have loop : c.kind = 8 → ∀ (post pre : List Core) (n : Nat), c.kids = pre ++ post → 4 * Core.nodess post + 1 ≤ n → s_l06Text_l1 n c (ByteArray.mk #[60] ++ itoaB c.value ++ joinSp (Core.texts pre)) ((List.length pre : Nat) : Int) = some (ByteArray.mk #[60] ++ itoaB c.value ++ joinSp (Core.texts c.kids) ++ ByteArray.mk #[62]) := by
    intro _ post
    have hs : ∀ l : List Core, (∀ k ∈ l, k.text.size ≤ 60000) → (joinSp (Core.texts l)).size ≤ 60001 * l.length := by
      intro l
      induction l with
      | nil => intro _; simp [Core.texts, joinSp]; rfl
      | cons x l ihl =>
        intro hl
        have a1 := hl x (by simp)
        have a2 := ihl fun k hk => hl k (by simp [hk])
        rw [Core.texts, joinSp, ByteArray.size_append, ByteArray.size_append, List.length_cons]
        omega
    induction post with
    | nil =>
      intro pre n hh hn
      obtain ⟨n, rfl⟩ : ∃ m, n = m + 1 := ⟨n - 1, by omega⟩
      have hp : pre = c.kids := by rw [hh, List.append_nil]
      have := hs c.kids ht
      rw [s_l06Text_l1, ge_app hh, if_neg (by simp), hp, sapp_ok (by simp only [ByteArray.size_append]; omega), bind_some']
    | cons x post ihp =>
      intro pre n hh hn
      obtain ⟨n, rfl⟩ : ∃ m, n = m + 1 := ⟨n - 1, by omega⟩
      have hx : x ∈ c.kids := by rw [hh]; simp
      have hxt := ht x hx
      have hpl : pre.length + 1 ≤ c.kids.length := by rw [hh]; simp
      have hps := hs pre fun k hk => ht k (by rw [hh]; simp [hk])
      rw [Core.nodess] at hn
      have := Core.nodes_pos x
      have hxn := kid_nodes hx
      rw [s_l06Text_l1, if_pos (lt_app hh), at_app hh, bind_some', ih x hx (h2 x hx) (by omega) n (by omega), bind_some', sapp_ok (by omega), bind_some', sapp_ok (by simp only [ByteArray.size_append]; omega), bind_some', wrap_app hh (by unfold Big; omega)]
      have e : ByteArray.mk #[60] ++ itoaB c.value ++ joinSp (Core.texts pre) ++ (ByteArray.mk #[32] ++ x.text) = ByteArray.mk #[60] ++ itoaB c.value ++ joinSp (Core.texts (pre ++ [x])) := by
        have e2 : Core.texts (pre ++ [x]) = Core.texts pre ++ [x.text] := by simp [Core.texts_map]
        rw [e2, joinSp_append]
        simp only [joinSp, app_e, ByteArray.append_assoc]
      rw [e]
      exact ihp (pre ++ [x]) n (next_app hh) (by omega)
  rw [s_l06Text]
  obtain ⟨k, v, d, ks⟩ := c
  simp only at hv hd s1 s2 s3 hk hdl hdec ht hr hn hN hk3 loop ⊢
  rcases hk with rfl | rfl | rfl | rfl | rfl | rfl | rfl | rfl | rfl | rfl | rfl
  · rw [if_pos (by simp), hdec, bind_some', sapp_ok (by first | omega | (simp only [ByteArray.size_append]; omega)), bind_some']
    unfold nodeText
    rw [if_pos rfl]
  · rw [if_neg (by simp), if_pos (by simp), hdec, bind_some']
    unfold nodeText
    rw [if_neg (by decide), if_pos rfl]
  · obtain ⟨x, y, rfl⟩ := kids2 h (by simp)
    have hx := ht x (by simp)
    have hy := ht y (by simp)
    have et : Core.texts [x, y] = [x.text, y.text] := by simp [Core.texts]
    have rx := hr n (by omega) x (by simp)
    have ry := hr n (by omega) y (by simp)
    have ho := opVal h
    have so := opB_size v
    rw [if_neg (by simp), if_neg (by simp), if_pos (by simp), at0, bind_some', rx, bind_some', sapp_ok (by first | omega | (simp only [ByteArray.size_append]; omega)), bind_some', sapp_ok (by first | omega | (simp only [ByteArray.size_append]; omega)), bind_some', s_OperatorText_eq ho.1 ho.2, bind_some', sapp_ok (by first | omega | (simp only [ByteArray.size_append]; omega)), bind_some', sapp_ok (by first | omega | (simp only [ByteArray.size_append]; omega)), bind_some', at1, bind_some', ry, bind_some', sapp_ok (by first | omega | (simp only [ByteArray.size_append]; omega)), bind_some', sapp_ok (by first | omega | (simp only [ByteArray.size_append]; omega)), bind_some', et]
    unfold nodeText
    rw [if_neg (by decide), if_neg (by decide), if_pos rfl]
    rfl
  · obtain ⟨x, rfl⟩ := kids1 h (by simp)
    have hx := ht x (by simp)
    have et : Core.texts [x] = [x.text] := by simp [Core.texts]
    have rx := hr n (by omega) x (by simp)
    rw [if_neg (by simp), if_neg (by simp), if_neg (by simp), if_pos (by simp), at0, bind_some', rx, bind_some', sapp_ok (by first | omega | (simp only [ByteArray.size_append]; omega)), bind_some', et]
    unfold nodeText
    rw [if_neg (by decide), if_neg (by decide), if_neg (by decide), if_pos rfl]
    rfl
  · obtain ⟨x, y, rfl⟩ := kids2 h (by simp)
    have hx := ht x (by simp)
    have hy := ht y (by simp)
    have et : Core.texts [x, y] = [x.text, y.text] := by simp [Core.texts]
    have rx := hr n (by omega) x (by simp)
    have ry := hr n (by omega) y (by simp)
    rw [if_neg (by simp), if_neg (by simp), if_neg (by simp), if_neg (by simp), if_pos (by simp), at0, bind_some', rx, bind_some', sapp_ok (by first | omega | (simp only [ByteArray.size_append]; omega)), bind_some', sapp_ok (by first | omega | (simp only [ByteArray.size_append]; omega)), bind_some', at1, bind_some', ry, bind_some', sapp_ok (by first | omega | (simp only [ByteArray.size_append]; omega)), bind_some', sapp_ok (by first | omega | (simp only [ByteArray.size_append]; omega)), bind_some', et]
    unfold nodeText
    rw [if_neg (by decide), if_neg (by decide), if_neg (by decide), if_neg (by decide), if_pos rfl]
    rfl
  · obtain ⟨x, rfl⟩ := kids1 h (by simp)
    have hx := ht x (by simp)
    have et : Core.texts [x] = [x.text] := by simp [Core.texts]
    have rx := hr n (by omega) x (by simp)
    rw [if_neg (by simp), if_neg (by simp), if_neg (by simp), if_neg (by simp), if_neg (by simp), if_pos (by simp), at0, bind_some', rx, bind_some', sapp_ok (by first | omega | (simp only [ByteArray.size_append]; omega)), bind_some', et]
    unfold nodeText
    rw [if_neg (by decide), if_neg (by decide), if_neg (by decide), if_neg (by decide), if_neg (by decide), if_pos rfl]
    rfl
  · obtain ⟨x, y, rfl⟩ := kids2 h (by simp)
    have hx := ht x (by simp)
    have hy := ht y (by simp)
    have et : Core.texts [x, y] = [x.text, y.text] := by simp [Core.texts]
    have rx := hr n (by omega) x (by simp)
    have ry := hr n (by omega) y (by simp)
    rw [if_neg (by simp), if_neg (by simp), if_neg (by simp), if_neg (by simp), if_neg (by simp), if_neg (by simp), if_pos (by simp), at0, bind_some', rx, bind_some', sapp_ok (by first | omega | (simp only [ByteArray.size_append]; omega)), bind_some', sapp_ok (by first | omega | (simp only [ByteArray.size_append]; omega)), bind_some', at1, bind_some', ry, bind_some', sapp_ok (by first | omega | (simp only [ByteArray.size_append]; omega)), bind_some', sapp_ok (by first | omega | (simp only [ByteArray.size_append]; omega)), bind_some', et]
    unfold nodeText
    rw [if_neg (by decide), if_neg (by decide), if_neg (by decide), if_neg (by decide), if_neg (by decide), if_neg (by decide), if_pos rfl]
    rfl
  · rw [if_neg (by simp), if_neg (by simp), if_neg (by simp), if_neg (by simp), if_neg (by simp), if_neg (by simp), if_neg (by simp), if_neg (by simp), if_neg (by simp), if_neg (by simp), hdec, bind_some', sapp_ok (by first | omega | (simp only [ByteArray.size_append]; omega)), bind_some']
    have := loop rfl ks [] n rfl (by omega)
    simp only [Core.texts, joinSp, app_e] at this
    unfold nodeText
    rw [if_neg (by decide), if_neg (by decide), if_neg (by decide), if_neg (by decide), if_neg (by decide), if_neg (by decide), if_neg (by decide), if_neg (by decide), if_neg (by decide), if_neg (by decide)]
    exact this
  · obtain ⟨x, rfl⟩ := kids1 h (by simp)
    have hx := ht x (by simp)
    have et : Core.texts [x] = [x.text] := by simp [Core.texts]
    have rx := hr n (by omega) x (by simp)
    rw [if_neg (by simp), if_neg (by simp), if_neg (by simp), if_neg (by simp), if_neg (by simp), if_neg (by simp), if_neg (by simp), if_pos (by simp), hdl, bind_some', sapp_ok (by first | omega | (simp only [ByteArray.size_append]; omega)), bind_some', sapp_ok (by first | omega | (simp only [ByteArray.size_append]; omega)), bind_some', at0, bind_some', rx, bind_some', sapp_ok (by first | omega | (simp only [ByteArray.size_append]; omega)), bind_some', sapp_ok (by first | omega | (simp only [ByteArray.size_append]; omega)), bind_some', et]
    unfold nodeText
    rw [if_neg (by decide), if_neg (by decide), if_neg (by decide), if_neg (by decide), if_neg (by decide), if_neg (by decide), if_neg (by decide), if_pos rfl]
    rfl
  · obtain ⟨x, rfl⟩ := kids1 h (by simp)
    have hx := ht x (by simp)
    have et : Core.texts [x] = [x.text] := by simp [Core.texts]
    have rx := hr n (by omega) x (by simp)
    rw [if_neg (by simp), if_neg (by simp), if_neg (by simp), if_neg (by simp), if_neg (by simp), if_neg (by simp), if_neg (by simp), if_neg (by simp), if_pos (by simp), hdl, bind_some', sapp_ok (by first | omega | (simp only [ByteArray.size_append]; omega)), bind_some', sapp_ok (by first | omega | (simp only [ByteArray.size_append]; omega)), bind_some', at0, bind_some', rx, bind_some', sapp_ok (by first | omega | (simp only [ByteArray.size_append]; omega)), bind_some', sapp_ok (by first | omega | (simp only [ByteArray.size_append]; omega)), bind_some', et]
    unfold nodeText
    rw [if_neg (by decide), if_neg (by decide), if_neg (by decide), if_neg (by decide), if_neg (by decide), if_neg (by decide), if_neg (by decide), if_neg (by decide), if_pos rfl]
    rfl
  · rw [if_neg (by simp), if_neg (by simp), if_neg (by simp), if_neg (by simp), if_neg (by simp), if_neg (by simp), if_neg (by simp), if_neg (by simp), if_neg (by simp), if_pos (by simp), hdec, bind_some', sapp_ok (by first | omega | (simp only [ByteArray.size_append]; omega)), bind_some']
    unfold nodeText
    rw [if_neg (by decide), if_neg (by decide), if_neg (by decide), if_neg (by decide), if_neg (by decide), if_neg (by decide), if_neg (by decide), if_neg (by decide), if_neg (by decide), if_pos rfl]
theorem valid_parts {c : Core} (h : c.valid = true) : c.wf = true ∧ c.nodes ≤ 400 := by
  unfold Core.valid at h
  simp only [Bool.and_eq_true, decide_eq_true_eq] at h
  exact ⟨h.1, h.2.2⟩
def coreB (c : Core) : ByteArray := if c.valid = true then c.text else ByteArray.mk #[]
theorem coreB_size (c : Core) : (coreB c).size ≤ 60000 := by
  unfold coreB
  split
  · rename_i h
    obtain ⟨h1, h2⟩ := valid_parts h
    have := text_size c h1
    omega
  · exact Nat.zero_le _
theorem i_CoreText_eq (c : Core) (hs : c.Small) (hN : c.nodes ≤ Big) : i_CoreText c = some (coreB c) := by
  unfold i_CoreText coreB
  rw [ValidCore_eq c hs hN, bind_some']
  cases h : c.valid with
  | false => simp
  | true =>
    obtain ⟨h1, h2⟩ := valid_parts h
    rw [if_neg (by simp), i_coreText_eq c h1 h2 fuel (by have := fuel_nodes hN; omega), bind_some', if_pos rfl]
theorem s_CoreText_eq (c : Core) (hs : c.Small) (hN : c.nodes ≤ Big) : s_CoreText c = some (coreB c) := by
  unfold s_CoreText coreB
  rw [l06Ok_eq c hs hN, bind_some']
  cases h : c.valid with
  | false => simp
  | true =>
    obtain ⟨h1, h2⟩ := valid_parts h
    rw [if_neg (by simp), s_l06Text_eq c h1 h2 fuel (by have := fuel_nodes hN; omega), bind_some', if_pos rfl]
end Go.Proofs.YtlmanchbpommaaaDoor.Ab

namespace Go.Proofs.YtlmanchbpommaaaDoor.Ab
set_option linter.unusedVariables false
set_option linter.unusedSimpArgs false
open Go.RowKit

/-! ### Marks on texts -/
theorem markText_l1_some : ∀ (j n k : Nat) (acc : ByteArray), k < 10 ^ j → j < n → k ≤ 9223372036854775807 → acc.size + j ≤ 1000 → ∃ s, l_markText_l1 n (k : Int) acc = some s := by
  have k1 : (ByteArray.mk #[109]).size = 1 := rfl
  have zero : ∀ (n : Nat) (acc : ByteArray), 0 < n → acc.size ≤ 1000 → ∃ s, l_markText_l1 n ((0 : Nat) : Int) acc = some s := fun n acc hn ha => by
    obtain ⟨n, rfl⟩ : ∃ m, n = m + 1 := ⟨n - 1, by omega⟩
    rw [l_markText_l1, if_neg (by simp), sapp_ok (by omega), bind_some']
    exact ⟨_, rfl⟩
  intro j
  induction j with
  | zero =>
    intro n k acc h1 h2 h3 h4
    obtain rfl : k = 0 := by simpa using h1
    exact zero n acc (by omega) (by omega)
  | succ j ih =>
    intro n k acc h1 h2 h3 h4
    by_cases h0 : k = 0
    · subst h0; exact zero n acc (by omega) (by omega)
    · obtain ⟨n, rfl⟩ : ∃ m, n = m + 1 := ⟨n - 1, by omega⟩
      have hd : Int.tdiv (k : Int) 10 = ((k / 10 : Nat) : Int) := rfl
      rw [Nat.pow_succ] at h1
      unfold l_markText_l1
      rw [if_pos (by simp; omega)]
      unfold strN?
      rw [if_pos (by simp), bind_some']
      have hs : ∀ z : Int, (strOfNums [z]).size = 1 := fun z => rfl
      rw [sapp_ok (by rw [hs]; omega), bind_some', hd, w64 (by omega) (by omega)]
      exact ih n (k / 10) _ (by omega) (by omega) (by omega) (by rw [ByteArray.size_append, hs]; omega)
def mkSt : Nat → ByteArray → ByteArray := fun k _ => (l_markText (k : Int)).getD (ByteArray.mk #[])
theorem markText_eq (k : Nat) (x : ByteArray) (hk : k ≤ KB) : l_markText (k : Int) = some (mkSt k x) := by
  have : ∃ s, l_markText (k : Int) = some s := by
    unfold l_markText
    split
    · exact ⟨_, rfl⟩
    · exact markText_l1_some 19 fuel k _ (by unfold KB at hk; omega) (Nat.lt_of_lt_of_le (by omega) (fuel_ge (n := 20) (by omega))) (by unfold KB at hk; omega) (by show 0 + 19 ≤ 1000; omega)
  obtain ⟨s, hs⟩ := this
  unfold mkSt
  rw [hs]
  rfl
theorem markStringS_eq (l : List ByteArray) (k : Nat) (h : l.length + strSz l ≤ Big) (hk : k + cnts one l ≤ KB) : l_markStringS l (k : Int) = some (((k + cnts one l : Nat) : Int), mks mkSt one k l) := by
  unfold l_markStringS
  refine gMark (fun n l k i => l_markStringS_l1 n l k i) mkSt one (fun _ => True) ?_ ?_ l k (fun _ _ => trivial) (by omega) hk
  · intro n pre post x k hx hk hp
    have e : k + one x = k + 1 := by rfl
    rw [e] at hk ⊢
    rw [l_markStringS_l1, if_pos lt_mid, markText_eq k x (by omega)]
    simp (disch := omega) only [at_mid, set_mid, bind_some', wk, wrap_len]
  · intro n l k; rw [l_markStringS_l1, if_neg (by rw [ge_len]; decide)]
theorem heldStringS_eq (l : List ByteArray) (k : Nat) (h : l.length + strSz l ≤ Big) (hk : k + cnts one l ≤ KB) : l_heldStringS (mks mkSt one k l) (k : Int) = some ((k + cnts one l : Nat) : Int) := by
  unfold l_heldStringS
  refine gHeld (fun n l k i => l_heldStringS_l1 n l k i) mkSt one (fun _ => True) ?_ ?_ l k (fun _ _ => trivial) (by omega) hk
  · intro n pre post x k hx hk hp
    have e : k + one x = k + 1 := by rfl
    rw [e] at hk ⊢
    rw [l_heldStringS_l1, if_pos lt_mid, markText_eq k x (by omega)]
    simp (disch := omega) only [at_mid, bind_some', wk, wrap_len, sameStr_self, Bool.not_true, Bool.false_eq_true, reduceIte]
  · intro n l k; rw [l_heldStringS_l1, if_neg (by rw [ge_len]; decide)]
theorem eqStringS_eq (l : List ByteArray) (hl : l.length ≤ Big) : l_eqStringS l l = some true := by
  unfold l_eqStringS
  rw [if_neg (by simp)]
  have loop : ∀ (post pre : List ByteArray) (n : Nat), l = pre ++ post → post.length < n → l_eqStringS_l1 n l l ((List.length pre : Nat) : Int) = some true := by
    intro post
    induction post with
    | nil =>
      intro pre n h hn
      obtain ⟨n, rfl⟩ : ∃ m, n = m + 1 := ⟨n - 1, by omega⟩
      rw [l_eqStringS_l1, ge_app h]; rfl
    | cons x post ih =>
      intro pre n h hn
      obtain ⟨n, rfl⟩ : ∃ m, n = m + 1 := ⟨n - 1, by omega⟩
      rw [l_eqStringS_l1, if_pos (lt_app h), at_app h, bind_some', bind_some', if_neg (by rw [sameStr_self]; simp), wrap_app h hl]
      exact ih (pre ++ [x]) n (next_app h) (by simp at hn; omega)
  exact loop l [] fuel (by simp) (by rw [fuel_eq]; unfold Big at hl; omega)
theorem eqStringS_tells (l m : List ByteArray) (hl : l.length ≤ Big) : Tells (l_eqStringS l m) (l = m) := by
  unfold l_eqStringS
  exact gEqS (fun n i => l_eqStringS_l1 n l m i) (fun x y => some (sameStr x y)) l m (fun n i => by rw [l_eqStringS_l1]; rfl) hl fun x _ y _ => .mk sameStr_iff
/-! ### Marks on reports -/
def Report.cntV (x : Report) : Nat := x.result.cntV + (cnts one x.interactions + cnts one x.steps)
def Report.mkV (k : Nat) (x : Report) : Report := ⟨Core.mkV k x.result, mks mkI one (k + x.result.cntV) x.interactions, mks mkI one (k + x.result.cntV + cnts one x.interactions) x.steps, x.peak, x.rounds, x.entered⟩
theorem Report.cntV_le (x : Report) : x.cntV ≤ 2 * x.sz := by
  have h1 := Core.cntV_le x.result
  have h2 := cnts_flat (c := one) (b := 1) (l := x.interactions) (fun x => one_le)
  have h3 := cnts_flat (c := one) (b := 1) (l := x.steps) (fun x => one_le)
  unfold Report.cntV Report.sz
  omega
theorem markReport_eq (x : Report) (k : Nat) (h : x.sz ≤ Big) (hk : k + x.cntV ≤ KB) : l_markReport x (k : Int) = some (((k + x.cntV : Nat) : Int), (Report.mkV k x).result.data, (Report.mkV k x).result.kids, (Report.mkV k x).interactions, (Report.mkV k x).steps) := by
  unfold Report.cntV at hk ⊢
  unfold Report.sz at h
  unfold l_markReport
  rw [markCore_eq x.result k (by omega) (by omega), bind_some', markInt64S_eq x.interactions _ (by omega) (by omega), bind_some', markInt64S_eq x.steps _ (by omega) (by omega), bind_some']
  rw [show k + (x.result.cntV + (cnts one x.interactions + cnts one x.steps)) = k + x.result.cntV + cnts one x.interactions + cnts one x.steps by omega]
  rfl
theorem ReportLines_same (x : Report) (hz : x.sz ≤ 1048576) (h : x.Ok) : ∃ r, s_ReportLines x = some r ∧ i_ReportLines x = some r ∧ (r.length + strSz r ≤ Big) := by
  unfold Report.sz at hz
  have hB : x.result.sz ≤ Big := by unfold Big; omega
  have hS := Core.small_of x.result hB
  have hN : x.result.nodes ≤ Big := by have := Core.nodes_le x.result; unfold Big; omega
  have t0 := coreB_size x.result
  have t1 := lens_dec _ h.interactions.2
  have t2 := lens_dec _ h.steps.2
  have t3 := joinL_size (x.interactions.map itoaB)
  have t4 := joinL_size (x.steps.map itoaB)
  have t5 := itoaB_size _ h.peak
  have t6 := itoaB_size _ h.rounds
  have t7 := itoaB_size _ h.entered
  have k1 : (ByteArray.mk #[114, 101, 115, 117, 108, 116, 32]).size = 7 := rfl
  have k2 : (ByteArray.mk #[105, 110, 116, 101, 114, 97, 99, 116, 105, 111, 110, 115, 32]).size = 13 := rfl
  have k3 : (ByteArray.mk #[115, 116, 101, 112, 115, 32]).size = 6 := rfl
  have k4 : (ByteArray.mk #[112, 101, 97, 107, 32]).size = 5 := rfl
  have k5 : (ByteArray.mk #[114, 111, 117, 110, 100, 115, 32]).size = 7 := rfl
  have k6 : (ByteArray.mk #[101, 110, 116, 101, 114, 101, 100, 32]).size = 8 := rfl
  refine ⟨[ByteArray.mk #[114, 101, 115, 117, 108, 116, 32] ++ coreB x.result, ByteArray.mk #[105, 110, 116, 101, 114, 97, 99, 116, 105, 111, 110, 115, 32] ++ joinL (x.interactions.map itoaB), ByteArray.mk #[115, 116, 101, 112, 115, 32] ++ joinL (x.steps.map itoaB), ByteArray.mk #[112, 101, 97, 107, 32] ++ itoaB x.peak, ByteArray.mk #[114, 111, 117, 110, 100, 115, 32] ++ itoaB x.rounds, ByteArray.mk #[101, 110, 116, 101, 114, 101, 100, 32] ++ itoaB x.entered], ?_, ?_, ?_⟩
  · unfold s_ReportLines
    rw [s_CoreText_eq _ hS hN, bind_some', sapp_ok (by omega), bind_some', s_l35List_eq _ (by omega) h.interactions.2, bind_some', sapp_ok (by omega), bind_some', s_l35List_eq _ (by omega) h.steps.2, bind_some', sapp_ok (by omega), bind_some', s_Decimal_eq _ h.peak, bind_some', sapp_ok (by omega), bind_some', s_Decimal_eq _ h.rounds, bind_some', sapp_ok (by omega), bind_some', s_Decimal_eq _ h.entered, bind_some', sapp_ok (by omega), bind_some']
  · unfold i_ReportLines
    rw [i_CoreText_eq _ hS hN, bind_some', sapp_ok (by omega), bind_some', i_decimals_eq _ (by omega) h.interactions.2, bind_some', sapp_ok (by omega), bind_some', i_decimals_eq _ (by omega) h.steps.2, bind_some', sapp_ok (by omega), bind_some', i_Decimal_eq, bind_some', sapp_ok (by omega), bind_some', i_Decimal_eq, bind_some', sapp_ok (by omega), bind_some', i_Decimal_eq, bind_some', sapp_ok (by omega), bind_some']
  · simp only [strSz, List.length_cons, List.length_nil, ByteArray.size_append, Big]
    omega
end Go.Proofs.YtlmanchbpommaaaDoor.Ab

namespace Go.Proofs.YtlmanchbpommaaaDoor.Ab
set_option linter.unusedVariables false
set_option linter.unusedSimpArgs false
open Go.RowKit

theorem ReportLines_plain (a0 : Report) (h0 : oksC (Report.ds a0)) : l_FnExactReportLines a0 = some true := by
  unfold l_FnExactReportLines
  refine law_sz (szReport_eq a0 (Report.ok_of a0 h0) (1048576) (by omega)) fun z0 => ?_
  have b0 : a0.sz ≤ Big := by unfold Big; omega
  obtain ⟨r, hs, hi, hr⟩ := ReportLines_same a0 (by omega) (Report.ok_of a0 h0)
  have ft0 : l_toReport a0 = some a0 := toReport_eq a0 b0
  have fe0 : l_eqReport a0 a0 = some true := eqReport_refl a0 b0
  have br0 := hr
  have ge0 : l_eqStringS r r = some true := eqStringS_eq r (by have := br0; omega)
  have fm0 : l_markReport a0 1 = some (((1 + a0.cntV : Nat) : Int), (Report.mkV (1) a0).result.data, (Report.mkV (1) a0).result.kids, (Report.mkV (1) a0).interactions, (Report.mkV (1) a0).steps) := markReport_eq a0 (1) b0 (by have := Report.cntV_le a0; have := b0; unfold Big KB at *; omega)
  have gm0 : l_markStringS r 1 = some (((1 + cnts one r : Nat) : Int), mks mkSt one (1) r) := markStringS_eq r (1) br0 (by have := cnts_flat (c := one) (b := 1) (l := r) (fun x => one_le); have := br0; unfold Big KB at *; omega)
  have gh0 : l_heldStringS (mks mkSt one (1) r) 1 = some (((1 + cnts one r : Nat) : Int)) := heldStringS_eq r (1) br0 (by have := cnts_flat (c := one) (b := 1) (l := r) (fun x => one_le); have := br0; unfold Big KB at *; omega)
  simp only [bind_some', hs, hi, ft0, fe0, ge0, fm0, gm0, gh0, l_FnExactReportLines_j1, sameStr_self, beq_self_eq_true, nneg, eq_self, decide_true, decide_false, Bool.not_true, Bool.not_false, Bool.false_eq_true, reduceIte]
end Go.Proofs.YtlmanchbpommaaaDoor.Ab
