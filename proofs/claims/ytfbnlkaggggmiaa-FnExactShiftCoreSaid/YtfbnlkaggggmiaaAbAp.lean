/-
  Paths in data trees: what lies at a place of a tree, its header in memory, a tree with another tree at that place. No program is in sight.
-/
import Derived.Test.YtfbnlkaggggmiaaAbA
namespace Go.Proofs.Ytfbnlkaggggmiaa.Ab
set_option linter.unusedVariables false
open Go.RowKit

/-- A step goes into a slice of elements of sz cells, to cell j of element i. -/
abbrev Pth := List (Nat × Nat × Nat)
/-- The value at the end of a path. -/
def hdr (w : World) : Value → Pth → Value
  | v, [] => v
  | .slice (some a) n c, (sz, i, j) :: p => match w.cell? ⟨a.block, a.off + (i * sz + j), none⟩ with
    | some u => hdr w u p
    | none => .tuple #[]
  | _, _ :: _ => .tuple #[]
/-- The tree at the end of a path. -/
def At : Pth → D → D → Prop
  | [], d, d' => d = d'
  | (sz, i, j) :: p, .sl rows, d' => ∃ row d1, rows[i]? = some row ∧ row.length = sz ∧ row[j]? = some d1 ∧ At p d1 d'
  | _ :: _, _, _ => False
def put : Pth → D → D → D
  | [], _, d' => d'
  | (sz, i, j) :: p, .sl rows, d' => match rows[i]? with
    | some row => match row[j]? with
      | some d1 => .sl (rows.set i (row.set j (put p d1 d')))
      | none => .sl rows
    | none => .sl rows
  | _ :: _, d, _ => d
theorem At.trans {p q : Pth} {d d1 d2 : D} : At p d d1 → At q d1 d2 → At (p ++ q) d d2 := by
  induction p generalizing d with
  | nil => intro h k; simp only [At] at h; subst h; exact k
  | cons s p ih =>
    obtain ⟨sz, i, j⟩ := s
    intro h k
    cases d <;> simp only [At] at h
    obtain ⟨row, e, h1, h2, h3, h4⟩ := h
    exact ⟨row, e, h1, h2, h3, ih h4 k⟩

/-- What is at the end of a path, and what is left when it is taken out and something else is put there. -/
theorem Own.path {w : World} : ∀ {p : Pth} {d d1 : D} {v : Value} {fp : List Nat}, Own w d v fp → At p d d1 →
    ∃ f1 f2 f3, fp = f1 ++ (f2 ++ f3) ∧ Own w d1 (hdr w v p) f2 ∧
      ∀ (w' : World) (d1' : D) (f2' : List Nat), (∀ g ∈ f1 ++ f3, w'.heap[g]? = w.heap[g]?) → Own w' d1' (hdr w v p) f2' → Own w' (put p d d1') v (f1 ++ (f2' ++ f3))
  | [], d, d1, v, fp, h, ha => by
    simp only [At] at ha
    subst ha
    exact ⟨[], fp, [], by simp, by simpa [hdr] using h, fun w' d1' f2' _ h' => by simpa [put, hdr] using h'⟩
  | (sz, i, j) :: p, d, d1, v, fp, h, ha => by
    cases d <;> simp only [At] at ha
    rename_i rows
    obtain ⟨row, e, h1, h2, h3, h4⟩ := ha
    have hi := lt_of_get h1
    have hj := lt_of_get h3
    simp only [Own] at h
    rcases h with ⟨rfl, -, -⟩ | ⟨sz', g, o, c, te, cs, fps, hv, hn, hc, hb, hlen, hr, rfl⟩
    · simp at h1
    · have hri : rows[i] = row := by rw [List.getElem?_eq_getElem hi] at h1; exact Option.some.inj h1
      obtain ⟨a1, a2, a3, rfl, hl, hoc, hset⟩ := OwnR.split i hi hr
      rw [hri] at hl hoc
      have hsz : sz' = sz := by rw [← hl, h2]
      subst hsz
      have hrj : row[j] = e := by rw [List.getElem?_eq_getElem hj] at h3; exact Option.some.inj h3
      obtain ⟨u, b1, b2, b3, rfl, hu, hob, hset2⟩ := OwnC.split j hj hoc
      rw [hrj] at hob
      obtain ⟨c1, c2, c3, rfl, hown, hback⟩ := Own.path hob h4
      have hhd : hdr w v ((sz', i, j) :: p) = hdr w u p := by
        rw [hv, hdr, hb.cell, ← Nat.add_assoc, hu]
      refine ⟨g :: (a1 ++ (b1 ++ c1)), c2, c3 ++ b3 ++ a3, by simp, by rw [hhd]; exact hown, fun w' d1' f2' hk h' => ?_⟩
      rw [hhd] at h'
      have hput : put ((sz', i, j) :: p) (.sl rows) d1' = .sl (rows.set i (row.set j (put p e d1'))) := by
        rw [put, h1]; simp only; rw [h3]
      rw [hput]
      have hg : w'.heap[g]? = w.heap[g]? := hk g (by simp)
      have hb' : Blk w' g te cs := by unfold Blk; rw [hg]; exact hb
      have hin := hback w' d1' f2' (fun x hx => hk x (by rcases List.mem_append.1 hx with h | h <;> simp [h])) h'
      have hin2 := hset2 w' cs (put p e d1') u _ (fun x hx => hk x (by rcases List.mem_append.1 hx with h | h <;> simp [h])) (fun _ _ => rfl) hu hin
      have hin3 := hset w' cs (row.set j (put p e d1')) _ (by rw [List.length_set]; exact h2) (fun x hx => hk x (by rcases List.mem_append.1 hx with h | h <;> simp [h])) (fun _ _ => rfl) hin2
      simp only [Own]
      refine .inr ⟨sz', g, o, c, te, cs, _, by rw [List.length_set]; exact hv, by rw [List.length_set]; exact hn, hc, hb', hlen, hin3, by simp⟩

/-- Where all cells that hold slices are kept, all headers are. -/
theorem hdr_keep {w w' : World} : ∀ {p : Pth} {d : D} {v : Value} {fp : List Nat} {r : List (List D)}, Own w d v fp → At p d (.sl r) →
    (∀ g ∈ fp, ∀ (o : Nat) (a : Option Addr) (n c : Nat), w.cell? ⟨g, o, none⟩ = some (.slice a n c) → w'.cell? ⟨g, o, none⟩ = some (.slice a n c)) → hdr w' v p = hdr w v p
  | [], d, v, fp, r, _, _, _ => by simp only [hdr]
  | (sz, i, j) :: p, d, v, fp, r, h, ha, hk => by
    cases d <;> simp only [At] at ha
    rename_i rows
    obtain ⟨row, e, h1, h2, h3, h4⟩ := ha
    have hi := lt_of_get h1
    have hj := lt_of_get h3
    simp only [Own] at h
    rcases h with ⟨rfl, -, -⟩ | ⟨sz', g, o, c, te, cs, fps, hv, hn, hc, hb, hlen, hr, rfl⟩
    · simp at h1
    · have hri : rows[i] = row := by rw [List.getElem?_eq_getElem hi] at h1; exact Option.some.inj h1
      obtain ⟨a1, a2, a3, rfl, hl, hoc, -⟩ := OwnR.split i hi hr
      rw [hri] at hl hoc
      have hsz : sz' = sz := by rw [← hl, h2]
      subst hsz
      have hrj : row[j] = e := by rw [List.getElem?_eq_getElem hj] at h3; exact Option.some.inj h3
      obtain ⟨u, b1, b2, b3, rfl, hu, hob, -⟩ := OwnC.split j hj hoc
      rw [hrj] at hob
      have hus : ∃ a n c, u = .slice a n c := by
        have : ∃ rows', e = .sl rows' := by
          cases p with
          | nil => simp only [At] at h4; exact ⟨_, h4⟩
          | cons s p => obtain ⟨_, _, _⟩ := s; cases e <;> simp only [At] at h4; exact ⟨_, rfl⟩
        obtain ⟨rows', rfl⟩ := this
        simp only [Own] at hob
        rcases hob with ⟨-, ⟨a, c, hv, -⟩, -⟩ | ⟨_, _, _, _, _, _, _, hv, -⟩
        · exact ⟨_, _, _, hv⟩
        · exact ⟨_, _, _, hv⟩
      obtain ⟨a, n', c', rfl⟩ := hus
      have hcell : w.cell? ⟨g, o + (i * sz' + j), none⟩ = some (.slice a n' c') := by rw [hb.cell, ← Nat.add_assoc]; exact hu
      have hcell' := hk g (by simp) _ _ _ _ hcell
      rw [hv, hdr, hdr]
      simp only
      rw [hcell, hcell']
      exact hdr_keep hob h4 fun x hx => hk x (by simp [hx])
/-- The tree at the end of a path, where another tree has been put. -/
theorem At.put {p : Pth} : ∀ {d d1 d1' : D}, At p d d1 → At p (put p d d1') d1' := by
  induction p with
  | nil => intro d d1 d1' _; simp only [At, Ab.put]
  | cons s p ih =>
    obtain ⟨sz, i, j⟩ := s
    intro d d1 d1' h
    cases d <;> simp only [At] at h
    rename_i rows
    obtain ⟨row, e, h1, h2, h3, h4⟩ := h
    have hi := lt_of_get h1
    have hj := lt_of_get h3
    have hput : Ab.put ((sz, i, j) :: p) (.sl rows) d1' = .sl (rows.set i (row.set j (Ab.put p e d1'))) := by
      rw [Ab.put, h1]; simp only; rw [h3]
    rw [hput]
    simp only [At]
    exact ⟨row.set j (Ab.put p e d1'), Ab.put p e d1', by simp [hi], by simpa using h2, by simp [hj], ih h4⟩
/-- What leads to a slice where another tree has been put: it did before, or it leads through that tree. -/
theorem At.put_inv : ∀ {q p : Pth} {d d1 d1' : D} {r : List (List D)}, At p d d1 → At q (Ab.put p d d1') (.sl r) → (∃ r', At q d (.sl r')) ∨ ∃ q2, q = p ++ q2 ∧ At q2 d1' (.sl r)
  | q, [], d, d1, d1', r, hp, hq => .inr ⟨q, rfl, by simpa only [Ab.put] using hq⟩
  | [], (sz, i, j) :: p, d, d1, d1', r, hp, hq => by
    cases d <;> simp only [At] at hp
    exact .inl ⟨_, rfl⟩
  | (sz, i, j) :: q, (sz2, i2, j2) :: p, d, d1, d1', r, hp, hq => by
    cases d <;> simp only [At] at hp
    rename_i rows
    obtain ⟨row, e, h1, h2, h3, h4⟩ := hp
    have hput : Ab.put ((sz2, i2, j2) :: p) (.sl rows) d1' = .sl (rows.set i2 (row.set j2 (Ab.put p e d1'))) := by
      rw [Ab.put, h1]; simp only; rw [h3]
    rw [hput] at hq
    simp only [At] at hq
    obtain ⟨row', e', k1, k2, k3, k4⟩ := hq
    by_cases hii : i2 = i
    · subst hii
      rw [List.getElem?_set_self (lt_of_get h1)] at k1
      obtain rfl := Option.some.inj k1
      rw [List.length_set] at k2
      by_cases hjj : j2 = j
      · subst hjj
        rw [List.getElem?_set_self (lt_of_get h3)] at k3
        obtain rfl := Option.some.inj k3
        rcases At.put_inv h4 k4 with ⟨r', hr'⟩ | ⟨q2, rfl, hq2⟩
        · exact .inl ⟨r', row, e, h1, k2, h3, hr'⟩
        · exact .inr ⟨q2, by rw [show sz = sz2 from by omega]; rfl, hq2⟩
      · rw [List.getElem?_set_ne hjj] at k3
        exact .inl ⟨r, row, e', h1, k2, k3, k4⟩
    · rw [List.getElem?_set_ne hii] at k1
      exact .inl ⟨r, row', e', k1, k2, k3, k4⟩
/-- The value at the end of a path hangs on the blocks alone. -/
theorem hdr_eq {w w' : World} : ∀ {p : Pth} {d d1 : D} {v : Value} {fp : List Nat}, Own w d v fp → At p d d1 → (∀ g ∈ fp, w'.heap[g]? = w.heap[g]?) → hdr w' v p = hdr w v p
  | [], d, d1, v, fp, _, _, _ => by simp only [hdr]
  | (sz, i, j) :: p, d, d1, v, fp, h, ha, hk => by
    cases d <;> simp only [At] at ha
    rename_i rows
    obtain ⟨row, e, h1, h2, h3, h4⟩ := ha
    have hi := lt_of_get h1
    have hj := lt_of_get h3
    simp only [Own] at h
    rcases h with ⟨rfl, -, -⟩ | ⟨sz', g, o, c, te, cs, fps, hv, hn, hc, hb, hlen, hr, rfl⟩
    · simp at h1
    · have hri : rows[i] = row := by rw [List.getElem?_eq_getElem hi] at h1; exact Option.some.inj h1
      obtain ⟨a1, a2, a3, rfl, hl, hoc, -⟩ := OwnR.split i hi hr
      rw [hri] at hl hoc
      have hsz : sz' = sz := by rw [← hl, h2]
      subst hsz
      have hrj : row[j] = e := by rw [List.getElem?_eq_getElem hj] at h3; exact Option.some.inj h3
      obtain ⟨u, b1, b2, b3, rfl, hu, hob, -⟩ := OwnC.split j hj hoc
      rw [hrj] at hob
      have hcell : w.cell? ⟨g, o + (i * sz' + j), none⟩ = some u := by rw [hb.cell, ← Nat.add_assoc]; exact hu
      have hcell' : w'.cell? ⟨g, o + (i * sz' + j), none⟩ = some u := by
        unfold World.cell? at hcell ⊢
        rw [hk g (by simp)]; exact hcell
      rw [hv, hdr, hdr]
      simp only
      rw [hcell, hcell']
      exact hdr_eq hob h4 fun x hx => hk x (by simp [hx])
/-- A row more is known: the number of cells. -/
theorem Own.row_len {w : World} {rows : List (List D)} {v : Value} {fp : List Nat} (h : Own w (.sl rows) v fp) {i : Nat} {row : List D} (hi : rows[i]? = some row) :
    ∃ g o c e cs fps, v = .slice (some ⟨g, o, none⟩) rows.length c ∧ rows.length ≤ c ∧ c ≤ maxLen ∧ Blk w g e cs ∧ o + c * row.length ≤ cs.length ∧ OwnR w cs row.length o rows fps ∧ fp = g :: fps := by
  have hlt := lt_of_get hi
  simp only [Own] at h
  rcases h with ⟨rfl, -, -⟩ | ⟨sz', g, o, c, te, cs, fps, hv, hn, hc, hb, hlen, hr, rfl⟩
  · simp at hi
  · obtain ⟨a1, a2, a3, rfl, hl, -, -⟩ := OwnR.split i hlt hr
    rw [List.getElem?_eq_getElem hlt] at hi
    rw [Option.some.inj hi] at hl
    subst hl
    exact ⟨g, o, c, te, cs, _, hv, hn, hc, hb, hlen, hr, rfl⟩
/-- A cell without a slice in it is no part of a path to a slice: with another such there, the same paths lead to slices. -/
theorem At.flat {q : Pth} : ∀ {p : Pth} {d d1 d1' : D} {r : List (List D)}, At p d d1 → (∀ x, d1 ≠ .sl x) → (∀ x, d1' ≠ .sl x) → At q (Ab.put p d d1') (.sl r) → ∃ r', At q d (.sl r') := by
  induction q with
  | nil =>
    intro p d d1 d1' r hp h h' hq
    simp only [At] at hq
    cases p with
    | nil => simp only [Ab.put] at hq; exact absurd hq (h' _)
    | cons s p => obtain ⟨_, _, _⟩ := s; cases d <;> simp only [At] at hp; exact ⟨_, rfl⟩
  | cons s q ih =>
    obtain ⟨sz, i, j⟩ := s
    intro p d d1 d1' r hp h h' hq
    cases p with
    | nil =>
      simp only [Ab.put] at hq
      cases d1' <;> simp only [At] at hq
      exact absurd rfl (h' _)
    | cons t p =>
      obtain ⟨sz2, i2, j2⟩ := t
      cases d <;> simp only [At] at hp
      rename_i rows
      obtain ⟨row, e, h1, h2, h3, h4⟩ := hp
      have hput : Ab.put ((sz2, i2, j2) :: p) (.sl rows) d1' = .sl (rows.set i2 (row.set j2 (Ab.put p e d1'))) := by
        rw [Ab.put, h1]; simp only; rw [h3]
      rw [hput] at hq
      simp only [At] at hq
      obtain ⟨row', e', k1, k2, k3, k4⟩ := hq
      have hi := lt_of_get h1
      by_cases hii : i2 = i
      · subst hii
        rw [List.getElem?_set_self hi] at k1
        obtain rfl := Option.some.inj k1
        by_cases hjj : j2 = j
        · subst hjj
          rw [List.getElem?_set_self (lt_of_get h3)] at k3
          obtain rfl := Option.some.inj k3
          obtain ⟨r', hr'⟩ := ih h4 h h' k4
          exact ⟨r', row, e, h1, by simpa using k2, h3, hr'⟩
        · rw [List.getElem?_set_ne hjj] at k3
          exact ⟨r, row, e', h1, by simpa using k2, k3, k4⟩
      · rw [List.getElem?_set_ne hii] at k1
        exact ⟨r, row', e', k1, k2, k3, k4⟩
end Go.Proofs.Ytfbnlkaggggmiaa.Ab
