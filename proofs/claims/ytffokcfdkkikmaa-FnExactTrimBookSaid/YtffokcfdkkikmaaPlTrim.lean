/-
  TrimBook: both sides answer alike. No program is in sight.
-/
import Derived.Test.YtffokcfdkkikmaaPlLive
import Derived.Test.YtffokcfdkkikmaaModT
namespace Go.Proofs.Ytffokcfdkkikmaa.Ab
set_option linter.unusedVariables false
set_option linter.unusedSimpArgs false
open Go.RowKit

mutual
def Core.ren (ρ : Int → Int) : Core → Core
  | ⟨k, v, d, ks⟩ => ⟨k, if k = 11 then ρ v else v, d.map ρ, Core.rens ρ ks⟩
def Core.rens (ρ : Int → Int) : List Core → List Core
  | [] => []
  | c :: cs => Core.ren ρ c :: Core.rens ρ cs
end
theorem Core.ren_eq (ρ : Int → Int) (c : Core) : c.ren ρ = ⟨c.kind, if c.kind = 11 then ρ c.value else c.value, c.data.map ρ, Core.rens ρ c.kids⟩ := by cases c; rw [Core.ren]
mutual
theorem Core.ren_sz (ρ : Int → Int) : ∀ c : Core, (c.ren ρ).sz = c.sz
  | ⟨k, v, d, ks⟩ => by rw [Core.ren, Core.sz, Core.sz, Core.rens_sz ρ ks, List.length_map]
theorem Core.rens_sz (ρ : Int → Int) : ∀ l : List Core, Core.szs (Core.rens ρ l) = Core.szs l
  | [] => rfl
  | c :: cs => by rw [Core.rens, Core.szs, Core.szs, Core.ren_sz ρ c, Core.rens_sz ρ cs]
end
theorem rens_snoc (ρ : Int → Int) (x : Core) : ∀ pre : List Core, Core.rens ρ (pre ++ [x]) = Core.rens ρ pre ++ [x.ren ρ]
  | [] => by simp [Core.rens]
  | c :: cs => by rw [List.cons_append, Core.rens, Core.rens, rens_snoc ρ x cs]; rfl
theorem rens_len (ρ : Int → Int) : ∀ l : List Core, (Core.rens ρ l).length = l.length
  | [] => rfl
  | c :: cs => by rw [Core.rens, List.length_cons, List.length_cons, rens_len ρ cs]
theorem sRen_eq (ρ : Int → Int) (now : List Int) : ∀ (c : Core), c.Small → (∀ y ∈ c.nm, at? now y = some (ρ y)) → ∀ (n : Nat), 4 * c.nodes + 4 * c.sz ≤ n → s_l35Renumber n c now = some (c.ren ρ) := by
  refine Core.ind fun c ih hs hnow n hn => ?_
  obtain ⟨_, hd, hk, hf⟩ := hs
  rw [Core.nodes_eq, Core.sz_eq] at hn
  rw [Core.nm_eq] at hnow
  obtain ⟨n, rfl⟩ : ∃ m, n = m + 1 := ⟨n - 1, by omega⟩
  obtain ⟨n, rfl⟩ : ∃ m, n = m + 1 := ⟨n - 1, by omega⟩
  have hkn : ∀ (l : List Core), (∀ x ∈ l, x ∈ c.kids) → ∀ y ∈ Core.nms l, y ∈ Core.nms c.kids → at? now y = some (ρ y) := fun l _ y _ hy => hnow y (by simp [hy])
  have kid : ∀ x ∈ c.kids, ∀ y ∈ x.nm, at? now y = some (ρ y) := by
    have key : ∀ l : List Core, ∀ x ∈ l, ∀ y ∈ x.nm, y ∈ Core.nms l := by
      intro l
      induction l with
      | nil => intro x h; cases h
      | cons a l ihl =>
        intro x hx y hy
        rw [Core.nms, List.mem_append]
        rcases List.mem_cons.1 hx with rfl | hx
        · exact .inl hy
        · exact .inr (ihl x hx y hy)
    exact fun x hx y hy => hnow y (by simp [key c.kids x hx y hy])
  have loop : ∀ (post pre : List Core) (n : Nat) (v : Int) (dd : List Int), c.kids = pre ++ post → 4 * Core.nodess post + 4 * Core.szs post + 1 ≤ n →
      s_l35Renumber_l5 n c now v dd (Core.rens ρ pre) ((List.length pre : Nat) : Int) = some ⟨c.kind, v, dd, Core.rens ρ c.kids⟩ := by
    intro post
    induction post with
    | nil =>
      intro pre n v dd h hn
      obtain ⟨n, rfl⟩ : ∃ m, n = m + 1 := ⟨n - 1, by omega⟩
      rw [s_l35Renumber_l5, ge_app h, if_neg (by simp)]
      rw [List.append_nil] at h
      rw [h]
    | cons x post ihp =>
      intro pre n v dd h hn
      rw [Core.nodess, Core.szs] at hn
      have := x.nodes_pos
      obtain ⟨n, rfl⟩ : ∃ m, n = m + 1 := ⟨n - 1, by omega⟩
      have hx : x ∈ c.kids := by rw [h]; simp
      have hpl : pre.length + 1 ≤ c.kids.length := by rw [h]; simp
      rw [s_l35Renumber_l5, if_pos (lt_app h), at_app h, bind_some', ih x hx (hf x hx) (kid x hx) n (by omega), bind_some', app_ok (by rw [rens_len]; simp; omega), bind_some', wrap_app h hk, ← rens_snoc]
      exact ihp (pre ++ [x]) n v dd (next_app h) (by omega)
  have data : ∀ (post pre : List Int) (n : Nat) (v : Int), c.data = pre ++ post → 4 * Core.nodess c.kids + 4 * Core.szs c.kids + 1 + post.length + 1 ≤ n →
      s_l35Renumber_l3 n c now v (pre.map ρ) ((List.length pre : Nat) : Int) = some ⟨c.kind, v, c.data.map ρ, Core.rens ρ c.kids⟩ := by
    intro post
    induction post with
    | nil =>
      intro pre n v h hn
      obtain ⟨n, rfl⟩ : ∃ m, n = m + 1 := ⟨n - 1, by omega⟩
      have := loop c.kids [] n v (pre.map ρ) (by simp) (by simp at hn; omega)
      rw [s_l35Renumber_l3, ge_app h, if_neg (by simp)]
      rw [List.append_nil] at h
      rw [h]
      exact this
    | cons x post ihp =>
      intro pre n v h hn
      rw [List.length_cons] at hn
      obtain ⟨n, rfl⟩ : ∃ m, n = m + 1 := ⟨n - 1, by omega⟩
      have hpl : pre.length + 1 ≤ c.data.length := by rw [h]; simp
      have hx : at? now x = some (ρ x) := hnow x (by rw [h]; simp)
      rw [s_l35Renumber_l3, if_pos (lt_app h), at_app h, bind_some', hx, bind_some', app_ok (by simp; omega), bind_some', wrap_app h hd]
      have := ihp (pre ++ [x]) n v (next_app h) (by omega)
      rw [List.map_append] at this
      exact this
  have rest : ∀ v : Int, s_l35Renumber_j1 (n + 1) c now v = some ⟨c.kind, v, c.data.map ρ, Core.rens ρ c.kids⟩ := fun v => by
    rw [s_l35Renumber_j1]
    exact data c.data [] n v (by simp) (by omega)
  rw [s_l35Renumber, Core.ren_eq]
  by_cases h : c.kind = 11
  · have hx : at? now c.value = some (ρ c.value) := hnow c.value (by simp [h])
    rw [if_pos (by simpa using h), hx, bind_some', rest, if_pos h]
  · rw [if_neg (by simpa using h), rest, if_neg h]
theorem iRen_eq (order : List Int) (ho : order.length ≤ Big) : ∀ (c : Core), c.Small → ∀ (n : Nat), 4 * c.nodes + 4 * c.sz ≤ n → i_renumberDefs n c order = some (c.ren (idxZ order)) := by
  refine Core.ind fun c ih hs n hn => ?_
  obtain ⟨_, hd, hk, hf⟩ := hs
  rw [Core.nodes_eq, Core.sz_eq] at hn
  obtain ⟨n, rfl⟩ : ∃ m, n = m + 1 := ⟨n - 1, by omega⟩
  obtain ⟨n, rfl⟩ : ∃ m, n = m + 1 := ⟨n - 1, by omega⟩
  have loop : ∀ (post pre : List Core) (n : Nat) (v : Int) (dd : List Int), c.kids = pre ++ post → 4 * Core.nodess post + 4 * Core.szs post + 1 ≤ n →
      i_renumberDefs_l5 n c order v dd (Core.rens (idxZ order) pre) ((List.length pre : Nat) : Int) = some ⟨c.kind, v, dd, Core.rens (idxZ order) c.kids⟩ := by
    intro post
    induction post with
    | nil =>
      intro pre n v dd h hn
      obtain ⟨n, rfl⟩ : ∃ m, n = m + 1 := ⟨n - 1, by omega⟩
      rw [i_renumberDefs_l5, ge_app h, if_neg (by simp)]
      rw [List.append_nil] at h
      rw [h]
    | cons x post ihp =>
      intro pre n v dd h hn
      rw [Core.nodess, Core.szs] at hn
      have := x.nodes_pos
      obtain ⟨n, rfl⟩ : ∃ m, n = m + 1 := ⟨n - 1, by omega⟩
      have hx : x ∈ c.kids := by rw [h]; simp
      have hpl : pre.length + 1 ≤ c.kids.length := by rw [h]; simp
      rw [i_renumberDefs_l5, if_pos (lt_app h), at_app h, bind_some', ih x hx (hf x hx) n (by omega), bind_some', app_ok (by rw [rens_len]; simp; omega), bind_some', wrap_app h hk, ← rens_snoc]
      exact ihp (pre ++ [x]) n v dd (next_app h) (by omega)
  have data : ∀ (post pre : List Int) (n : Nat) (v : Int), c.data = pre ++ post → 4 * Core.nodess c.kids + 4 * Core.szs c.kids + 1 + post.length + 1 ≤ n →
      i_renumberDefs_l3 n c order v (pre.map (idxZ order)) ((List.length pre : Nat) : Int) = some ⟨c.kind, v, c.data.map (idxZ order), Core.rens (idxZ order) c.kids⟩ := by
    intro post
    induction post with
    | nil =>
      intro pre n v h hn
      obtain ⟨n, rfl⟩ : ∃ m, n = m + 1 := ⟨n - 1, by omega⟩
      have := loop c.kids [] n v (pre.map (idxZ order)) (by simp) (by simp at hn; omega)
      rw [i_renumberDefs_l3, ge_app h, if_neg (by simp)]
      rw [List.append_nil] at h
      rw [h]
      exact this
    | cons x post ihp =>
      intro pre n v h hn
      rw [List.length_cons] at hn
      obtain ⟨n, rfl⟩ : ∃ m, n = m + 1 := ⟨n - 1, by omega⟩
      have hpl : pre.length + 1 ≤ c.data.length := by rw [h]; simp
      rw [i_renumberDefs_l3, if_pos (lt_app h), at_app h, bind_some', index_eq _ _ ho, bind_some', app_ok (by simp; omega), bind_some', wrap_app h hd]
      have := ihp (pre ++ [x]) n v (next_app h) (by omega)
      rw [List.map_append] at this
      exact this
  have rest : ∀ v : Int, i_renumberDefs_j1 (n + 1) c order v = some ⟨c.kind, v, c.data.map (idxZ order), Core.rens (idxZ order) c.kids⟩ := fun v => by
    rw [i_renumberDefs_j1]
    exact data c.data [] n v (by simp) (by omega)
  rw [i_renumberDefs, Core.ren_eq]
  by_cases h : c.kind = 11
  · rw [if_pos (by simpa using h), index_eq _ _ ho, bind_some', rest, if_pos h]
  · rw [if_neg (by simpa using h), rest, if_neg h]
/-- The places of what was put down so far. -/
def Placed (live : List Int) (k p : Nat) (now : List Int) : Prop := now.length = k ∧ ∀ i x, i < p → live[i]? = some x → now[x.toNat]? = some (i : Int)
theorem idx_of {l : List Int} (hn : l.Nodup) {i : Nat} {x : Int} (h : l[i]? = some x) : idxZ l x = (i : Int) := by
  have hm : x ∈ l := List.mem_of_getElem? h
  obtain ⟨j, hj⟩ := idxI_mem.1 hm
  have h1 := idxI_get hj
  unfold idxZ
  rw [hj]
  obtain ⟨hi, ei⟩ := List.getElem?_eq_some_iff.1 h
  obtain ⟨hj', ej⟩ := List.getElem?_eq_some_iff.1 h1
  have : j = i := (List.getElem_inj hn).1 (ej.trans ei.symm)
  rw [this]
theorem TrimBook_same (b : Book) (m : Int) (hb : b.sz ≤ 1048576) : ∃ r, s_TrimBook b m = some r ∧ i_TrimBook b m = some r ∧ r.1.sz ≤ Big := by
  obtain ⟨hc1, hc2⟩ := code_eq b m hb
  unfold s_TrimBook i_TrimBook
  rw [hc1, hc2, bind_some', bind_some']
  cases hv : b.valid with
  | false => exact ⟨(⟨[]⟩, 0, 1), by simp, by simp, by show Core.szs [] ≤ Big; simp [Core.szs]⟩
  | true =>
    by_cases hm : 0 ≤ m ∧ m < (b.defs.length : Int)
    · have hk := (def_ok hv).1
      obtain ⟨l, h1, h2, h3, h4, h5⟩ := live_eq hb hv m hm
      have hll := rise_small hv h3 h4
      have hnd := rise_nodup h3
      rw [h1, h2]
      simp only [if_pos hm, decide_true, Bool.not_true, Bool.false_eq_true, reduceIte, bind_some']
      rw [rep_ok (by unfold Big; omega), bind_some']
      have mem : ∀ {pre post : List Int} {x : Int}, l = pre ++ x :: post → x ∈ l := fun h => by rw [h]; simp
      -- the places
      have places : ∀ (post pre now : List Int) (n : Nat), l = pre ++ post → post.length + 1 ≤ n → Placed l b.defs.length pre.length now → ∃ now', Placed l b.defs.length l.length now' ∧ s_TrimBook_l2 n b m l now ((List.length pre : Nat) : Int) = s_TrimBook_l4 fuel b m now' l [] 0 := by
        intro post
        induction post with
        | nil =>
          intro pre now n h hn hp
          obtain ⟨n, rfl⟩ : ∃ q, n = q + 1 := ⟨n - 1, by omega⟩
          refine ⟨now, ?_, by rw [s_TrimBook_l2, ge_app h, if_neg (by simp)]⟩
          rw [List.append_nil] at h
          rw [h] at hp ⊢
          exact hp
        | cons x post ih =>
          intro pre now n h hn hp
          rw [List.length_cons] at hn
          obtain ⟨n, rfl⟩ : ∃ q, n = q + 1 := ⟨n - 1, by omega⟩
          have hx := h4 x (mem h)
          have hxl : x.toNat < now.length := by rw [hp.1]; omega
          have e1 : at? now x = some now[x.toNat] := by unfold at?; rw [if_pos hx.1, List.getElem?_eq_getElem hxl]
          have e2 : ∀ v, set1? now x v = some (now.set x.toNat v) := fun v => rfl
          rw [s_TrimBook_l2, if_pos (lt_app h), at_app h, bind_some', e1, bind_some', e2, bind_some', wrap_app h (by unfold Big; omega)]
          refine ih (pre ++ [x]) _ n (next_app h) (by omega) ⟨by rw [List.length_set]; exact hp.1, fun i y hi hy => ?_⟩
          rw [List.length_append] at hi
          simp only [List.length_cons, List.length_nil] at hi
          have hlx : l[pre.length]? = some x := by rw [h]; simp
          by_cases hip : i = pre.length
          · subst hip
            rw [hlx] at hy
            cases hy
            rw [List.getElem?_set_self hxl]
          · have hyl := h4 y (List.mem_of_getElem? hy)
            have hne : x.toNat ≠ y.toNat := fun e => by
              have : x = y := by omega
              subst this
              obtain ⟨hi1, ei1⟩ := List.getElem?_eq_some_iff.1 hy
              obtain ⟨hi2, ei2⟩ := List.getElem?_eq_some_iff.1 hlx
              exact hip ((List.getElem_inj hnd).1 (ei1.trans ei2.symm))
            rw [List.getElem?_set_ne hne]
            exact hp.2 i y (by omega) hy
      obtain ⟨now, hnow, e⟩ := places l [] (List.replicate b.defs.length 0) fuel (by simp) (by rw [fuel_eq]; omega) ⟨by simp, fun i x hi => by simp at hi⟩
      rw [show ((List.length ([] : List Int) : Nat) : Int) = 0 from rfl] at e
      rw [e]
      have at_now : ∀ x ∈ l, at? now x = some (idxZ l x) := fun x hx => by
        obtain ⟨i, hi, rfl⟩ := List.getElem_of_mem hx
        have hg : l[i]? = some l[i] := List.getElem?_eq_getElem hi
        unfold at?
        rw [if_pos (h4 _ hx).1, hnow.2 i _ hi hg, idx_of hnd hg]
      have hml : m ∈ l := h5.start m (by simp)
      have loop : ∀ (post pre : List Int) (acc : List Core) (n n' : Nat), l = pre ++ post → post.length + 1 ≤ n → post.length + 1 ≤ n' → acc.length = pre.length → Core.szs acc ≤ 1048577 * pre.length →
          ∃ r, s_TrimBook_l4 n b m now l acc ((List.length pre : Nat) : Int) = some r ∧ i_TrimBook_l2 n' b m l acc ((List.length pre : Nat) : Int) = some r ∧ r.1.sz ≤ Big := by
        intro post
        induction post with
        | nil =>
          intro pre acc n n' h hn hn' ha hs
          obtain ⟨n, rfl⟩ : ∃ q, n = q + 1 := ⟨n - 1, by omega⟩
          obtain ⟨n', rfl⟩ : ∃ q, n' = q + 1 := ⟨n' - 1, by omega⟩
          have hpl : pre.length ≤ l.length := by rw [h]; simp
          rw [s_TrimBook_l4, i_TrimBook_l2, ge_app h, if_neg (by simp), if_neg (by simp), at_now m hml, bind_some', index_eq _ _ (by unfold Big; omega), bind_some']
          exact ⟨_, rfl, rfl, by show Core.szs acc ≤ Big; unfold Big; omega⟩
        | cons x post ih =>
          intro pre acc n n' h hn hn' ha hs
          rw [List.length_cons] at hn hn'
          obtain ⟨n, rfl⟩ : ∃ q, n = q + 1 := ⟨n - 1, by omega⟩
          obtain ⟨n', rfl⟩ : ∃ q, n' = q + 1 := ⟨n' - 1, by omega⟩
          have hpl : pre.length + 1 ≤ l.length := by rw [h]; simp
          have hx := h4 x (mem h)
          obtain ⟨c, hc⟩ := at_range hx
          obtain ⟨hs1, hs2, hs3⟩ := def_sz hb (c := c) (List.mem_of_getElem? (at_some hc).2)
          have hnm : ∀ y ∈ c.nm, at? now y = some (idxZ l y) := fun y hy => at_now y (h5.closed x (mem h) y (by
            unfold useOf
            rw [hc]
            exact putIs_mem.2 (.inr hy)))
          rw [s_TrimBook_l4, i_TrimBook_l2, if_pos (lt_app h), if_pos (lt_app h), at_app h, bind_some', bind_some', hc, bind_some', bind_some', sRen_eq (idxZ l) now c hs1 hnm fuel (uses_fuel hs2 hs3), iRen_eq l (by unfold Big; omega) c hs1 fuel (uses_fuel hs2 hs3), bind_some', bind_some', app_ok (by simp [Big]; omega), bind_some', bind_some', wrap_app h (by unfold Big; omega)]
          refine ih (pre ++ [x]) (acc ++ [c.ren (idxZ l)]) n n' (next_app h) (by omega) (by omega) (by simp [ha]) ?_
          rw [Core.szs_append, Core.szs, Core.szs, Core.ren_sz, List.length_append]
          simp only [List.length_cons, List.length_nil]
          omega
      exact loop l [] [] fuel fuel (by simp) (by rw [fuel_eq]; omega) (by rw [fuel_eq]; omega) rfl (by simp [Core.szs])
    · exact ⟨(⟨[]⟩, 0, 2), by simp [hm], by simp [hm], by show Core.szs [] ≤ Big; simp [Core.szs]⟩
end Go.Proofs.Ytffokcfdkkikmaa.Ab
