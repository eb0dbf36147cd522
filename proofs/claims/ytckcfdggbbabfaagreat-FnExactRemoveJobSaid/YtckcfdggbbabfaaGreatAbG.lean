/-
  The abstract walk, seventh part: each single operation, all in one.
-/
import Derived.Test.YtckcfdggbbabfaaGreatAbF
namespace Go.Proofs.YtckcfdggbbabfaaGreat.Ab
set_option linter.unusedVariables false
set_option linter.unusedSimpArgs false
open Go.RowKit
theorem cellsOf_sound {w0 : World} {γ : Gh} {a : AV} {u : Value} {vs : List AV} (ha : VSim w0 γ a u) (h : cellsOf a = some vs) : VSims w0 γ vs u.cells.toList := by
 cases a with
 | any => simp [cellsOf] at h
 | tup vs => simp [cellsOf] at h
 | agg vs' =>
  simp only [cellsOf] at h
  split at h
  ·simp only [Option.some.injEq] at h; subst h
   simp only [VSim] at ha
   obtain ⟨us, rfl, h1⟩ := ha
   simpa [Value.cells] using h1
  ·cases h
 | mpc q rows => simp [cellsOf] at h
 | mpr b => simp only [cellsOf, Option.some.injEq] at h; subst h; have h2 := ha; simp only [VSim] at ha; obtain ⟨-, rfl⟩ := ha; simp only [VSims, Value.cells]; exact ⟨_, _, rfl, h2, rfl⟩
 | int k n => simp only [cellsOf, Option.some.injEq] at h; subst h; have h2 := ha; simp only [VSim] at ha; obtain ⟨rfl, -⟩ := ha; simp only [VSims, Value.cells]; exact ⟨_, _, rfl, h2, rfl⟩
 | bool b => simp only [cellsOf, Option.some.injEq] at h; subst h; have h2 := ha; simp only [VSim] at ha; subst ha; simp only [VSims, Value.cells]; exact ⟨_, _, rfl, h2, rfl⟩
 | str s => simp only [cellsOf, Option.some.injEq] at h; subst h; have h2 := ha; simp only [VSim] at ha; obtain ⟨rfl, -⟩ := ha; simp only [VSims, Value.cells]; exact ⟨_, _, rfl, h2, rfl⟩
 | nilp => simp only [cellsOf, Option.some.injEq] at h; subst h; have h2 := ha; simp only [VSim] at ha; subst ha; simp only [VSims, Value.cells]; exact ⟨_, _, rfl, h2, rfl⟩
 | nils => simp only [cellsOf, Option.some.injEq] at h; subst h; have h2 := ha; simp only [VSim] at ha; subst ha; simp only [VSims, Value.cells]; exact ⟨_, _, rfl, h2, rfl⟩
 | box b off => simp only [cellsOf, Option.some.injEq] at h; subst h; have h2 := ha; simp only [VSim] at ha; obtain ⟨-, rfl⟩ := ha; simp only [VSims, Value.cells]; exact ⟨_, _, rfl, h2, rfl⟩
 | bsl b n sz => simp only [cellsOf, Option.some.injEq] at h; subst h; have h2 := ha; simp only [VSim] at ha; obtain ⟨-, -, rfl⟩ := ha; simp only [VSims, Value.cells]; exact ⟨_, _, rfl, h2, rfl⟩
 | ro rows => simp only [cellsOf, Option.some.injEq] at h; subst h; have h2 := ha; simp only [VSim, Rep] at ha; obtain ⟨_, _, rfl, -⟩ := ha; simp only [VSims, Value.cells]; exact ⟨_, _, rfl, h2, rfl⟩
 | rop ds off => simp only [cellsOf, Option.some.injEq] at h; subst h; have h2 := ha; simp only [VSim] at ha; obtain ⟨_, _, _, rfl, -⟩ := ha; simp only [VSims, Value.cells]; exact ⟨_, _, rfl, h2, rfl⟩
 | elt t sz i off => simp only [cellsOf, Option.some.injEq] at h; subst h; have h2 := ha; simp only [VSim] at ha; obtain ⟨-, _, _, _, _, -, rfl⟩ := ha; simp only [VSims, Value.cells]; exact ⟨_, _, rfl, h2, rfl⟩
 | els t g p sz i off => simp only [cellsOf, Option.some.injEq] at h; subst h; have h2 := ha; simp only [VSim] at ha; obtain ⟨-, _, _, _, _, -, rfl⟩ := ha; simp only [VSims, Value.cells]; exact ⟨_, _, rfl, h2, rfl⟩
 | sub t g p => simp only [cellsOf, Option.some.injEq] at h; subst h; have h2 := ha; simp only [VSim] at ha; obtain ⟨-, ⟨_, _, _, he⟩, hu⟩ := ha; rw [hu, he]; simp only [VSims, Value.cells]; exact ⟨_, _, rfl, by rw [← he, ← hu]; exact h2, rfl⟩
 | fn f caps => simp only [cellsOf, Option.some.injEq] at h; subst h; have h2 := ha; simp only [VSim] at ha; obtain ⟨_, rfl, -⟩ := ha; simp only [VSims, Value.cells]; exact ⟨_, _, rfl, h2, rfl⟩
 | own t => simp only [cellsOf, Option.some.injEq] at h; subst h; have h2 := ha; simp only [VSim] at ha; obtain ⟨⟨-, _, _, _, he⟩, hu⟩ := ha; rw [hu, he]; simp only [VSims, Value.cells]; exact ⟨_, _, rfl, by rw [← he, ← hu]; exact h2, rfl⟩
theorem cellsOf_no {a : AV} {vs : List AV} (h : cellsOf a = some vs) : noMp vs = true := by
 cases a with
 | agg vs' =>
  simp only [cellsOf] at h
  split at h
  ·rename_i h0; cases h; exact h0
  ·cases h
 | any => simp [cellsOf] at h
 | tup vs => simp [cellsOf] at h
 | mpc q rows => simp [cellsOf] at h
 | _ => simp only [cellsOf, Option.some.injEq] at h; subst h; rfl
theorem noMp_app {a b : List AV} : noMp (a ++ b) = (noMp a && noMp b) := by simp [noMp]
theorem zAV_sound {w0 : World} {γ : Gh} (u : Value) : VSim w0 γ (zAV u) u := by
 unfold zAV
 split
 ·rename_i k n
  split
  ·rename_i h; subst h; exact vs_int (by cases k <;> simp [Lit.wf, IntKind.min, IntKind.max, IntKind.signed, IntKind.bits])
  ·trivial
 ·exact vs_bool
 ·split
  ·rename_i s h; exact vs_str (by rw [h]; exact Nat.zero_le _)
  ·trivial
 ·simp only [VSim]
 ·simp only [VSim]
 ·trivial
theorem foldl_set : ∀ (cs : List Value) (k : Nat) (A B C : List Value) (off : Nat), A.length = off + k → B.length = cs.length →
  (cs.zipIdx k).foldl (fun (acc : Array Value) (x : Value × Nat) => acc.setIfInBounds (off + x.2) x.1) (A ++ (B ++ C)).toArray = (A ++ (cs ++ C)).toArray
 | [], k, A, B, C, off, hA, hB => by
  have : B = [] := List.eq_nil_of_length_eq_zero (by simpa using hB)
  subst this; rfl
 | c :: cs, k, A, B, C, off, hA, hB => by
  match B, hB with
  | b :: B, hB =>
   simp only [List.zipIdx_cons, List.foldl_cons]
   have e : (A ++ (b :: B ++ C)).toArray.setIfInBounds (off + k) c = ((A ++ [c]) ++ (B ++ C)).toArray := by
    rw [List.setIfInBounds_toArray, ← hA, List.set_append_right _ _ (Nat.le_refl _), Nat.sub_self]
    simp
   rw [e, foldl_set cs (k + 1) (A ++ [c]) B C off (by simp; omega) (by simpa using hB)]
   simp
theorem fill_all (sz : Nat) : ∀ (vs : List Value) (k : Nat) (A B : List Value), (∀ v ∈ vs, v.cells.size = sz) → A.length = k * sz → B.length = vs.length * sz →
  Instr.fill (fun i => some (i * sz, sz)) (A ++ B).toArray ((vs.zipIdx k).map fun x => (x.2, x.1)) = some (A ++ (vs.map fun v => v.cells.toList).flatten).toArray
 | [], k, A, B, hv, hA, hB => by
  have : B = [] := List.eq_nil_of_length_eq_zero (by simpa using hB)
  subst this; simp [Instr.fill]
 | v :: vs, k, A, B, hv, hA, hB => by
  have hs := hv v (by simp)
  rw [List.length_cons, Nat.add_mul] at hB
  have hsz : v.cells.toList.length = sz := by simpa using hs
  have key : Array.foldl (fun cs x => match x with | (c, j) => cs.setIfInBounds (k * sz + j) c) (A ++ B).toArray v.cells.zipIdx = ((A ++ v.cells.toList) ++ B.drop sz).toArray := by
   have h0 := foldl_set v.cells.toList 0 A (B.take sz) (B.drop sz) (k * sz) (by omega) (by rw [List.length_take]; omega)
   rw [List.take_append_drop] at h0
   rw [← Array.foldl_toList, Array.toList_zipIdx, List.append_assoc]
   exact h0
  simp only [List.zipIdx_cons, List.map_cons, Instr.fill]
  rw [if_neg]
  ·rw [key, fill_all sz vs (k + 1) (A ++ v.cells.toList) (B.drop sz) (fun x hx => hv x (by simp [hx])) (by rw [List.length_append, Nat.add_mul]; omega) (by rw [List.length_drop]; omega)]
   simp
  ·simp only [hs, ne_eq, not_true_eq_false, decide_false, Bool.false_or, decide_eq_true_eq]
   simp only [List.size_toArray, List.length_append]
   omega
theorem splice_eq {α : Type} : ∀ (cs vs : List α) (off : Nat), off + cs.length ≤ vs.length → splice vs off cs = vs.take off ++ (cs ++ vs.drop (off + cs.length))
 | [], vs, off, h => by simp [splice]
 | c :: cs, vs, off, h => by
  rw [List.length_cons] at h
  rw [splice, splice_eq cs (vs.set off c) (off + 1) (by rw [List.length_set]; omega)]
  have h1 : (vs.set off c).take (off + 1) = vs.take off ++ [c] := by
   rw [List.take_succ_eq_append_getElem (by rw [List.length_set]; omega)]
   simp [List.take_set_of_le]
  have h2 : (vs.set off c).drop (off + 1 + cs.length) = vs.drop (off + (cs.length + 1)) := by
   rw [List.drop_set_of_lt (by omega)]
   congr 1; omega
  rw [h1, h2]
  simp
theorem VSims.splice {w0 : World} {γ : Gh} : ∀ {cs vs : List AV} {us ws : List Value} {off : Nat}, VSims w0 γ vs us → VSims w0 γ cs ws → VSims w0 γ (Ab.splice vs off cs) (Ab.splice us off ws)
 | [], vs, us, ws, off, h, hc => by simp only [VSims] at hc; subst hc; exact h
 | c :: cs, vs, us, ws, off, h, hc => by
  simp only [VSims] at hc
  obtain ⟨u, ws', rfl, h1, h2⟩ := hc
  rw [Ab.splice, Ab.splice]
  exact VSims.splice (h.set h1 off) h2
theorem splice_len {α : Type} : ∀ (cs vs : List α) (off : Nat), (splice vs off cs).length = vs.length
 | [], vs, off => rfl
 | c :: cs, vs, off => by rw [splice, splice_len]; simp
theorem fill_step {pl : Nat → Option (Nat × Nat)} {us : List Value} {f off size : Nat} {v : Value} {rest : List (Nat × Value)} (hp : pl f = some (off, size)) (hs : v.cells.size = size) (hl : off + v.cells.size ≤ us.length) :
  Instr.fill pl us.toArray ((f, v) :: rest) = Instr.fill pl (splice us off v.cells.toList).toArray rest := by
 have key : Array.foldl (fun cs x => match x with | (c, j) => cs.setIfInBounds (off + j) c) us.toArray v.cells.zipIdx = (splice us off v.cells.toList).toArray := by
  have hcl : v.cells.toList.length = v.cells.size := Array.length_toList
  have h0 := foldl_set v.cells.toList 0 (us.take off) ((us.drop off).take v.cells.size) (us.drop (off + v.cells.size)) off (by rw [List.length_take]; omega) (by rw [List.length_take, List.length_drop, hcl]; omega)
  have e1 : us.take off ++ ((us.drop off).take v.cells.size ++ us.drop (off + v.cells.size)) = us := by
   rw [← List.drop_drop, List.take_append_drop, List.take_append_drop]
  rw [e1] at h0
  rw [splice_eq _ _ _ (by rw [hcl]; exact hl), hcl, ← Array.foldl_toList, Array.toList_zipIdx]
  exact h0
 simp only [Instr.fill, hp]
 rw [if_neg, key]
 simp only [hs, ne_eq, not_true_eq_false, decide_false, Bool.false_or, decide_eq_true_eq, List.size_toArray]
 omega
theorem build_sound {P : Program} {w0 : World} {γ : Gh} {e : Operand → AV} {ρ : Operand → Value} {fs : List (Nat × TypeId)} {pl : Nat → Option (Nat × Nat)} (hpl : ∀ f q, fs[f]? = some q → pl f = some (q.1, tsz P q.2)) :
  ∀ {parts : List (Nat × Operand)} {vs ws : List AV} {us : List Value}, (∀ x ∈ parts, VSim w0 γ (e x.2) (ρ x.2)) → VSims w0 γ vs us → buildP P fs vs (parts.map fun x => (x.1, e x.2)) = some ws →
   ∃ us', Instr.fill pl us.toArray (parts.map fun x => (x.1, ρ x.2)) = some us'.toArray ∧ VSims w0 γ ws us'
 | [], vs, ws, us, _, hv, h => by
  simp only [List.map_nil, buildP, Option.some.injEq] at h
  subst h
  exact ⟨us, rfl, hv⟩
 | (f, x) :: parts, vs, ws, us, hx, hv, h => by
  simp only [List.map_cons, buildP] at h
  cases hq : fs[f]? with
  | none => simp [hq] at h
  | some q =>
   cases hc : cellsOf (e x) with
   | none => simp [hq, hc] at h
   | some cs =>
    simp only [hq, hc] at h
    split at h
    ·rename_i hl
     have h1 := cellsOf_sound (hx (f, x) (by simp)) hc
     have h2 := h1.length
     have h3 : (ρ x).cells.toList.length = (ρ x).cells.size := Array.length_toList
     have h2' : (ρ x).cells.toList.length = cs.length := h2
     have h4 := hv.length
     obtain ⟨us', k1, k2⟩ := build_sound hpl (parts := parts) (fun y hy => hx y (by simp [hy])) (hv.splice h1 (off := q.1)) h
     refine ⟨us', ?_, k2⟩
     rw [List.map_cons]
     show Instr.fill pl us.toArray ((f, ρ x) :: _) = _
     rw [fill_step (hpl f q hq) (by omega) (by omega)]
     exact k1
    ·cases h
theorem own_zD {V w : World} {u : Value} {d : D} (h : zD u = some d) : Own V w d u [] := by
 unfold zD at h
 split at h
 ·rename_i k n
  split at h
  ·rename_i hn
   simp only [Option.some.injEq] at h; subst h; subst hn
   rw [Own]
   exact ⟨rfl, by cases k <;> simp [Lit.wf, IntKind.min, IntKind.max, IntKind.signed, IntKind.bits], rfl⟩
  ·cases h
 ·simp only [Option.some.injEq] at h; subst h; rw [Own]; exact ⟨rfl, rfl⟩
 ·split at h
  ·rename_i s hs
   simp only [Option.some.injEq] at h; subst h; rw [Own]; exact ⟨rfl, by rw [hs]; exact Nat.zero_le _, rfl⟩
  ·cases h
 ·simp only [Option.some.injEq] at h; subst h
  rw [Own]
  exact .inl ⟨rfl, ⟨none, 0, rfl, Nat.zero_le _⟩, rfl⟩
 ·simp only [Option.some.injEq] at h; subst h
  simp only [Own, and_self]
 ·cases h
theorem ownC_z {V w : World} {cs : List Value} : ∀ (zs : List Value) (ds : List D) (o : Nat), zDs zs = some ds → (∀ j u, zs[j]? = some u → cs[o + j]? = some u) → OwnC V w cs o ds []
 | [], ds, o, h, _ => by simp only [zDs, Option.some.injEq] at h; subst h; simp [OwnC]
 | z :: zs, ds, o, h, hc => by
  simp only [zDs] at h
  cases h1 : zD z with
  | none => simp [h1] at h
  | some d =>
   cases h2 : zDs zs with
   | none => simp [h1, h2] at h
   | some ds' =>
    simp only [h1, h2, Option.some.injEq] at h
    subst h
    simp only [OwnC]
    refine ⟨z, [], [], hc 0 z (by simp), own_zD h1, ownC_z zs ds' (o + 1) h2 fun j u hj => ?_, rfl⟩
    have := hc (j + 1) u (by simpa using hj)
    rw [← this]; congr 1; omega
theorem zDs_len : ∀ {zs : List Value} {ds : List D}, zDs zs = some ds → ds.length = zs.length
 | [], ds, h => by simp only [zDs, Option.some.injEq] at h; subst h; rfl
 | z :: zs, ds, h => by
  simp only [zDs] at h
  split at h
  ·rename_i d ds' h1 h2
   simp only [Option.some.injEq] at h; subst h
   simp [zDs_len h2]
  ·cases h
theorem ownR_z {V w : World} {cs zs : List Value} {ds : List D} {sz : Nat} (hz : zDs zs = some ds) (hl : zs.length = sz) (hsz : 0 < sz) : ∀ (n o : Nat), (∀ j, j < n * sz → cs[o + j]? = zs[j % sz]?) → OwnR V w cs sz o (List.replicate n ds) []
 | 0, o, _ => by simp [OwnR]
 | n + 1, o, h => by
  rw [List.replicate_succ]
  simp only [OwnR]
  have hmul : (n + 1) * sz = n * sz + sz := Nat.succ_mul n sz
  refine ⟨[], [], by rw [zDs_len hz, hl], ownC_z zs ds o hz fun j u hj => ?_, ownR_z hz hl hsz n (o + sz) fun j hj => ?_, rfl⟩
  ·have hj' : j < sz := by rw [← hl]; exact (List.getElem?_eq_some_iff.1 hj).1
   rw [h j (by omega), Nat.mod_eq_of_lt hj']; exact hj
  ·have := h (sz + j) (by omega)
   rw [Nat.add_mod_left] at this
   rw [← this]; congr 1; omega
end Go.Proofs.YtckcfdggbbabfaaGreat.Ab
