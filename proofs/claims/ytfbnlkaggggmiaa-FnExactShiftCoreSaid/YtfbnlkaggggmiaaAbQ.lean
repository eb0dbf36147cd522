/-
  The abstract walk, seventeenth part: a region whose order is drawn: its head, in whatever order.
-/
import Derived.Test.YtfbnlkaggggmiaaAbP
namespace Go.Proofs.Ytfbnlkaggggmiaa.Ab
set_option linter.unusedVariables false
set_option linter.unusedSimpArgs false
open Go.RowKit

section
variable {cx : Cx} {N : Nat} {ops : Array Oper} {base n : Nat} {f : Nat → St} {r : Nat → Option Res}
structure Inv (cx : Cx) (N : Nat) (ops : Array Oper) (n : Nat) (f : Nat → St) (r : Nat → Option Res) (listed : Array Bool) (γ : Gh) (a : Act) (w : World) : Prop where
  L : Lst ops listed
  tail : ∀ t, n ≤ t → t < ops.size → listed.getD t true = false
  os : OSim cx γ (f n).T (f n).B w
  slW : ∀ j o x, j < n → ops.toList[j]? = some o → o.dst = some x → listed.getD j false = true → VSim cx.w0 γ ((f n).g x) (a.tmps.getD x undef)
  slU : ∀ x, (∀ j o, j < n → ops.toList[j]? = some o → o.dst = some x → listed.getD j false = false) → VSim cx.w0 γ ((f 0).g x) (a.tmps.getD x undef)
  td : ∀ t, γ.tl t → (look (f 0).t t).isSome = true ∨ ∃ j rr, j < n ∧ listed.getD j false = true ∧ r j = some rr ∧ ∃ z ∈ rr.t, z.1 = t
  bd : ∀ b, γ.bl b → (look (f 0).b b).isSome = true ∨ ∃ j rr, j < n ∧ listed.getD j false = true ∧ r j = some rr ∧ ∃ z ∈ rr.b, z.1 = b
  df : a.defers = []
  nn : a.tmps.size = N

theorem getD_tf {listed : Array Bool} {i : Nat} (h : listed.getD i true = false) : listed.getD i false = false := by
  rw [Array.getD_eq_getD_getElem?] at h ⊢
  cases hx : listed[i]? with
  | none => rw [hx] at h; cases h
  | some b => rw [hx] at h; exact h

theorem Run.at_slot (R : Run cx.P ops base ops.toList n f r) (hn : n = headN ops.toList) (hd : drawOk ops = true) {listed : Array Bool} {γ : Gh} {a : Act} {w : World} (I : Inv cx N ops n f r listed γ a w)
    {i : Nat} (hi : i < n) {o : Oper} (ho : ops.toList[i]? = some o) (hr : i ∈ Region.ready .any ops listed) {t : Nat} (ht : t ∈ looks ops o) : VSim cx.w0 γ ((f i).g t) (a.tmps.getD t undef) := by
  obtain ⟨hon, hpair, htl, hpure⟩ := drawOk_spec hd
  rw [← hn] at hpair
  have hun : listed.getD i false = false := getD_tf (mem_ready.1 hr).1
  have hsz : ∀ j, j < n → j < ops.size := fun j hj => by have := R.le; rw [Array.length_toList] at this; omega
  by_cases hw : ∃ j o', j < n ∧ ops.toList[j]? = some o' ∧ o'.dst = some t
  · obtain ⟨j, o', hj, ho', hdst⟩ := hw
    have huniq : ∀ k o'', k < n → ops.toList[k]? = some o'' → o''.dst = some t → k = j := fun k o'' hk hok hdk => R.un k j o'' o' t hk hj hok ho' hdk hdst
    have early : i ≤ j → listed.getD j false = false → VSim cx.w0 γ ((f i).g t) (a.tmps.getD t undef) := fun hij hlj => by
      have h1 := I.slU t fun k o'' hk hok hdk => by rw [huniq k o'' hk hok hdk]; exact hlj
      have h2 := R.g_same (k := i) (i := 0) (by omega) (x := t) fun k o'' _ hk hok hdk => by
        have := huniq k o'' (by omega) hok hdk; omega
      rw [Nat.zero_add] at h2
      rw [h2]; exact h1
    rcases Nat.lt_trichotomy j i with hlt | heq | hgt
    · have htouch : touch ops o o' = true := by
        unfold touch
        rw [hdst]
        have : (looks ops o).contains t = true := List.contains_iff_mem.2 ht
        simp only [this, Bool.or_true]
      have hbit := (hpair i j o o' (by omega) hlt ho ho').2 htouch
      have hlj := I.L.far hr hbit
      have h1 := I.slW j o' t hj ho' hdst hlj
      rw [R.g_final hj ho' hdst (j := n) (by omega) (Nat.le_refl _)] at h1
      rw [R.g_final hj ho' hdst (j := i) hlt (by omega)]
      exact h1
    · subst heq
      exact early (Nat.le_refl _) hun
    · have htouch : touch ops o' o = true := by
        unfold touch
        rw [hdst]
        have : (looks ops o).contains t = true := List.contains_iff_mem.2 ht
        simp only [this, Bool.true_or]
      have hbit := (hpair j i o' o hj hgt ho' ho).2 htouch
      refine early (by omega) ?_
      cases hlj : listed.getD j false with
      | false => rfl
      | true =>
        have := I.L.far' (hsz j hj) hlj hbit
        rw [hun] at this; cases this
  · have hnw : ∀ k o'', k < n → ops.toList[k]? = some o'' → o''.dst ≠ some t := fun k o'' hk hok hdk => hw ⟨k, o'', hk, hok, hdk⟩
    have h1 := I.slU t fun k o'' hk hok hdk => absurd hdk (hnw k o'' hk hok)
    have h2 := R.g_same (k := i) (i := 0) (by omega) (x := t) fun k o'' _ hk hok => hnw k o'' (by omega) hok
    rw [Nat.zero_add] at h2
    rw [h2]; exact h1

theorem looks_op {o : Oper} {t : Tmp} (h : Operand.tmp t ∈ o.op.operands) : t ∈ looks ops o := by
  unfold looks
  refine List.mem_append.2 (.inl (List.mem_filterMap.2 ⟨.tmp t, Array.mem_toList_iff.2 h, rfl⟩))
theorem looks_guard {o : Oper} {j : Nat} {want : Bool} {s : Nat} (hg : o.guard = some (j, want)) (hs : gslot ops j = some s) : s ∈ looks ops o := by
  unfold looks
  rw [hg]
  refine List.mem_append.2 (.inr ?_)
  simp [hs]

theorem Inv.step (R : Run cx.P ops base ops.toList n f r) (hn : n = headN ops.toList) (hd : drawOk ops = true) (hok : ∀ o ∈ ops.toList, operOk N o = true) {listed : Array Bool} {γ : Gh} {a : Act} {w : World} (I : Inv cx N ops n f r listed γ a w)
    {i : Nat} (hi : i < n) (hr : i ∈ Region.ready .any ops listed) {Q : Exit → Act → World → Prop} {K : Act → World → Prop} (hk : ∀ γ' a' w', Inv cx N ops n f r (listed.setIfInBounds i true) γ' a' w' → K a' w') : wpOp cx.P ops Q i K a w := by
  obtain ⟨o, ho⟩ := R.op hi
  have ho' : ops[i]? = some o := by rw [← Array.getElem?_toList]; exact ho
  have hilt : i < ops.size := (Array.getElem?_eq_some_iff.1 ho').1
  have hoo := hok o (List.mem_of_getElem? ho)
  have hdst := operOk_dst hoo
  have hun : listed.getD i false = false := getD_tf (mem_ready.1 hr).1
  have hslot := fun t ht => R.at_slot hn hd I hi ho hr (t := t) ht
  have hseti : (listed.setIfInBounds i true).getD i false = true := by
    rw [Array.getD_eq_getD_getElem?, Array.getElem?_setIfInBounds_self, if_pos (by rw [I.L.size]; exact hilt)]; rfl
  have hsetj : ∀ j, j ≠ i → (listed.setIfInBounds i true).getD j false = listed.getD j false := fun j hj => getD_set_ne false (fun e => hj e.symm)
  have hmono : ∀ j, listed.getD j false = true → (listed.setIfInBounds i true).getD j false = true := fun j hj => by
    by_cases e : j = i
    · subst e; exact hseti
    · rw [hsetj j e]; exact hj
  -- the next invariant
  have mk : ∀ γ' av v w', Gh.Ext γ γ' → OSim cx γ' (f n).T (f n).B w' → VSim cx.w0 γ' av v → (∀ x, o.dst = some x → (f (i + 1)).g x = av) →
      (∀ t, γ'.tl t → γ.tl t ∨ ∃ rr, r i = some rr ∧ ∃ z ∈ rr.t, z.1 = t) → (∀ b, γ'.bl b → γ.bl b ∨ ∃ rr, r i = some rr ∧ ∃ z ∈ rr.b, z.1 = b) →
      Inv cx N ops n f r (listed.setIfInBounds i true) γ' (a.put o.dst v) w' := by
    intro γ' av v w' he hos hv hav htl hbl
    refine ⟨I.L.set hr, fun t ht htlt => ?_, hos, fun j oj x hj hoj hx hl => ?_, fun x hx => ?_, fun t h => ?_, fun b h => ?_, by rw [put_defers]; exact I.df, by rw [put_size]; exact I.nn⟩
    · rw [getD_set_ne true (by omega)]; exact I.tail t ht htlt
    · rw [put_get a o.dst v x (by rw [I.nn]; exact hdst)]
      by_cases e : j = i
      · subst e
        rw [ho] at hoj; cases hoj
        rw [if_pos hx, R.g_final hi ho hx (j := n) (by omega) (Nat.le_refl _), hav x hx]
        exact hv
      · rw [if_neg (fun h => e (R.un j i oj o x hj hi hoj ho hx h))]
        rw [hsetj j e] at hl
        exact VSim.mono (Keeps.refl _) he (I.slW j oj x hj hoj hx hl)
    · have hnd : o.dst ≠ some x := fun h => by
        have := hx i o hi ho h
        rw [hseti] at this; cases this
      rw [put_get a o.dst v x (by rw [I.nn]; exact hdst), if_neg hnd]
      refine VSim.mono (Keeps.refl _) he (I.slU x fun j oj hj hoj hdj => ?_)
      have h1 := hx j oj hj hoj hdj
      by_cases e : j = i
      · subst e; exact hun
      · rw [hsetj j e] at h1; exact h1
    · rcases htl t h with h | ⟨rr, h1, h2⟩
      · rcases I.td t h with h | ⟨j, rr, k1, k2, k3, k4⟩
        · exact .inl h
        · exact .inr ⟨j, rr, k1, hmono j k2, k3, k4⟩
      · exact .inr ⟨i, rr, hi, hseti, h1, h2⟩
    · rcases hbl b h with h | ⟨rr, h1, h2⟩
      · rcases I.bd b h with h | ⟨j, rr, k1, k2, k3, k4⟩
        · exact .inl h
        · exact .inr ⟨j, rr, k1, hmono j k2, k3, k4⟩
      · exact .inr ⟨i, rr, hi, hseti, h1, h2⟩
  have hst := R.st i o hi ho
  have yl : ∀ j s b, gslot ops j = some s → s ∈ looks ops o → (f i).g s = .bool b → yielded ops a.tmps j = some b := fun j s b hj hs hb => by
    have h1 := hslot s hs
    rw [hb] at h1
    simp only [VSim] at h1
    unfold gslot at hj
    unfold yielded
    rw [hj]
    simp only [Option.bind_some]
    rw [Array.getD_eq_getD_getElem?] at h1
    cases hx : a.tmps[s]? with
    | none => rw [hx] at h1; simp [undef] at h1
    | some u =>
      rw [hx] at h1
      simp only [Option.getD_some] at h1
      subst h1; rfl
  have yl0 : ∀ j s, gslot ops j = some s → s ∈ looks ops o → (f i).g s = .tup [] → yielded ops a.tmps j = none := fun j s hj hs hb => by
    have h1 := hslot s hs
    rw [hb] at h1
    simp only [VSim, VSims] at h1
    obtain ⟨us, h1, rfl⟩ := h1
    unfold gslot at hj
    unfold yielded
    rw [hj]
    simp only [Option.bind_some]
    rw [Array.getD_eq_getD_getElem?] at h1
    cases hx : a.tmps[s]? with
    | none => rfl
    | some u =>
      rw [hx] at h1
      simp only [Option.getD_some] at h1
      subst h1; rfl
  unfold wpOp
  rw [ho']
  simp only
  generalize hri : r i = ri at hst
  cases hst with
  | run rr hg hev hft hfb hs ht hb =>
    have hwant : Region.wanted o (yielded ops a.tmps) = true := by
      unfold Region.wanted
      split
      · rfl
      · rename_i j want hgd
        obtain ⟨s, h1, h2⟩ := hg j want hgd
        rw [yl j s want h1 (looks_guard hgd h1) h2]; simp
    rw [if_pos hwant]
    have hids := Ev_ids hev
    have hnew : ∀ x ∈ rr.t, look (f (i + 1)).t x.1 = some (some x.2) := fun x hx => by rw [ht]; exact addT_new _ _ hids.1 x hx
    have hnewb : ∀ x ∈ rr.b, look (f (i + 1)).b x.1 = some (some x.2) := fun x hx => by rw [hb]; exact addB_new _ _ hids.2 x hx
    have hTle : Le (f i).T (f n).T := fun x y h => by
      unfold St.T at h ⊢
      rw [R.look_te (by omega) (Nat.le_refl _) (join_some h)]; rfl
    have hBle : Le (f i).B (f n).B := fun x y h => by
      unfold St.B at h ⊢
      rw [R.look_be (by omega) (Nat.le_refl _) (join_some h)]; rfl
    refine .inl (ev_sound (Ev_mono hTle hBle hev) (operands_sound (cx := cx) (s := (f i).g) hoo (fun x _ => St.e_eq _ x) fun t htm => hslot t (looks_op htm)) I.os (fun x hx => ⟨?_, fun hl => ?_⟩) (fun x hx => ⟨?_, fun hl => ?_⟩) fun v w' γ' he htl hbl hos hv => hk γ' _ w' (mk γ' rr.v v w' he hos hv (fun x hx => by rw [hs, if_pos hx]) (fun t h => (htl t h).imp id fun h => ⟨rr, hri, h⟩) (fun b h => (hbl b h).imp id fun h => ⟨rr, hri, h⟩)))
    · unfold St.T
      rw [R.look_te (i := i + 1) (by omega) (Nat.le_refl _) (hnew x hx)]; rfl
    · have hfr := freshT_spec hft x hx
      rcases I.td _ hl with h | ⟨j, r', h1, h2, h3, z, hz, hzx⟩
      · obtain ⟨y, hy⟩ := Option.isSome_iff_exists.1 h
        have := R.look_te (i := 0) (j := i) (by omega) (by omega) hy
        rw [hfr] at this; cases this
      · have hji : j ≠ i := fun e => by subst e; rw [hun] at h2; cases h2
        obtain ⟨oj, hoj⟩ := R.op h1
        have hsj := R.st j oj h1 hoj
        rw [h3] at hsj
        cases hsj with
        | run _ hg' hev' hft' hfb' hs' ht' hb' =>
          have hids' := Ev_ids hev'
          have hnewz : look (f (j + 1)).t z.1 = some (some z.2) := by rw [ht']; exact addT_new _ _ hids'.1 z hz
          rcases Nat.lt_or_gt_of_ne hji with hlt | hgt
          · have := R.look_te (i := j + 1) (j := i) (by omega) (by omega) hnewz
            rw [hzx, hfr] at this; cases this
          · have h4 := freshT_spec hft' z hz
            have := R.look_te (i := i + 1) (j := j) (by omega) (by omega) (hnew x hx)
            rw [← hzx, h4] at this; cases this
    · unfold St.B
      rw [R.look_be (i := i + 1) (by omega) (Nat.le_refl _) (hnewb x hx)]; rfl
    · have hfr := freshB_spec hfb x hx
      rcases I.bd _ hl with h | ⟨j, r', h1, h2, h3, z, hz, hzx⟩
      · obtain ⟨y, hy⟩ := Option.isSome_iff_exists.1 h
        have := R.look_be (i := 0) (j := i) (by omega) (by omega) hy
        rw [hfr] at this; cases this
      · have hji : j ≠ i := fun e => by subst e; rw [hun] at h2; cases h2
        obtain ⟨oj, hoj⟩ := R.op h1
        have hsj := R.st j oj h1 hoj
        rw [h3] at hsj
        cases hsj with
        | run _ hg' hev' hft' hfb' hs' ht' hb' =>
          have hids' := Ev_ids hev'
          have hnewz : look (f (j + 1)).b z.1 = some (some z.2) := by rw [hb']; exact addB_new _ _ hids'.2 z hz
          rcases Nat.lt_or_gt_of_ne hji with hlt | hgt
          · have := R.look_be (i := j + 1) (j := i) (by omega) (by omega) hnewz
            rw [hzx, hfr] at this; cases this
          · have h4 := freshB_spec hfb' z hz
            have := R.look_be (i := i + 1) (j := j) (by omega) (by omega) (hnewb x hx)
            rw [← hzx, h4] at this; cases this
  | skip j want s hg hj hb hs ht hb' =>
    have hwant : Region.wanted o (yielded ops a.tmps) = false := by
      unfold Region.wanted
      rw [hg]
      rcases hb with hb | hb
      · have hy := yl j s (!want) hj (looks_guard hg hj) hb
        simp only [hy]
        cases want <;> rfl
      · have hy := yl0 j s hj (looks_guard hg hj) hb
        simp only [hy]
        cases want <;> rfl
    rw [if_neg (by rw [hwant]; simp)]
    exact hk γ _ w (mk γ (.tup []) undef w (Gh.Ext.refl γ) I.os vsim_undef (fun x hx => by rw [hs, if_pos hx]) (fun t h => .inl h) (fun b h => .inl h))

theorem Inv.done (R : Run cx.P ops base ops.toList n f r) {listed : Array Bool} {γ : Gh} {a : Act} {w : World} (I : Inv cx N ops n f r listed γ a w) (hall : ∀ j, j < n → listed.getD j false = true) : Sim cx N γ (f n) a w := by
  refine ⟨I.os, fun x => ?_, fun t h => ?_, fun b h => ?_, I.df, I.nn⟩
  · by_cases hw : ∃ j o', j < n ∧ ops.toList[j]? = some o' ∧ o'.dst = some x
    · obtain ⟨j, o', hj, ho', hdst⟩ := hw
      exact I.slW j o' x hj ho' hdst (hall j hj)
    · have hnw : ∀ k o'', k < n → ops.toList[k]? = some o'' → o''.dst ≠ some x := fun k o'' hk hok hdk => hw ⟨k, o'', hk, hok, hdk⟩
      have h1 := I.slU x fun k o'' hk hok hdk => absurd hdk (hnw k o'' hk hok)
      have h2 := R.g_same (k := n) (i := 0) (by omega) (x := x) fun k o'' _ hk hok => hnw k o'' (by omega) hok
      rw [Nat.zero_add] at h2
      rw [h2]; exact h1
  · rcases I.td t h with h | ⟨j, rr, h1, h2, h3, z, hz, hzx⟩
    · obtain ⟨y, hy⟩ := Option.isSome_iff_exists.1 h
      rw [R.look_te (i := 0) (j := n) (by omega) (Nat.le_refl _) hy]; rfl
    · obtain ⟨oj, hoj⟩ := R.op h1
      have hsj := R.st j oj h1 hoj
      rw [h3] at hsj
      cases hsj with
      | run _ hg' hev' hft' hfb' hs' ht' hb' =>
        have hids' := Ev_ids hev'
        have hnewz : look (f (j + 1)).t z.1 = some (some z.2) := by rw [ht']; exact addT_new _ _ hids'.1 z hz
        rw [← hzx, R.look_te (i := j + 1) (j := n) (by omega) (Nat.le_refl _) hnewz]; rfl
  · rcases I.bd b h with h | ⟨j, rr, h1, h2, h3, z, hz, hzx⟩
    · obtain ⟨y, hy⟩ := Option.isSome_iff_exists.1 h
      rw [R.look_be (i := 0) (j := n) (by omega) (Nat.le_refl _) hy]; rfl
    · obtain ⟨oj, hoj⟩ := R.op h1
      have hsj := R.st j oj h1 hoj
      rw [h3] at hsj
      cases hsj with
      | run _ hg' hev' hft' hfb' hs' ht' hb' =>
        have hids' := Ev_ids hev'
        have hnewz : look (f (j + 1)).b z.1 = some (some z.2) := by rw [hb']; exact addB_new _ _ hids'.2 z hz
        rw [← hzx, R.look_be (i := j + 1) (j := n) (by omega) (Nat.le_refl _) hnewz]; rfl

theorem cnt_head {listed : Array Bool} {n : Nat} (h1 : ∀ j, j < n → listed.getD j false = true) (h2 : ∀ t, n ≤ t → t < listed.size → listed.getD t true = false) (hn : n ≤ listed.size) : listed.toList.count false = listed.size - n := by
  have e : listed.toList = List.replicate n true ++ List.replicate (listed.size - n) false := by
    apply List.ext_getElem
    · simp; omega
    · intro i k1 k2
      rw [Array.length_toList] at k1
      by_cases hi : i < n
      · rw [List.getElem_append_left (by simpa using hi), List.getElem_replicate]
        have := h1 i hi
        rw [Array.getD_eq_getD_getElem?, Array.getElem?_eq_getElem k1] at this
        simpa using this
      · rw [List.getElem_append_right (by simp; omega), List.getElem_replicate]
        have := h2 i (by omega) k1
        rw [Array.getD_eq_getD_getElem?, Array.getElem?_eq_getElem k1] at this
        simpa using this
  rw [e, List.count_append, List.count_replicate, List.count_replicate]
  simp

theorem head_sound {Q : Exit → Act → World → Prop} {K : St → Prop} (R : Run cx.P ops base ops.toList n f r) (hn : n = headN ops.toList) (hd : drawOk ops = true) (hok : ∀ o ∈ ops.toList, operOk N o = true)
    {cut : Nat} (h : aops cx.P ops base cut n (ops.toList.drop n) (f n) K) (hk : ∀ σ' a' w', K σ' → SimE cx N σ' a' w' → Q .normal a' w') :
    ∀ (fuel : Nat) (listed : Array Bool) (γ : Gh) (a : Act) (w : World), Inv cx N ops n f r listed γ a w → listed.toList.count false = fuel → wpAny cx.P .any ops Q fuel listed a w := by
  obtain ⟨hon, hpair, htl, hpure⟩ := drawOk_spec hd
  have hle := R.le
  rw [Array.length_toList] at hle
  have fin : ∀ (fuel : Nat) (listed : Array Bool) (γ : Gh) (a : Act) (w : World), Inv cx N ops n f r listed γ a w → listed.toList.count false = fuel → (∀ j, j < n → listed.getD j false = true) → wpAny cx.P .any ops Q fuel listed a w := fun fuel listed γ a w I hc hall => by
    have hcnt := cnt_head hall (fun t h1 h2 => I.tail t h1 (by rw [← I.L.size]; exact h2)) (by rw [I.L.size]; exact hle)
    rw [I.L.size] at hcnt
    refine tail_sound hok hon htl hk fuel n listed (f n) a w I.L (by omega) (by omega) (fun j hj => ⟨fun h1 => ?_, fun h1 => hall j h1⟩) h ⟨γ, I.done R hall⟩
    rcases Nat.lt_or_ge j n with h2 | h2
    · exact h2
    · rw [getD_tf (I.tail j h2 hj)] at h1; cases h1
  intro fuel
  induction fuel with
  | zero =>
    intro listed γ a w I hc
    refine fin 0 listed γ a w I hc fun j hj => ?_
    have := cnt_zero hc (i := j) (by rw [I.L.size]; omega)
    rw [Array.getD_eq_getD_getElem?, Array.getElem?_eq_getElem (by rw [I.L.size]; omega)] at this ⊢
    exact this
  | succ fuel ih =>
    intro listed γ a w I hc
    by_cases hall : ∀ j, j < n → listed.getD j false = true
    · exact fin _ listed γ a w I hc hall
    · simp only [Classical.not_forall] at hall
      obtain ⟨j, hj, hlj⟩ := hall
      refine ⟨fun h0 => absurd h0 (I.L.some_ready hon (by omega)), fun i hi => ?_⟩
      have hi0 := (mem_ready.1 hi).1
      obtain ⟨_, oi, hoi, -⟩ := mem_ready.1 hi
      have hilt := (Array.getElem?_eq_some_iff.1 hoi).1
      have hin : i < n := by
        rcases Nat.lt_or_ge i n with h' | h'
        · exact h'
        · exact absurd (I.L.far hi (htl i (by omega) (by rw [Array.length_toList]; exact hilt) j (by omega))) hlj
      refine I.step R hn hd hok hin hi fun γ' a' w' I' => ih _ γ' a' w' I' ?_
      have := cnt_set (i := i) (by rw [I.L.size]; exact hilt) hi0
      omega

theorem draw_sound {id : Nat} {Q : Exit → Act → World → Prop} {σ : St} {K : St → Prop} {a : Act} {w : World} (hm : cx.P.follows .mixedOrders = true) (hd : drawOk ops = true) (hok : ∀ o ∈ ops.toList, operOk N o = true)
    (h : aops cx.P ops base (headN ops.toList) 0 ops.toList σ K) (hs : SimE cx N σ a w) (hk : ∀ σ' a' w', K σ' → SimE cx N σ' a' w' → Q .normal a' w') : (Code.region id ops true).wp cx.P Q a w := by
  obtain ⟨hon, hpair, htl, hpure⟩ := drawOk_spec hd
  have hle := headN_le ops.toList
  generalize hcut : headN ops.toList = cut at h
  rw [← List.take_append_drop (headN ops.toList) ops.toList] at h
  obtain ⟨σ', hch, htail⟩ := aops_head hpure (by rw [List.length_take, ← hcut]; omega) h
  obtain ⟨f, r, k1, k2, k3⟩ := chain_states hch
  have hlen : (ops.toList.take (headN ops.toList)).length = headN ops.toList := by rw [List.length_take]; omega
  rw [hlen] at k2 htail
  simp only [Nat.zero_add] at k2 k3 htail
  have R : Run cx.P ops base ops.toList (headN ops.toList) f r := by
    refine ⟨fun i o hi ho => k3 i o (by rw [List.getElem?_take_of_lt hi]; exact ho), hle, fun i j o o' d hi hj ho ho' hd1 hd2 => ?_⟩
    rcases Nat.lt_trichotomy i j with hlt | heq | hgt
    · exact absurd hd1 ((hpair j i o' o hj hlt ho' ho).1 d hd2)
    · exact heq
    · exact absurd hd2 ((hpair i j o o' hi hgt ho ho').1 d hd1)
  refine wp_region_any hm ?_
  obtain ⟨γ, hs⟩ := hs
  have hos := hs.os.below (w' := { w with drawn := w.drawn + 1 }) ((Below.refl _ w).drew)
  have hrep : ∀ j b, (Array.replicate ops.size false).getD j b = if j < ops.size then false else b := fun j b => by
    rw [Array.getD_eq_getD_getElem?, Array.getElem?_replicate]
    split <;> rfl
  have hrepf : ∀ j, (Array.replicate ops.size false).getD j false = false := fun j => by rw [hrep]; split <;> rfl
  refine head_sound R rfl hd hok (by rw [k2]; exact htail) hk ops.size _ γ a _ ⟨⟨by simp, fun j o ho hl => by simp only [hrepf] at hl; cases hl⟩, fun t _ h2 => by rw [hrep, if_pos h2], ?_, fun j o x _ _ _ hl => (by rw [hrepf] at hl; cases hl), fun x _ => by rw [k1]; exact hs.sl x, fun t h => .inl (by rw [k1]; exact hs.td t h), fun b h => .inl (by rw [k1]; exact hs.bd b h), hs.df, hs.n⟩ (by simp)
  refine hos.tables (fun t tk h1 h2 => ?_) fun b vs h1 h2 => ?_
  · obtain ⟨y, hy⟩ := Option.isSome_iff_exists.1 (hs.td t h1)
    have := R.look_te (i := 0) (j := headN ops.toList) (by omega) (Nat.le_refl _) (by rw [k1]; exact hy)
    unfold St.T at h2 ⊢
    rw [this] at h2
    rw [hy]; exact h2
  · obtain ⟨y, hy⟩ := Option.isSome_iff_exists.1 (hs.bd b h1)
    have := R.look_be (i := 0) (j := headN ops.toList) (by omega) (Nat.le_refl _) (by rw [k1]; exact hy)
    unfold St.B at h2 ⊢
    rw [this] at h2
    rw [hy]; exact h2
end
end Go.Proofs.Ytfbnlkaggggmiaa.Ab
