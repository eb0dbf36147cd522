/-
  The abstract walk: results, functions ('ac_of_body').
-/
import Derived.Test.YtgigfdghecdlgaaAbR
import Derived.Laws.Sem
namespace Go.Proofs.Ytgigfdghecdlgaa.Ab
set_option linter.unusedVariables false
open Go.RowKit

section
variable {cx : Cx} {γ : Gh} {w : World}

theorem fp_join {σ σ1 : St} (hs : OSim cx γ σ.T σ.B w) {t : Nat} {tk : Tok} {fp : List Nat} (htl : γ.tl t) (hT : σ.T t = some tk) (hn : fp.Nodup)
    (h : ∀ g ∈ fp, ∃ t' tk', γ.tl t' ∧ (σ.killT t).T t' = some tk' ∧ g ∈ γ.tf t') : (γ.tf t ++ fp).Nodup := by
  refine List.nodup_append.2 ⟨hs.tnd t tk htl hT, hn, fun g hg g' hg' e => ?_⟩
  subst e
  obtain ⟨t', tk', h3, h4, h5⟩ := h g hg'
  rw [St.T_killT] at h4
  split at h4
  · cases h4
  · rename_i hne
    exact hs.tds t t' tk tk' (fun e => hne e.symm) htl h3 hT h4 g hg h5

/-- What is handed back: from tokens that are then gone. -/
structure Handed' (cx : Cx) (γ : Gh) (w : World) (σ σ' : St) (fp : List Nat) : Prop where
  le : StLe σ σ'
  nd : fp.Nodup
  fr : ∀ g ∈ fp, Free cx γ σ'.T σ'.B g
  fm : ∀ g ∈ fp, ∃ t tk, γ.tl t ∧ σ.T t = some tk ∧ g ∈ γ.tf t
theorem Handed'.nil (σ : St) : Handed' cx γ w σ σ [] := ⟨StLe.refl σ, List.nodup_nil, by simp, by simp⟩
theorem Handed'.append {σ σ' σ''} {f1 f2} (h : Handed' cx γ w σ σ' f1) (k : Handed' cx γ w σ' σ'' f2) : Handed' cx γ w σ σ'' (f1 ++ f2) := by
  refine ⟨h.le.trans k.le, List.nodup_append.2 ⟨h.nd, k.nd, fun g hg g' hg' e => ?_⟩, fun g hg => ?_, fun g hg => ?_⟩
  · subst e
    obtain ⟨t, tk, h1, h2, h3⟩ := k.fm g hg'
    exact (h.fr g hg).t t tk h1 h2 h3
  · rcases List.mem_append.1 hg with hg | hg
    · exact Free.of_le k.le (h.fr g hg)
    · exact k.fr g hg
  · rcases List.mem_append.1 hg with hg | hg
    · exact h.fm g hg
    · obtain ⟨t, tk, h1, h2, h3⟩ := k.fm g hg
      exact ⟨t, tk, h1, h.le.T t tk h2, h3⟩

mutual
theorem retR_sound : ∀ {v} {u} {r} {σ} {K}, OSim cx γ σ.T σ.B w → VSim γ.vw γ v u → RetR v r σ K → ∃ σ' fp, K σ' ∧ RSim w r u fp ∧ Handed' cx γ w σ σ' fp
  | .int k n, u, r, σ, K, hs, hv, h => by
    cases r with
    | int k' m =>
      simp only [RetR] at h
      obtain ⟨rfl, rfl, h⟩ := h
      simp only [VSim] at hv
      exact ⟨σ, [], h, by simp only [RSim]; exact ⟨hv.1, hv.2, trivial⟩, .nil σ⟩
    | _ => simp [RetR] at h
  | .bool b, u, r, σ, K, hs, hv, h => by
    cases r with
    | bool b' =>
      simp only [RetR] at h
      obtain ⟨rfl, h⟩ := h
      simp only [VSim] at hv
      exact ⟨σ, [], h, by simp only [RSim]; exact ⟨hv, trivial⟩, .nil σ⟩
    | _ => simp [RetR] at h
  | .str s, u, r, σ, K, hs, hv, h => by
    cases r with
    | str s' =>
      simp only [RetR] at h
      obtain ⟨rfl, h⟩ := h
      simp only [VSim] at hv
      exact ⟨σ, [], h, by simp only [RSim]; exact ⟨hv.1, hv.2, trivial⟩, .nil σ⟩
    | _ => simp [RetR] at h
  | .nilp, u, r, σ, K, hs, hv, h => by
    cases r with
    | nilp =>
      simp only [RetR] at h
      simp only [VSim] at hv
      exact ⟨σ, [], h, by simp only [RSim]; exact ⟨hv, trivial⟩, .nil σ⟩
    | _ => simp [RetR] at h
  | .nils, u, r, σ, K, hs, hv, h => by
    cases r with
    | ow ap rows =>
      simp only [RetR] at h
      obtain ⟨rfl, h⟩ := h
      simp only [VSim] at hv
      refine ⟨σ, [], h, ?_, .nil σ⟩
      simp only [RSim]
      exact TokOk.nil ⟨none, hv⟩
    | _ => simp [RetR] at h
  | .own t, u, r, σ, K, hs, hv, h => by
    cases r with
    | ow ap rows =>
      simp only [RetR] at h
      obtain ⟨tk, hT, hr, hap, hz, h⟩ := h
      simp only [VSim] at hv
      obtain ⟨⟨htl, -⟩, hu⟩ := hv
      refine ⟨_, γ.tf t, h, ?_, StLe.killT σ t, hs.tnd t tk htl hT, free_killed hs htl hT, fun g hg => ⟨t, tk, htl, hT, hg⟩⟩
      simp only [RSim]
      have hok := hs.tok t tk htl hT
      rw [hu]
      obtain ⟨r0, z0, k0, q0⟩ := tk
      simp only at hr hz hap
      subst hr hz
      rcases hap with rfl | rfl
      · exact hok.own
      · exact hok
    | _ => simp [RetR] at h
  | .ro rows, u, r, σ, K, hs, hv, h => by
    cases r with
    | ro rows' =>
      simp only [RetR] at h
      obtain ⟨rfl, h⟩ := h
      simp only [VSim] at hv
      exact ⟨σ, [], h, by simp only [RSim]; exact ⟨Rep.keep hs.vw.k _ _ hv, trivial⟩, .nil σ⟩
    | ow ap rows' =>
      simp only [RetR] at h
      obtain ⟨rfl, rfl, rfl, h⟩ := h
      simp only [VSim, Rep] at hv
      obtain ⟨a, c, rfl, -, hc, -⟩ := hv
      refine ⟨σ, [], h, ?_, .nil σ⟩
      simp only [RSim]
      exact .inl ⟨rfl, ⟨a, c, rfl, hc⟩, rfl⟩
    | _ => simp [RetR] at h
  | .agg vs, u, r, σ, K, hs, hv, h => by
    cases r with
    | agg rs =>
      simp only [RetR] at h
      simp only [VSim] at hv
      obtain ⟨us, rfl, hv⟩ := hv
      obtain ⟨σ', fp, h1, h2, h3⟩ := retRs_sound hs hv h
      exact ⟨σ', fp, h1, by simp only [RSim]; exact ⟨us, rfl, h2⟩, h3⟩
    | _ => simp [RetR] at h
  | .tup vs, u, r, σ, K, hs, hv, h => by
    cases r with
    | tup rs =>
      simp only [RetR] at h
      simp only [VSim] at hv
      obtain ⟨us, rfl, hv⟩ := hv
      obtain ⟨σ', fp, h1, h2, h3⟩ := retRs_sound hs hv h
      exact ⟨σ', fp, h1, by simp only [RSim]; exact ⟨us, rfl, h2⟩, h3⟩
    | _ => simp [RetR] at h
  | .any, u, r, σ, K, hs, hv, h => by simp [RetR] at h
  | .box _ _, u, r, σ, K, hs, hv, h => by simp [RetR] at h
  | .bsl _ n _, u, r, σ, K, hs, hv, h => by
    cases r with
    | ow ap rows =>
      simp only [RetR] at h
      obtain ⟨rfl, rfl, h⟩ := h
      simp only [VSim] at hv
      refine ⟨σ, [], h, ?_, .nil σ⟩
      simp only [RSim]
      exact TokOk.nil ⟨_, hv.2.2⟩
    | _ => simp [RetR] at h
  | .rop _ _, u, r, σ, K, hs, hv, h => by simp [RetR] at h
  | .elt _ _ _ _, u, r, σ, K, hs, hv, h => by simp [RetR] at h
  | .par _ _ _ _, u, r, σ, K, hs, hv, h => by simp [RetR] at h
  | .fn _ _, u, r, σ, K, hs, hv, h => by simp [RetR] at h
theorem retRs_sound : ∀ {vs} {us} {rs} {σ} {K}, OSim cx γ σ.T σ.B w → VSims γ.vw γ vs us → RetRs vs rs σ K → ∃ σ' fp, K σ' ∧ RSims w rs us fp ∧ Handed' cx γ w σ σ' fp
  | [], us, rs, σ, K, hs, hv, h => by
    cases rs with
    | nil =>
      simp only [RetRs] at h
      simp only [VSims] at hv
      exact ⟨σ, [], h, by simp only [RSims]; exact ⟨hv, trivial⟩, .nil σ⟩
    | cons r rs => simp [RetRs] at h
  | v :: vs, us, rs, σ, K, hs, hv, h => by
    cases rs with
    | nil => simp [RetRs] at h
    | cons r rs =>
      simp only [RetRs] at h
      simp only [VSims] at hv
      obtain ⟨u, us', rfl, h1, h2⟩ := hv
      obtain ⟨σ', f1, k1, k2, k3⟩ := retR_sound hs h1 h
      obtain ⟨σ'', f2, j1, j2, j3⟩ := retRs_sound (k3.le.osim hs) h2 k1
      exact ⟨σ'', f1 ++ f2, j1, by simp only [RSims]; exact ⟨u, us', f1, f2, rfl, k2, j2, rfl⟩, k3.append j3⟩
end

theorem loada_addr {w0} {P} {T B} {t} {av v} {u} (ha : VSim w0 γ av u) (h : LoadA P T B t av v) : ∃ a, u = .pointer (some a) := by
  unfold LoadA at h
  split at h
  · simp only [VSim] at ha; exact ⟨_, ha.2⟩
  · simp only [VSim] at ha; obtain ⟨b, o, us, hv, -⟩ := ha; exact ⟨_, hv⟩
  · simp only [VSim] at ha; obtain ⟨-, g, o, n, c, -, hv⟩ := ha; exact ⟨_, hv⟩
  · simp only [VSim] at ha; obtain ⟨-, b, o, n, c, -, hv⟩ := ha; exact ⟨_, hv⟩
  · exact h.elim

def resOf (tmps : Array Value) : ResultVar → Sem Value
  | .tmp t => pure (tmps.getD t undef)
  | .cell a t => do loadVar t (← asAddr (tmps.getD a undef))
theorem resA_sound {σ : St} {a : Act} (hs : OSim cx γ σ.T σ.B w) (hsl : ∀ i, VSim γ.vw γ (σ.g i) (a.tmps.getD i undef)) : ∀ {l : List ResultVar} {K : List AV → Prop}, ResA cx.P σ l K →
    ∃ us vs, (l.mapM (resOf a.tmps)).run cx.P w = .ok us w ∧ VSims γ.vw γ vs us ∧ K vs ∧ us.length = l.length
  | [], K, h => ⟨[], [], rfl, by simp [VSims], h, rfl⟩
  | .tmp t :: l, K, h => by
    obtain ⟨us, vs, h1, h2, h3, h4⟩ := resA_sound hs hsl (l := l) h
    refine ⟨a.tmps.getD t undef :: us, σ.g t :: vs, ?_, by simp only [VSims]; exact ⟨_, us, rfl, hsl t, h2⟩, h3, by simp [h4]⟩
    rw [List.mapM_cons]
    simp [resOf, h1]
  | .cell c t :: l, K, h => by
    obtain ⟨v, hv, h⟩ := h
    obtain ⟨us, vs, h1, h2, h3, h4⟩ := resA_sound hs hsl (l := l) h
    obtain ⟨u, hu, hvs⟩ := load_sound hs (hsl c) hv
    obtain ⟨ad, had⟩ := loada_addr (hsl c) hv
    refine ⟨u :: us, v :: vs, ?_, by simp only [VSims]; exact ⟨_, us, rfl, hvs, h2⟩, h3, by simp [h4]⟩
    rw [had] at hu
    have hl : (loadVar t ad).run cx.P w = .ok u w := by simpa [Instr.loadAt, Instr.sureAddr] using hu
    rw [List.mapM_cons]
    simp [resOf, had, asAddr, hl, h1]
end

/-- The function's frame when it begins. -/
def args0 : Nat → List AV → List (Nat × AV)
  | _, [] => []
  | i, a :: as => (i, a) :: args0 (i + 1) as
def st0 (args : List AV) : St := ⟨args0 0 args, [], []⟩
theorem args0_sound {w0} {γ} : ∀ (args : List AV) (us : List Value) (i : Nat), VSims w0 γ args us → ∀ (tmps : Nat → Value), (∀ j, j < us.length → tmps (i + j) = us.getD j undef) → ∀ x, VSim w0 γ ((look (args0 i args) x).getD .any) (tmps x)
  | [], us, i, h, tmps, ht, x => by simp [args0, look, VSim]
  | a :: as, us, i, h, tmps, ht, x => by
    simp only [VSims] at h
    obtain ⟨u, us', rfl, h1, h2⟩ := h
    simp only [args0, look_cons]
    by_cases hx : x = i
    · subst hx
      rw [if_pos rfl]
      have := ht 0 (by simp)
      simp only [Nat.add_zero, List.getD_cons_zero] at this
      rw [this]; exact h1
    · rw [if_neg hx]
      refine args0_sound as us' (i + 1) h2 tmps (fun j hj => ?_) x
      have := ht (j + 1) (by simp; omega)
      simp only [List.getD_cons_succ] at this
      rw [← this]; congr 1; omega
theorem results_eq (fn : Func) (tmps : Array Value) : results fn tmps = (do let vs ← fn.results.mapM (resOf tmps); pure (if h : vs.size = 1 then vs[0] else .tuple vs)) := by
  unfold results
  congr 1

def endQ (P : Program) (l : List ResultVar) (r : RV) (q : AE) (σ : St) : Prop := match q with | .exit _ => False | _ => RetOk P l r σ
/-- A function, by the abstract walk of its body. -/
theorem ac_of_body {P : Program} (hm : P.follows .mixedOrders = true) {f : FuncId} {fn : Func} {c : Code} {args : List AV} {r : RV} (hf : P.funcs[f]? = some fn) (hb : fn.body = some c) (hnm : (fn.name == "runtime.NumGoroutine") = false)
    (hn : args.length ≤ fn.ntmps) (hok : codeOk fn.ntmps c = true)
    (h : awp P c (endQ P fn.results.toList r) (st0 args)) : AC P f args r := by
  refine ⟨by simp [callable, hf, hb, hnm], fun w us hsh hlow hamb hv => ?_⟩
  let g0 : Gh := { Gh.none with vw := w }
  let cx : Cx := ⟨P, w, w, [], fun _ => False, Keeps.refl w, by simp, by simp, hlow, hamb, g0, rfl, by simp [g0, Gh.none], by simp [g0, Gh.none]⟩
  refine calls_of_wp hf hb ?_
  have hlen := hv.length
  have hs0 : SimE cx fn.ntmps (st0 args) { tmps := us.toArray ++ Array.replicate (fn.ntmps - us.toArray.size) undef, defers := [] } w := by
    refine ⟨g0, ⟨⟨hsh, rfl, rfl, rfl, Nat.le_refl _, fun _ _ _ _ => rfl, by simp [cx]⟩, by simp [g0, Gh.none], by simp [g0, Gh.none], by simp [g0, Gh.none], by simp [g0, Gh.none], by simp [g0, Gh.none], by simp [g0, Gh.none], by simp [g0, Gh.none], by simp [g0, Gh.none], by simp [g0, Gh.none], Gh.Ext.refl _, ⟨Keeps.refl w, by simp [g0, Gh.none], by simp [g0, Gh.none], fun a u h => .inl h⟩⟩, fun i => ?_, by simp [g0, Gh.none], by simp [g0, Gh.none], rfl, ?_⟩
    · refine args0_sound (w0 := w) (γ := g0) args us 0 (VSims.mono (Keeps.refl w) (none_ext g0) hv) (fun i => (us.toArray ++ Array.replicate (fn.ntmps - us.toArray.size) undef).getD i undef) (fun j hj => ?_) i
      simp [Array.getD_eq_getD_getElem?, Array.getElem?_append, hj]
    · simp; omega
  refine wp_mono (awp_sound (cx := cx) hm c _ _ _ _ hok h hs0) ?_
  rintro e a' w' ⟨q, σ, rfl, hq, γ, hs⟩
  have key : RetOk P fn.results.toList r σ → a'.defers = [] ∧ ∃ v, (results fn a'.tmps).run P w' = .ok v w' ∧ ∃ v' fp, Ending.returned v = .returned v' ∧ RSim w' r v' fp ∧ fp.Nodup ∧ (∀ g ∈ fp, w.heap.size ≤ g) ∧ Below w.heap.size w w' := fun hr => by
    refine ⟨hs.df, ?_⟩
    obtain ⟨us', vs, h1, h2, h3, h4⟩ := resA_sound hs.os hs.sl hr
    have h1 : Sem.run P (List.mapM (resOf a'.tmps) fn.results.toList) w' = .ok us' w' := h1
    have hrun : (results fn a'.tmps).run P w' = .ok (if h : us'.toArray.size = 1 then us'.toArray[0] else .tuple us'.toArray) w' := by
      rw [results_eq, Array.mapM_eq_mapM_toList]
      simp [h1]
    have hbel : Below w.heap.size w w' := ⟨hs.os.frm.os, hs.os.frm.tape, hs.os.frm.output, hs.os.frm.size, fun k hk => hs.os.frm.block k hk (fun h => h) (by simp [cx])⟩
    refine ⟨_, hrun, ?_⟩
    have fin : ∀ {σ' : St} {fp : List Nat}, Handed' cx γ w' σ σ' fp → ∀ g ∈ fp, w.heap.size ≤ g := fun hh g hg => by
      rcases (hh.fr g hg).fr with h | h
      · exact h
      · exact h.1.elim
    match vs, h2, h3 with
    | [], h2, h3 =>
      obtain ⟨σ', fp, -, k1, k2⟩ := retR_sound hs.os (v := .tup []) (u := .tuple us'.toArray) (by simp only [VSim]; exact ⟨us', rfl, h2⟩) h3
      have := h2.length
      exact ⟨_, fp, by rw [dif_neg (by simp [this])], k1, k2.nd, fin k2, hbel⟩
    | [v], h2, h3 =>
      simp only [VSims] at h2
      obtain ⟨u, us'', rfl, hv2, rfl⟩ := h2
      obtain ⟨σ', fp, -, k1, k2⟩ := retR_sound hs.os hv2 h3
      exact ⟨u, fp, by simp, k1, k2.nd, fin k2, hbel⟩
    | v1 :: v2 :: vs, h2, h3 =>
      obtain ⟨σ', fp, -, k1, k2⟩ := retR_sound hs.os (v := .tup (v1 :: v2 :: vs)) (u := .tuple us'.toArray) (by simp only [VSim]; exact ⟨us', rfl, h2⟩) h3
      have := h2.length
      exact ⟨_, fp, by rw [dif_neg (by simp [this])], k1, k2.nd, fin k2, hbel⟩
  cases q with
  | normal => exact key hq
  | exit id => exact hq.elim
  | ret => exact key hq
end Go.Proofs.Ytgigfdghecdlgaa.Ab

/-
  The abstract walk: functions that are lent slices or boxes, or are handed slices for good ('ag_of_body').
-/
namespace Go.Proofs.Ytgigfdghecdlgaa.Ab
set_option linter.unusedVariables false
open Go.RowKit

def someT : List (Nat × Tok) → List (Nat × Option Tok)
  | [] => []
  | (t, tk) :: r => (t, some tk) :: someT r
def someB : List (Nat × List AV) → List (Nat × Option (List AV))
  | [] => []
  | (b, vs) :: r => (b, some vs) :: someB r
theorem someT_look : ∀ (l : List (Nat × Tok)) (i : Nat), look (someT l) i = (look l i).map some
  | [], i => rfl
  | (t, tk) :: r, i => by
    rw [someT, look_cons, look_cons]
    split
    · rfl
    · exact someT_look r i
theorem someB_look : ∀ (l : List (Nat × List AV)) (i : Nat), look (someB l) i = (look l i).map some
  | [], i => rfl
  | (t, tk) :: r, i => by
    rw [someB, look_cons, look_cons]
    split
    · rfl
    · exact someB_look r i
def stG (args : List AV) (pt : List (Nat × Tok)) (pb : List (Nat × List AV)) : St := ⟨args0 0 args, someT pt, someB pb⟩
def oneA : List AV → AV
  | [v] => v
  | vs => .tup vs
def RetG (P : Program) (l : List ResultVar) (r : AV) (qt : List (Nat × Tok)) (qb : List (Nat × List AV)) (σ : St) : Prop :=
  ResA P σ l fun vs => Wk ⟨[(0, oneA vs)], σ.t, σ.b⟩ ⟨[(0, r)], someT qt, someB qb⟩
def endG (P : Program) (l : List ResultVar) (r : AV) (qt : List (Nat × Tok)) (qb : List (Nat × List AV)) (q : AE) (σ : St) : Prop := match q with
  | .exit _ => False
  | _ => RetG P l r qt qb σ
theorem join_map {α : Type} (o : Option α) : (o.map some).join = o := by cases o <;> rfl
theorem tabT (s : List (Nat × AV)) (l : List (Nat × Tok)) (b : List (Nat × Option (List AV))) : St.T ⟨s, someT l, b⟩ = look l := by
  funext x
  show (look (someT l) x).join = _
  rw [someT_look, join_map]
theorem tabB (s : List (Nat × AV)) (l : List (Nat × List AV)) (t : List (Nat × Option Tok)) : St.B ⟨s, t, someB l⟩ = look l := by
  funext x
  show (look (someB l) x).join = _
  rw [someB_look, join_map]

/-- A function, by the abstract walk of its body. -/
theorem ag_of_body {P : Program} (hm : P.follows .mixedOrders = true) {f : FuncId} {fn : Func} {c : Code} {args : List AV} {pt : List (Nat × Tok)} {pb : List (Nat × List AV)} {r : AV} {qt : List (Nat × Tok)} {qb : List (Nat × List AV)}
    (hf : P.funcs[f]? = some fn) (hb : fn.body = some c) (hnm : (fn.name == "runtime.NumGoroutine") = false)
    (hn : args.length ≤ fn.ntmps) (hok : codeOk fn.ntmps c = true)
    (h : awp P c (endG P fn.results.toList r qt qb) (stG args pt pb)) : AG P f args pt pb r qt qb := by
  refine ⟨by simp [callable, hf, hb, hnm], fun cx γ0 us hP hg0 hT hB hos hv => ?_⟩
  subst hP
  refine calls_of_wp hf hb ?_
  have hlen := hv.length
  have hs0 : SimE cx fn.ntmps (stG args pt pb) { tmps := us.toArray ++ Array.replicate (fn.ntmps - us.toArray.size) undef, defers := [] } cx.we := by
    refine ⟨γ0, ⟨by unfold stG; rw [tabT, tabB]; exact hos, fun i => ?_, fun t ht => ?_, fun b hb => ?_, rfl, ?_⟩⟩
    · refine args0_sound args us 0 hv (fun i => (us.toArray ++ Array.replicate (fn.ntmps - us.toArray.size) undef).getD i undef) (fun j hj => ?_) i
      simp [Array.getD_eq_getD_getElem?, Array.getElem?_append, hj]
    · show (look (someT pt) t).isSome = true
      rw [someT_look, Option.isSome_map]; exact (hT t).1 ht
    · show (look (someB pb) b).isSome = true
      rw [someB_look, Option.isSome_map]; exact (hB b).1 hb
    · simp; omega
  refine wp_mono (awp_sound (cx := cx) hm c _ _ _ _ hok h hs0) ?_
  rintro e a' w' ⟨q, σ, rfl, hq, γ, hs⟩
  have key : RetG cx.P fn.results.toList r qt qb σ → a'.defers = [] ∧ ∃ v, (results fn a'.tmps).run cx.P w' = .ok v w' ∧ ∃ v' γ', Ending.returned v = .returned v' ∧ OSim cx γ' (look qt) (look qb) w' ∧ VSim γ'.vw γ' r v' := fun hr => by
    refine ⟨hs.df, ?_⟩
    obtain ⟨us', vs, h1, h2, h3, h4⟩ := resA_sound hs.os hs.sl hr
    have h1 : Sem.run cx.P (List.mapM (resOf a'.tmps) fn.results.toList) w' = .ok us' w' := h1
    have hrun : (results fn a'.tmps).run cx.P w' = .ok (if h : us'.toArray.size = 1 then us'.toArray[0] else .tuple us'.toArray) w' := by
      rw [results_eq, Array.mapM_eq_mapM_toList]
      simp [h1]
    refine ⟨_, hrun, ?_⟩
    have hval : VSim γ.vw γ (oneA vs) (if h : us'.toArray.size = 1 then us'.toArray[0] else .tuple us'.toArray) := by
      match vs, h2 with
      | [], h2 =>
        have := h2.length
        rw [dif_neg (by simp [this])]
        simp only [oneA, VSim]
        exact ⟨us', rfl, h2⟩
      | [v], h2 =>
        simp only [VSims] at h2
        obtain ⟨u, us'', rfl, hv2, rfl⟩ := h2
        simpa [oneA] using hv2
      | v1 :: v2 :: vs, h2 =>
        have := h2.length
        rw [dif_neg (by simp [this])]
        simp only [oneA, VSim]
        exact ⟨us', rfl, h2⟩
    generalize (if h : us'.toArray.size = 1 then us'.toArray[0] else .tuple us'.toArray) = val at hval
    have hs1 : SimE cx 1 ⟨[(0, oneA vs)], σ.t, σ.b⟩ { tmps := #[val], defers := [] } w' := by
      refine ⟨γ, ⟨hs.os, fun i => ?_, hs.td, hs.bd, rfl, rfl⟩⟩
      unfold St.g
      simp only [look_cons]
      split
      · rename_i e; subst e; exact hval
      · trivial
    obtain ⟨γ', hs2⟩ := wk_sound h3 hs1
    refine ⟨val, γ', rfl, ?_, ?_⟩
    · have := hs2.os
      rw [tabT, tabB] at this
      exact this
    · have := hs2.sl 0
      exact this
  cases q with
  | normal => exact key hq
  | exit id => exact hq.elim
  | ret => exact key hq
end Go.Proofs.Ytgigfdghecdlgaa.Ab
