/-
  The abstract walk: functions that are lent slices or boxes, or are handed slices for good ('ag_of_body').
-/
import Derived.Test.YtfbnlkaggggmiaaAbS
namespace Go.Proofs.Ytfbnlkaggggmiaa.Ab
set_option linter.unusedVariables false
open Go.RowKit

def someT : List (Nat × Tok) → List (Nat × Option Tok)
  | [] => []
  | (t, tk) :: r => (t, some tk) :: someT r
def someB : List (Nat × List AV) → List (Nat × Option (List AV))
  | [] => []
  | (b, vs) :: r => (b, some vs) :: someB r
theorem someT_look : ∀ (l : List (Nat × Tok)) (i : Nat), look (someT l) i = (look l i).map some
  | [], i => rfl
  | (t, tk) :: r, i => by
    rw [someT, look_cons, look_cons]
    split
    · rfl
    · exact someT_look r i
theorem someB_look : ∀ (l : List (Nat × List AV)) (i : Nat), look (someB l) i = (look l i).map some
  | [], i => rfl
  | (t, tk) :: r, i => by
    rw [someB, look_cons, look_cons]
    split
    · rfl
    · exact someB_look r i
def stG (args : List AV) (pt : List (Nat × Tok)) (pb : List (Nat × List AV)) : St := ⟨args0 0 args, someT pt, someB pb⟩
def oneA : List AV → AV
  | [v] => v
  | vs => .tup vs
def RetG (P : Program) (l : List ResultVar) (r : AV) (qt : List (Nat × Tok)) (qb : List (Nat × List AV)) (σ : St) : Prop :=
  ResA P σ l fun vs => Wk ⟨[(0, oneA vs)], σ.t, σ.b⟩ ⟨[(0, r)], someT qt, someB qb⟩
def endG (P : Program) (l : List ResultVar) (r : AV) (qt : List (Nat × Tok)) (qb : List (Nat × List AV)) (q : AE) (σ : St) : Prop := match q with
  | .exit _ => False
  | _ => RetG P l r qt qb σ
theorem join_map {α : Type} (o : Option α) : (o.map some).join = o := by cases o <;> rfl
theorem tabT (s : List (Nat × AV)) (l : List (Nat × Tok)) (b : List (Nat × Option (List AV))) : St.T ⟨s, someT l, b⟩ = look l := by
  funext x
  show (look (someT l) x).join = _
  rw [someT_look, join_map]
theorem tabB (s : List (Nat × AV)) (l : List (Nat × List AV)) (t : List (Nat × Option Tok)) : St.B ⟨s, t, someB l⟩ = look l := by
  funext x
  show (look (someB l) x).join = _
  rw [someB_look, join_map]

/-- A function, by the abstract walk of its body. -/
theorem ag_of_body {P : Program} (hm : P.follows .mixedOrders = true) {f : FuncId} {fn : Func} {c : Code} {args : List AV} {pt : List (Nat × Tok)} {pb : List (Nat × List AV)} {r : AV} {qt : List (Nat × Tok)} {qb : List (Nat × List AV)}
    (hf : P.funcs[f]? = some fn) (hb : fn.body = some c) (hnm : (fn.name == "runtime.NumGoroutine") = false)
    (hn : args.length ≤ fn.ntmps) (hok : codeOk fn.ntmps c = true)
    (h : awp P c (endG P fn.results.toList r qt qb) (stG args pt pb)) : AG P f args pt pb r qt qb := by
  refine ⟨by simp [callable, hf, hb, hnm], fun cx γ0 us hP hg0 hT hB hos hv => ?_⟩
  subst hP
  refine calls_of_wp hf hb ?_
  have hlen := hv.length
  have hs0 : SimE cx fn.ntmps (stG args pt pb) { tmps := us.toArray ++ Array.replicate (fn.ntmps - us.toArray.size) undef, defers := [] } cx.we := by
    refine ⟨γ0, ⟨by unfold stG; rw [tabT, tabB]; exact hos, fun i => ?_, fun t ht => ?_, fun b hb => ?_, rfl, ?_⟩⟩
    · refine args0_sound args us 0 hv (fun i => (us.toArray ++ Array.replicate (fn.ntmps - us.toArray.size) undef).getD i undef) (fun j hj => ?_) i
      simp [Array.getD_eq_getD_getElem?, Array.getElem?_append, hj]
    · show (look (someT pt) t).isSome = true
      rw [someT_look, Option.isSome_map]; exact (hT t).1 ht
    · show (look (someB pb) b).isSome = true
      rw [someB_look, Option.isSome_map]; exact (hB b).1 hb
    · simp; omega
  refine wp_mono (awp_sound (cx := cx) hm c _ _ _ _ hok h hs0) ?_
  rintro e a' w' ⟨q, σ, rfl, hq, γ, hs⟩
  have key : RetG cx.P fn.results.toList r qt qb σ → a'.defers = [] ∧ ∃ v, (results fn a'.tmps).run cx.P w' = .ok v w' ∧ ∃ v' γ', Ending.returned v = .returned v' ∧ OSim cx γ' (look qt) (look qb) w' ∧ VSim cx.w0 γ' r v' := fun hr => by
    refine ⟨hs.df, ?_⟩
    obtain ⟨us', vs, h1, h2, h3, h4⟩ := resA_sound hs.os hs.sl hr
    have h1 : Sem.run cx.P (List.mapM (resOf a'.tmps) fn.results.toList) w' = .ok us' w' := h1
    have hrun : (results fn a'.tmps).run cx.P w' = .ok (if h : us'.toArray.size = 1 then us'.toArray[0] else .tuple us'.toArray) w' := by
      rw [results_eq, Array.mapM_eq_mapM_toList]
      simp [h1]
    refine ⟨_, hrun, ?_⟩
    have hval : VSim cx.w0 γ (oneA vs) (if h : us'.toArray.size = 1 then us'.toArray[0] else .tuple us'.toArray) := by
      match vs, h2 with
      | [], h2 =>
        have := h2.length
        rw [dif_neg (by simp [this])]
        simp only [oneA, VSim]
        exact ⟨us', rfl, h2⟩
      | [v], h2 =>
        simp only [VSims] at h2
        obtain ⟨u, us'', rfl, hv2, rfl⟩ := h2
        simpa [oneA] using hv2
      | v1 :: v2 :: vs, h2 =>
        have := h2.length
        rw [dif_neg (by simp [this])]
        simp only [oneA, VSim]
        exact ⟨us', rfl, h2⟩
    generalize (if h : us'.toArray.size = 1 then us'.toArray[0] else .tuple us'.toArray) = val at hval
    have hs1 : SimE cx 1 ⟨[(0, oneA vs)], σ.t, σ.b⟩ { tmps := #[val], defers := [] } w' := by
      refine ⟨γ, ⟨hs.os, fun i => ?_, hs.td, hs.bd, rfl, rfl⟩⟩
      unfold St.g
      simp only [look_cons]
      split
      · rename_i e; subst e; exact hval
      · trivial
    obtain ⟨γ', hs2⟩ := wk_sound h3 hs1
    refine ⟨val, γ', rfl, ?_, ?_⟩
    · have := hs2.os
      rw [tabT, tabB] at this
      exact this
    · have := hs2.sl 0
      exact this
  cases q with
  | normal => exact key hq
  | exit id => exact hq.elim
  | ret => exact key hq
end Go.Proofs.Ytfbnlkaggggmiaa.Ab
