/-
  The data 'Core' of the laws, and the laws' helpers over it.
-/
import Derived.Test.YtmcnnjelajgkjaaRows
import Derived.Test.YtmcnnjelajgkjaaDat
import Derived.Test.YtmcnnjelajgkjaaPrInt64
namespace Go.Proofs.Ytmcnnjelajgkjaa
set_option linter.unusedVariables false
open Go.RowKit


inductive TCore where
  | mk (fKind : Int) (fValue : Int) (fData : List Int) (fKids : List TCore)
def TCore.fKind : TCore → Int
  | .mk x _ _ _ => x
def TCore.fValue : TCore → Int
  | .mk _ x _ _ => x
def TCore.fData : TCore → List Int
  | .mk _ _ x _ => x
def TCore.fKids : TCore → List TCore
  | .mk _ _ _ x => x
mutual
def TCore.toD : TCore → List D
  | .mk xKind xValue xData xKids => D.int .i64 xKind :: (D.int .i64 xValue :: (ints .i64 xData :: ([D.sl 4 (TCore.toDs xKids)])))
def TCore.toDs : List TCore → List (List D)
  | [] => []
  | k :: ks => k.toD :: TCore.toDs ks
end
theorem TCore.toDs_map : ∀ ks : List TCore, TCore.toDs ks = ks.map TCore.toD
  | [] => rfl
  | k :: ks => by simp [TCore.toDs, TCore.toDs_map ks]
theorem TCore.toD_eq (x : TCore) : x.toD = D.int .i64 x.fKind :: (D.int .i64 x.fValue :: (ints .i64 x.fData :: ([D.sl 4 (x.fKids.map TCore.toD)]))) := by
  cases x; simp [TCore.toD, TCore.toDs_map, TCore.fKind, TCore.fValue, TCore.fData, TCore.fKids]
mutual
def TCore.depth : TCore → Nat
  | .mk _ _ _ k => TCore.depths k + 1
def TCore.depths : List TCore → Nat
  | [] => 0
  | k :: ks => max k.depth (TCore.depths ks)
end
theorem TCore.depths_mem : ∀ {ks : List TCore} {k : TCore}, k ∈ ks → k.depth ≤ TCore.depths ks
  | [], _, h => by simp at h
  | y :: ys, k, h => by
    simp only [TCore.depths]
    rcases List.mem_cons.1 h with rfl | h
    · omega
    · have := TCore.depths_mem h; omega
theorem TCore.depth_kid {x k : TCore} (h : k ∈ x.fKids) : k.depth < x.depth := by
  cases x
  simp only [TCore.fKids] at h
  have := TCore.depths_mem h
  simp only [TCore.depth]
  omega
theorem TCore.toD_length (x : TCore) : x.toD.length = 4 := by
  rw [TCore.toD_eq]; simp
theorem TCore.reps_open {x : TCore} {w : World} {vs : List Value} (h : Reps w x.toD vs) :
    ∃ v2 v3, vs = [.int .i64 x.fKind, .int .i64 x.fValue, v2, v3] ∧ (Lit.int .i64 x.fKind).wf = true ∧ (Lit.int .i64 x.fValue).wf = true ∧ Rep w (ints .i64 x.fData) v2 ∧ Rep w (D.sl 4 (x.fKids.map TCore.toD)) v3 := by
  rw [TCore.toD_eq] at h
  obtain ⟨y0, vs0, rfl, k0, h0⟩ := Reps.uncons h
  obtain ⟨y1, vs1, rfl, k1, h1⟩ := Reps.uncons h0
  obtain ⟨y2, vs2, rfl, k2, h2⟩ := Reps.uncons h1
  obtain ⟨y3, vs3, rfl, k3, h3⟩ := Reps.uncons h2
  obtain rfl := Reps.unnil h3
  obtain ⟨rfl, q0⟩ := k0
  obtain ⟨rfl, q1⟩ := k1
  exact ⟨y2, y3, rfl, q0, q1, k2, k3⟩

theorem TCore.shape {x : TCore} {w : World} {vs : List Value} (h : Reps w x.toD vs) : ∃ ei0 ei1 ea2 en2 ec2 ea3 en3 ec3, vs = [Value.int .i64 ei0, Value.int .i64 ei1, Value.slice ea2 en2 ec2, Value.slice ea3 en3 ec3] := by
  obtain ⟨v2, v3, rfl, rKind, rValue, rData, rKids⟩ := TCore.reps_open h
  obtain ⟨aData, nData, cData, rfl⟩ := Rep.shape rData
  obtain ⟨aKids, nKids, cKids, rfl⟩ := Rep.shape rKids
  exact ⟨_, _, _, _, _, _, _, _, rfl⟩

theorem TCore.own_mk {x : TCore} {w : World} {v2 v3 : Value} {pData pKids : List Nat} (rKind : (Lit.int .i64 x.fKind).wf = true) (rValue : (Lit.int .i64 x.fValue).wf = true) (oData : Own w (ints .i64 x.fData) v2 pData) (oKids : Own w (D.sl 4 (x.fKids.map TCore.toD)) v3 pKids) :
    OwnC w [.int .i64 x.fKind, .int .i64 x.fValue, v2, v3] x.toD (pData ++ pKids) := by
  rw [TCore.toD_eq]
  have h := (OwnC.cons0 (own_int rKind) (OwnC.cons0 (own_int rValue) (OwnC.cons0 (oData) (OwnC.cons0 (oKids) (OwnC.nil0 w)))))
  simpa using h

/-- What measuring comes to. -/
def SzOkCore (x : TCore) : Prop := ∀ (vs : List Value) (left : Int) (w : World), Reps w x.toD vs → 0 ≤ left → left ≤ 1048576 →
  Calls Try.prog 33 #[.agg vs.toArray, .int .i64 left] w (SzRet w left (wts x.toD))

set_option maxRecDepth 4000 in
set_option maxHeartbeats 1000000 in
theorem szCoreS_of (xs : List TCore) (H : ∀ k ∈ xs, SzOkCore k) : SzSl 46 (.sl 4 (xs.map TCore.toD)) := by
  intro v left w h h0 h1
  obtain ⟨a, len, cap, rfl, hmx, HL, HM, HC⟩ := h.sl_open
  have HT : Hid ((D.sl 4 (xs.map TCore.toD)).wt = len + (xs.map fun x => wts x.toD).sum) := by rw [Hid, wt_sl, HL.out]
  have HH := Lib.hid H; clear H
  clear h HM
  by_cases h : left - len < 0
  · go_enter Try.func46, Try.ntmps46
    go_wp2
    go_ret
    exact ⟨_, rfl, .inl ⟨rfl, by rw [HT.out]; omega⟩, Below.refl _ _⟩
  · have hb0 : (0 : Int) ≤ left - len := by omega
    go_enter Try.func46, Try.ntmps46
    go_wp2_with fail
    go_loopw [1, 5] (fun lv iv wr => ∃ (k : Nat) (m : Int), k ≤ len ∧ iv = .int .i64 k ∧ lv = .int .i64 m ∧ 0 ≤ m ∧ m ≤ 1048576 ∧ Hid (m = left - len - (((xs.take k).map fun x => wts x.toD).sum : Nat)) ∧ Below w.heap.size w wr) (fun _ iv _ => len - (intOf iv).toNat)
    case atStart => exact ⟨0, _, Nat.zero_le _, rfl, rfl, hb0, by omega, Lib.hid (by simp), Below.refl _ _⟩
    case round =>
      obtain ⟨k, m, hk, rfl, rfl, hm0, hm1, hm, hbel⟩ := hrel
      by_cases hlt : k < len
      · obtain ⟨b, off, rfl, hcc⟩ := HC.out k hlt
        have HKX : Hid (k < xs.length) := by rw [Hid, ← HL.out]; exact hlt
        obtain ⟨hlen, hrc⟩ := hcc k HKX.out
        obtain ⟨vs, hvs, hcells⟩ := hrc.vals
        obtain ⟨y0, y1, y2, y3, rfl⟩ := len4 (hvs.length.symm.trans (TCore.toD_length _))
        have q0 := hcells 0 (by simp)
        have q1 := hcells 1 (by simp)
        have q2 := hcells 2 (by simp)
        have q3 := hcells 3 (by simp)
        simp only [List.getElem_cons_zero, List.getElem_cons_succ, Nat.add_zero] at q0 q1 q2 q3
        replace q0 := Keeps.of_below hbel _ _ q0
        replace q1 := Keeps.of_below hbel _ _ q1
        replace q2 := Keeps.of_below hbel _ _ q2
        replace q3 := Keeps.of_below hbel _ _ q3
        have HV := Lib.hid hvs
        clear hvs hcells hcc hrc hlen
        go_wp2_with fail
        refine ((HH.out (xs[k]'(HKX.out)) (List.getElem_mem HKX.out)) [y0, y1, y2, y3] m _ (HV.out.keep (Keeps.of_below hbel)) hm0 hm1).mono ?_
        rintro e w1 ⟨m1, rfl, hs, hb1⟩
        have hbel1 := bnext hbel hb1
        rcases hs with ⟨rfl, hq⟩ | ⟨rfl, hq⟩
        · go_wp2_with fail
          go_ret
          exact ⟨_, rfl, .inl ⟨rfl, by rw [HT.out]; have h1 := hm.out; have h2 := sum_take_le (fun x : TCore => wts x.toD) HKX.out; omega⟩, hbel1⟩
        · obtain ⟨m2, e2⟩ : ∃ m2, m - ((wts (xs[k]'(HKX.out)).toD : Nat) : Int) = m2 := ⟨_, rfl⟩
          have p2 : 0 ≤ m2 := by omega
          have p2' : m2 ≤ 1048576 := by omega
          rw [e2]
          have E2 := Lib.hid e2; clear e2 hq
          go_wp2_with fail
          go_roundw
          case rel => exact ⟨k + 1, _, by omega, by go_num, rfl, p2, p2', Lib.hid (by have h1 := hm.out; have h2 := E2.out; have h3 := sum_take_succ (fun x : TCore => wts x.toD) HKX.out; omega), hbel1⟩
          case measure => simp [intOf]; omega
      · go_wp2_with fail
        go_ret
        have hkl : k = xs.length := by have := HL.out; omega
        have h1 := hm.out
        rw [hkl, List.take_length] at h1
        exact ⟨_, rfl, .inr ⟨by rw [HT.out]; omega, by rw [HT.out]; omega⟩, hbel⟩

set_option maxRecDepth 4000 in
set_option maxHeartbeats 1000000 in
theorem szCore_of (x : TCore) (HK : ∀ k ∈ x.fKids, SzOkCore k) : SzOkCore x := by
  intro vs left w h h0 h1
  obtain ⟨v2, v3, rfl, rKind, rValue, rData, rKids⟩ := TCore.reps_open h
  have HT : Hid (wts x.toD = (ints .i64 x.fData).wt + (D.sl 4 (x.fKids.map TCore.toD)).wt) := by rw [TCore.toD_eq]; simp [Hid, wts, D.wt] <;> omega
  clear rKind
  clear rValue
  have RrData := Lib.hid rData; clear rData
  have RrKids := Lib.hid rKids; clear rKids
  have HKK := Lib.hid HK; clear HK
  clear h
  have H0 : Below w.heap.size w (w.alloc (.cells #[.int .i64 x.fKind, .int .i64 x.fValue, v2, v3] 38)) := alloc_below w _
  have B0 : Hid (Blk (w.alloc (.cells #[.int .i64 x.fKind, .int .i64 x.fValue, v2, v3] 38)) w.heap.size 38 [.int .i64 x.fKind, .int .i64 x.fValue, v2, v3]) := Blk.new w _ [.int .i64 x.fKind, .int .i64 x.fValue, v2, v3]
  go_enter Try.func33, Try.ntmps33
  go_wp2_with fail
  refine (szInt64S_any x.fData _ left _ (RrData.out.below H0) h0 h1).mono ?_
  rintro e w1 ⟨n0, rfl, hs0, hb1⟩
  have H1 := bnext H0 hb1
  have B1 : Hid (Blk w1 w.heap.size 38 [.int .i64 x.fKind, .int .i64 x.fValue, v2, v3]) := B0.out.below hb1 B0.out.lt
  rcases hs0 with ⟨rfl, q0⟩ | ⟨rfl, q0⟩
  · go_wp2_with fail
    go_ret
    exact ⟨_, rfl, .inl ⟨rfl, by rw [HT.out]; omega⟩, H1⟩
  obtain ⟨m0, e0⟩ : ∃ m, left - (((ints .i64 x.fData).wt : Nat) : Int) = m := ⟨_, rfl⟩
  have p0 : 0 ≤ m0 := by omega
  have p0' : m0 ≤ 1048576 := by omega
  rw [e0]
  have E0 := Lib.hid e0; clear e0
  have c3 := B1.out.cell 3
  simp only [List.getElem?_cons_zero, List.getElem?_cons_succ] at c3
  go_wp2_with fail
  clear c3
  refine (szCoreS_of x.fKids HKK.out _ m0 _ (RrKids.out.below H1) p0 p0').mono ?_
  rintro e w2 ⟨n1, rfl, hs1, hb2⟩
  have H2 := bnext H1 hb2
  have B2 : Hid (Blk w2 w.heap.size 38 [.int .i64 x.fKind, .int .i64 x.fValue, v2, v3]) := B1.out.below hb2 B1.out.lt
  rcases hs1 with ⟨rfl, q1⟩ | ⟨rfl, q1⟩
  · go_wp2_with fail
    go_ret
    exact ⟨_, rfl, .inl ⟨rfl, by rw [HT.out]; have z0 := E0.out; omega⟩, H2⟩
  obtain ⟨m1, e1⟩ : ∃ m, m0 - (((D.sl 4 (x.fKids.map TCore.toD)).wt : Nat) : Int) = m := ⟨_, rfl⟩
  have p1 : 0 ≤ m1 := by omega
  have p1' : m1 ≤ 1048576 := by omega
  rw [e1]
  have E1 := Lib.hid e1; clear e1
  go_wp2_with fail
  go_ret
  exact ⟨_, rfl, .inr ⟨by rw [HT.out]; have z0 := E0.out; have z1 := E1.out; omega, by rw [HT.out]; have z0 := E0.out; have z1 := E1.out; omega⟩, H2⟩

theorem szCore_any (x : TCore) : SzOkCore x := by
  have key : ∀ (m : Nat) (x : TCore), x.depth ≤ m → SzOkCore x := by
    intro m
    induction m with
    | zero => intro x hx; exfalso; cases x; simp [TCore.depth] at hx
    | succ m ih => intro x hx; exact szCore_of x fun k hk => ih k (by have := TCore.depth_kid hk; omega)
  exact key x.depth x (Nat.le_refl _)
theorem szCoreS_any (xs : List TCore) : SzSl 46 (.sl 4 (xs.map TCore.toD)) := szCoreS_of xs fun k _ => szCore_any k

/-- What copying comes to. -/
def ToOkCore (x : TCore) : Prop := ∀ (vs : List Value) (w : World), Reps w x.toD vs → wts x.toD ≤ 1048576 → Calls Try.prog 36 #[.agg vs.toArray] w (ToStRet w x.toD)

theorem info_TCore : (Try.prog.info? 46).map (fun i => (i.zero, i.size, i.bytes)) = some (some (.agg #[.int .i64 0, .int .i64 0, .slice none 0 0, .slice none 0 0]), 4, 64) := by kernel_rfl
set_option maxRecDepth 8000 in
set_option maxHeartbeats 2000000 in
theorem toCoreS_of (xs : List TCore) (H : ∀ k ∈ xs, ToOkCore k) : ToSl 49 (.sl 4 (xs.map TCore.toD)) := by
  intro v w h hwt
  obtain ⟨a, len, cap, rfl, hmx, HL, HM, HC⟩ := h.sl_open
  have HT : Hid ((D.sl 4 (xs.map TCore.toD)).wt = len + (xs.map fun x => wts x.toD).sum) := by rw [Hid, wt_sl, HL.out]
  have hsz : len ≤ 1048576 := by have := HT.out; omega
  have HWT := Lib.hid hwt
  have HH := Lib.hid H; clear H
  clear h hmx HM hwt
  have hmk := make_row (P := Try.prog) Try.underlying44 info_TCore len (by omega) (by omega)
  go_enter Try.func49, Try.ntmps49
  go_wp2_with fail
  clear hmk
  go_loopw [4] (fun i wr => ∃ (k : Nat) (done rest : List Value) (fp : List Nat), k ≤ len ∧ i = .int .i64 k ∧ Hid (Blk wr w.heap.size 46 (done ++ rest)) ∧ Hid (done.length = k * 4) ∧ Hid ((done ++ rest).length = len * 4) ∧ Hid (OwnR wr 4 done ((xs.take k).map TCore.toD) fp) ∧ Hid (Fresh (w.heap.size + 1) fp) ∧ Below w.heap.size w wr) (fun i _ => len - (intOf i).toNat)
  case atStart => exact ⟨0, [], zeroRow (.agg #[.int .i64 0, .int .i64 0, .slice none 0 0, .slice none 0 0]) (len * 4), [], Nat.zero_le _, rfl, Blk.new w _ (zeroRow (.agg #[.int .i64 0, .int .i64 0, .slice none 0 0, .slice none 0 0]) (len * 4)), Lib.hid (by simp), Lib.hid (by simp [zeroRow_length]), ⟨rfl, rfl⟩, Fresh.nil _, alloc_below w _⟩
  case round =>
    obtain ⟨k, done, rest, fp, hk, rfl, hb, hdl, htl, hor, hfr, hbel⟩ := hrel
    by_cases hlt : k < len
    · obtain ⟨b, off, rfl, hcc⟩ := HC.out k hlt
      have HKX : Hid (k < xs.length) := by rw [Hid, ← HL.out]; exact hlt
      obtain ⟨hlen, hrc⟩ := hcc k HKX.out
      obtain ⟨vs, hvs, hcells⟩ := hrc.vals
      obtain ⟨y0, y1, y2, y3, rfl⟩ := len4 (hvs.length.symm.trans (TCore.toD_length _))
      have q0 := hcells 0 (by simp)
      have q1 := hcells 1 (by simp)
      have q2 := hcells 2 (by simp)
      have q3 := hcells 3 (by simp)
      simp only [List.getElem_cons_zero, List.getElem_cons_succ, Nat.add_zero] at q0 q1 q2 q3
      replace q0 := Keeps.of_below hbel _ _ q0
      replace q1 := Keeps.of_below hbel _ _ q1
      replace q2 := Keeps.of_below hbel _ _ q2
      replace q3 := Keeps.of_below hbel _ _ q3
      have HV := Lib.hid hvs
      clear hvs hcells hcc hrc hlen
      obtain ⟨mid, rest2, rfl, hmid⟩ := rest_split hdl.out htl.out hlt
      obtain ⟨o0, o1, o2, o3, rfl⟩ := len4 hmid
      clear hmid
      go_wp2_with fail
      refine ((HH.out (xs[k]'(HKX.out)) (List.getElem_mem HKX.out)) [y0, y1, y2, y3] _ (HV.out.keep (Keeps.of_below hbel)) (by have h1 := HWT.out; have h2 := HT.out; have h3 := sum_take_le (fun x : TCore => wts x.toD) HKX.out; omega)).mono ?_
      rintro e w1 ⟨us, p1, rfl, ho1, hf1, hbn⟩
      obtain ⟨u0, u1, u2, u3, rfl⟩ := len4 (ho1.length.trans (TCore.toD_length _))
      obtain ⟨ei0, ei1, ea2, en2, ec2, ea3, en3, ec3, hee⟩ := TCore.shape ho1.reps
      simp only [List.cons.injEq, and_true] at hee
      obtain ⟨rfl, rfl, rfl, rfl⟩ := hee
      clear q0 q1 q2 q3
      have hb1 := hb.out.below hbn hb.out.lt
      have lw : w.heap.size < w1.heap.size := hb1.lt
      have co0 : w1.cell? ⟨w.heap.size, k * 4, none⟩ = some o0 := by rw [hb1.cell]; exact mid_get hdl.out (i := 0) rfl
      have fo0 := hb1.free (k * 4)
      have co1 : w1.cell? ⟨w.heap.size, k * 4 + 1, none⟩ = some o1 := by rw [hb1.cell]; exact mid_get hdl.out (i := 1) rfl
      have fo1 := hb1.free (k * 4 + 1)
      have co2 : w1.cell? ⟨w.heap.size, k * 4 + 2, none⟩ = some o2 := by rw [hb1.cell]; exact mid_get hdl.out (i := 2) rfl
      have fo2 := hb1.free (k * 4 + 2)
      have co3 : w1.cell? ⟨w.heap.size, k * 4 + 3, none⟩ = some o3 := by rw [hb1.cell]; exact mid_get hdl.out (i := 3) rfl
      have fo3 := hb1.free (k * 4 + 3)
      have HB1 := Lib.hid hb1; clear hb1
      have HO1 := Lib.hid ho1; clear ho1
      have HOR1 : Hid (OwnR w1 4 done ((xs.take k).map TCore.toD) fp) := hor.out.keep fun g hg => hbn.block g (hor.out.lt g hg)
      have HF1 := Lib.hid hf1
      have HLT : Hid (∀ g ∈ fp, g < wr.heap.size) := hor.out.lt
      have HWR : Hid (w.heap.size < wr.heap.size) := hb.out.lt
      have hbel1 := bnext hbel hbn
      clear hf1 hbn
      go_wp2_with fail
      clear co0 fo0 co1 fo1 co2 fo2 co3 fo3 lw
      have HBN : Hid (Blk ((((w1.setCell ⟨w.heap.size, k * 4, none⟩ (.int .i64 ei0)).setCell ⟨w.heap.size, k * 4 + 1, none⟩ (.int .i64 ei1)).setCell ⟨w.heap.size, k * 4 + 2, none⟩ (.slice ea2 en2 ec2)).setCell ⟨w.heap.size, k * 4 + 3, none⟩ (.slice ea3 en3 ec3)) w.heap.size 46 ((done ++ [(.int .i64 ei0), (.int .i64 ei1), (.slice ea2 en2 ec2), (.slice ea3 en3 ec3)]) ++ rest2)) := by
        have h := ((((HB1.out.set (k * 4) (.int .i64 ei0)).set (k * 4 + 1) (.int .i64 ei1)).set (k * 4 + 2) (.slice ea2 en2 ec2)).set (k * 4 + 3) (.slice ea3 en3 ec3))
        rw [List.append_assoc, ← setRun_mid (mid := [o0, o1, o2, o3]) (vs := [(.int .i64 ei0), (.int .i64 ei1), (.slice ea2 en2 ec2), (.slice ea3 en3 ec3)]) hdl.out rfl]
        exact h
      have HORN : Hid (OwnR ((((w1.setCell ⟨w.heap.size, k * 4, none⟩ (.int .i64 ei0)).setCell ⟨w.heap.size, k * 4 + 1, none⟩ (.int .i64 ei1)).setCell ⟨w.heap.size, k * 4 + 2, none⟩ (.slice ea2 en2 ec2)).setCell ⟨w.heap.size, k * 4 + 3, none⟩ (.slice ea3 en3 ec3)) 4 (done ++ [(.int .i64 ei0), (.int .i64 ei1), (.slice ea2 en2 ec2), (.slice ea3 en3 ec3)]) ((xs.take (k + 1)).map TCore.toD) (fp ++ p1)) := by
        rw [List.take_succ_eq_append_getElem HKX.out, List.map_append]
        exact OwnR.snoc ((((HOR1.out.keep fun g hg => Below.heap_setCell _ _ _ _ (by have := hfr.out.1 g hg; dsimp only; omega)).keep fun g hg => Below.heap_setCell _ _ _ _ (by have := hfr.out.1 g hg; dsimp only; omega)).keep fun g hg => Below.heap_setCell _ _ _ _ (by have := hfr.out.1 g hg; dsimp only; omega)).keep fun g hg => Below.heap_setCell _ _ _ _ (by have := hfr.out.1 g hg; dsimp only; omega)) ((((HO1.out.keep fun g hg => Below.heap_setCell _ _ _ _ (by have := (fun g hg => Nat.lt_of_lt_of_le HWR.out (HF1.out.1 g hg)) g hg; dsimp only; omega)).keep fun g hg => Below.heap_setCell _ _ _ _ (by have := (fun g hg => Nat.lt_of_lt_of_le HWR.out (HF1.out.1 g hg)) g hg; dsimp only; omega)).keep fun g hg => Below.heap_setCell _ _ _ _ (by have := (fun g hg => Nat.lt_of_lt_of_le HWR.out (HF1.out.1 g hg)) g hg; dsimp only; omega)).keep fun g hg => Below.heap_setCell _ _ _ _ (by have := (fun g hg => Nat.lt_of_lt_of_le HWR.out (HF1.out.1 g hg)) g hg; dsimp only; omega)) rfl
      have HFN : Hid (Fresh (w.heap.size + 1) (fp ++ p1)) := hfr.out.append HF1.out HWR.out HLT.out
      go_roundw
      case rel => exact ⟨k + 1, _, _, _, by omega, by go_num, HBN, Lib.hid (by have := hdl.out; simp; omega), Lib.hid (by have := htl.out; simp at *; omega), HORN, HFN, ((((hbel1.setCell (Nat.le_refl _) _).setCell (Nat.le_refl _) _).setCell (Nat.le_refl _) _).setCell (Nat.le_refl _) _)⟩
      case measure => simp [intOf]; omega
    · go_wp2_with fail
      go_ret
      have hkl : k = xs.length := by have := HL.out; omega
      have h1 := hor.out
      rw [hkl, List.take_length] at h1
      have h2 := hdl.out
      have h3 := htl.out
      exact ⟨_, _, _, w.heap.size :: fp, rfl, Own.of_blk hb.out h1 (by rw [HL.out]; simp) (by simp [HL.out]) (by unfold maxLen; omega) h3, Fresh.cons hfr.out, hbel⟩

set_option maxRecDepth 8000 in
set_option maxHeartbeats 2000000 in
theorem toCore_of (x : TCore) (HK : ∀ k ∈ x.fKids, ToOkCore k) : ToOkCore x := by
  intro vs w h hwt
  obtain ⟨v2, v3, rfl, rKind, rValue, rData, rKids⟩ := TCore.reps_open h
  have HW := Lib.hid hwt; clear hwt
  have HT : Hid (wts x.toD = (ints .i64 x.fData).wt + (D.sl 4 (x.fKids.map TCore.toD)).wt) := by rw [TCore.toD_eq]; simp [Hid, wts, D.wt] <;> omega
  have RrKind := Lib.hid rKind; clear rKind
  have RrValue := Lib.hid rValue; clear rValue
  have RrData := Lib.hid rData; clear rData
  have RrKids := Lib.hid rKids; clear rKids
  have HKK := Lib.hid HK; clear HK
  clear h
  go_enter Try.func36, Try.ntmps36
  go_wp2_with fail
  have H0 : Below w.heap.size w (((w.alloc (.cells #[.int .i64 x.fKind, .int .i64 x.fValue, v2, v3] 38)).alloc (.cells #[.int .i64 0, .int .i64 0, .slice none 0 0, .slice none 0 0] 46)).alloc (.cells #[.int .i64 x.fKind, .int .i64 x.fValue, .slice none 0 0, .slice none 0 0] 46)) := ((alloc_below w _).alloc (by simp) _).alloc (by simp; omega) _
  have BX0 : Hid (Blk (((w.alloc (.cells #[.int .i64 x.fKind, .int .i64 x.fValue, v2, v3] 38)).alloc (.cells #[.int .i64 0, .int .i64 0, .slice none 0 0, .slice none 0 0] 46)).alloc (.cells #[.int .i64 x.fKind, .int .i64 x.fValue, .slice none 0 0, .slice none 0 0] 46)) w.heap.size 38 [.int .i64 x.fKind, .int .i64 x.fValue, v2, v3]) := ((Blk.new w _ [.int .i64 x.fKind, .int .i64 x.fValue, v2, v3]).alloc _).alloc _
  have BR0 : Hid (Blk (((w.alloc (.cells #[.int .i64 x.fKind, .int .i64 x.fValue, v2, v3] 38)).alloc (.cells #[.int .i64 0, .int .i64 0, .slice none 0 0, .slice none 0 0] 46)).alloc (.cells #[.int .i64 x.fKind, .int .i64 x.fValue, .slice none 0 0, .slice none 0 0] 46)) (w.heap.size + 1) 46 [.int .i64 0, .int .i64 0, .slice none 0 0, .slice none 0 0]) := by have h := (Blk.new (w.alloc (.cells #[.int .i64 x.fKind, .int .i64 x.fValue, v2, v3] 38)) 46 [.int .i64 0, .int .i64 0, .slice none 0 0, .slice none 0 0]).alloc (.cells #[.int .i64 x.fKind, .int .i64 x.fValue, .slice none 0 0, .slice none 0 0] 46); simpa [Hid] using h
  have BO0 : Hid (Blk (((w.alloc (.cells #[.int .i64 x.fKind, .int .i64 x.fValue, v2, v3] 38)).alloc (.cells #[.int .i64 0, .int .i64 0, .slice none 0 0, .slice none 0 0] 46)).alloc (.cells #[.int .i64 x.fKind, .int .i64 x.fValue, .slice none 0 0, .slice none 0 0] 46)) (w.heap.size + 1 + 1) 46 [.int .i64 x.fKind, .int .i64 x.fValue, .slice none 0 0, .slice none 0 0]) := by have h := Blk.new ((w.alloc (.cells #[.int .i64 x.fKind, .int .i64 x.fValue, v2, v3] 38)).alloc (.cells #[.int .i64 0, .int .i64 0, .slice none 0 0, .slice none 0 0] 46)) 46 [.int .i64 x.fKind, .int .i64 x.fValue, .slice none 0 0, .slice none 0 0]; simpa [Hid] using h
  have Z0 : Hid (w.heap.size + 3 ≤ ((((w.alloc (.cells #[.int .i64 x.fKind, .int .i64 x.fValue, v2, v3] 38)).alloc (.cells #[.int .i64 0, .int .i64 0, .slice none 0 0, .slice none 0 0] 46)).alloc (.cells #[.int .i64 x.fKind, .int .i64 x.fValue, .slice none 0 0, .slice none 0 0] 46))).heap.size) := by simp [Hid]
  refine (toInt64S_any x.fData _ _ (RrData.out.below H0) (by have h1 := HW.out; have h2 := HT.out; omega)).mono ?_
  rintro e w1 ⟨a1, n1, c1, pData, rfl, ho1, hf1, hb1⟩
  have G1 := bnext H0 hb1
  have bx1 := BX0.out.below hb1 BX0.out.lt
  have br1 := BR0.out.below hb1 BR0.out.lt
  have bo1 := BO0.out.below hb1 BO0.out.lt
  have ny1 : Hid (∀ g ∈ pData, w.heap.size + 3 ≤ g) := fun g hg => Nat.le_trans Z0.out (hf1.1 g hg)
  have zz1 : Hid (w.heap.size + 3 ≤ w1.heap.size) := Nat.le_trans Z0.out hb1.size
  have cx3 := bx1.cell 3
  have co2 := bo1.cell 2
  have fo2 := bo1.free 2
  simp only [List.getElem?_cons_zero, List.getElem?_cons_succ] at cx3 co2
  have lw1 := bo1.lt
  have HBX1 := Lib.hid bx1; have HBR1 := Lib.hid br1; have HBO1 := Lib.hid bo1; have HO1 := Lib.hid ho1; clear bx1 br1 bo1 ho1
  go_wp2_with fail
  clear cx3 co2 fo2 lw1
  have H1 : Below w.heap.size w (w1.setCell ⟨w.heap.size + 1 + 1, 2, none⟩ (.slice a1 n1 c1)) := (G1.setCell (by simp; omega) _)
  have BX1 : Hid (Blk (w1.setCell ⟨w.heap.size + 1 + 1, 2, none⟩ (.slice a1 n1 c1)) w.heap.size 38 [.int .i64 x.fKind, .int .i64 x.fValue, v2, v3]) := (HBX1.out.other (by dsimp only; omega) (.slice a1 n1 c1))
  have BR1 : Hid (Blk (w1.setCell ⟨w.heap.size + 1 + 1, 2, none⟩ (.slice a1 n1 c1)) (w.heap.size + 1) 46 [.int .i64 0, .int .i64 0, .slice none 0 0, .slice none 0 0]) := (HBR1.out.other (by dsimp only; omega) (.slice a1 n1 c1))
  have BO1 : Hid (Blk (w1.setCell ⟨w.heap.size + 1 + 1, 2, none⟩ (.slice a1 n1 c1)) (w.heap.size + 1 + 1) 46 [.int .i64 x.fKind, .int .i64 x.fValue, .slice a1 n1 c1, .slice none 0 0]) := (HBO1.out.set 2 (.slice a1 n1 c1))
  have Z1 : Hid (w.heap.size + 3 ≤ ((w1.setCell ⟨w.heap.size + 1 + 1, 2, none⟩ (.slice a1 n1 c1))).heap.size) := by have := zz1.out; simpa [Hid, World.setCell] using this
  have OData1 : Hid (Own (w1.setCell ⟨w.heap.size + 1 + 1, 2, none⟩ (.slice a1 n1 c1)) (ints .i64 x.fData) (.slice a1 n1 c1) pData) := (HO1.out.keep fun g hg => Below.heap_setCell _ _ _ _ (by have := ny1.out g hg; simp; omega))
  have NYData := ny1
  have FRData := Lib.hid hf1
  refine (toCoreS_of x.fKids HKK.out _ _ (RrKids.out.below H1) (by have h1 := HW.out; have h2 := HT.out; omega)).mono ?_
  rintro e w2 ⟨a2, n2, c2, pKids, rfl, ho2, hf2, hb2⟩
  have G2 := bnext H1 hb2
  have bx2 := BX1.out.below hb2 BX1.out.lt
  have br2 := BR1.out.below hb2 BR1.out.lt
  have bo2 := BO1.out.below hb2 BO1.out.lt
  have ny2 : Hid (∀ g ∈ pKids, w.heap.size + 3 ≤ g) := fun g hg => Nat.le_trans Z1.out (hf2.1 g hg)
  have zz2 : Hid (w.heap.size + 3 ≤ w2.heap.size) := Nat.le_trans Z1.out hb2.size
  have OData2 : Hid (Own w2 (ints .i64 x.fData) (.slice a1 n1 c1) pData) := OData1.out.keep fun g hg => hb2.block g (OData1.out.lt g hg)
  have co3 := bo2.cell 3
  have fo3 := bo2.free 3
  have co0 := bo2.cell 0
  have co1 := bo2.cell 1
  have co2 := bo2.cell 2
  have cr0 := br2.cell 0
  have fr0 := br2.free 0
  have cr1 := br2.cell 1
  have fr1 := br2.free 1
  have cr2 := br2.cell 2
  have fr2 := br2.free 2
  have cr3 := br2.cell 3
  have fr3 := br2.free 3
  simp only [List.getElem?_cons_zero, List.getElem?_cons_succ] at co0 co1 co2 co3 cr0 cr1 cr2 cr3
  have lw2 := bo2.lt
  have HBX2 := Lib.hid bx2; have HBR2 := Lib.hid br2; have HBO2 := Lib.hid bo2; have HO2 := Lib.hid ho2; clear bx2 br2 bo2 ho2
  go_wp2_with fail
  have OData2 : Hid (Own (w2.setCell ⟨w.heap.size + 1 + 1, 3, none⟩ (.slice a2 n2 c2)) (ints .i64 x.fData) (.slice a1 n1 c1) pData) := (OData2.out.keep fun g hg => Below.heap_setCell _ _ _ _ (by have := NYData.out g hg; simp; omega))
  have OKids2 : Hid (Own (w2.setCell ⟨w.heap.size + 1 + 1, 3, none⟩ (.slice a2 n2 c2)) (D.sl 4 (x.fKids.map TCore.toD)) (.slice a2 n2 c2) pKids) := (HO2.out.keep fun g hg => Below.heap_setCell _ _ _ _ (by have := ny2.out g hg; simp; omega))
  have NYKids := ny2
  have FRKids := Lib.hid hf2
  have bf : Blk (((((w2.setCell ⟨w.heap.size + 1 + 1, 3, none⟩ (.slice a2 n2 c2)).setCell ⟨w.heap.size + 1, 0, none⟩ (.int .i64 x.fKind)).setCell ⟨w.heap.size + 1, 1, none⟩ (.int .i64 x.fValue)).setCell ⟨w.heap.size + 1, 2, none⟩ (.slice a1 n1 c1)).setCell ⟨w.heap.size + 1, 3, none⟩ (.slice a2 n2 c2)) (w.heap.size + 1) 46 [.int .i64 x.fKind, .int .i64 x.fValue, .slice a1 n1 c1, .slice a2 n2 c2] := (((((HBR2.out.other (by dsimp only; omega) (.slice a2 n2 c2)).set 0 (.int .i64 x.fKind)).set 1 (.int .i64 x.fValue)).set 2 (.slice a1 n1 c1)).set 3 (.slice a2 n2 c2))
  have z0 := bf.cell 0
  have z1 := bf.cell 1
  have z2 := bf.cell 2
  have z3 := bf.cell 3
  simp only [List.getElem?_cons_zero, List.getElem?_cons_succ] at z0 z1 z2 z3
  have OFData : Hid (Own (((((w2.setCell ⟨w.heap.size + 1 + 1, 3, none⟩ (.slice a2 n2 c2)).setCell ⟨w.heap.size + 1, 0, none⟩ (.int .i64 x.fKind)).setCell ⟨w.heap.size + 1, 1, none⟩ (.int .i64 x.fValue)).setCell ⟨w.heap.size + 1, 2, none⟩ (.slice a1 n1 c1)).setCell ⟨w.heap.size + 1, 3, none⟩ (.slice a2 n2 c2)) (ints .i64 x.fData) (.slice a1 n1 c1) pData) := ((((OData2.out.keep fun g hg => Below.heap_setCell _ _ _ _ (by have := NYData.out g hg; simp; omega)).keep fun g hg => Below.heap_setCell _ _ _ _ (by have := NYData.out g hg; simp; omega)).keep fun g hg => Below.heap_setCell _ _ _ _ (by have := NYData.out g hg; simp; omega)).keep fun g hg => Below.heap_setCell _ _ _ _ (by have := NYData.out g hg; simp; omega))
  have OFKids : Hid (Own (((((w2.setCell ⟨w.heap.size + 1 + 1, 3, none⟩ (.slice a2 n2 c2)).setCell ⟨w.heap.size + 1, 0, none⟩ (.int .i64 x.fKind)).setCell ⟨w.heap.size + 1, 1, none⟩ (.int .i64 x.fValue)).setCell ⟨w.heap.size + 1, 2, none⟩ (.slice a1 n1 c1)).setCell ⟨w.heap.size + 1, 3, none⟩ (.slice a2 n2 c2)) (D.sl 4 (x.fKids.map TCore.toD)) (.slice a2 n2 c2) pKids) := ((((OKids2.out.keep fun g hg => Below.heap_setCell _ _ _ _ (by have := NYKids.out g hg; simp; omega)).keep fun g hg => Below.heap_setCell _ _ _ _ (by have := NYKids.out g hg; simp; omega)).keep fun g hg => Below.heap_setCell _ _ _ _ (by have := NYKids.out g hg; simp; omega)).keep fun g hg => Below.heap_setCell _ _ _ _ (by have := NYKids.out g hg; simp; omega))
  have FF : Hid (Fresh w.heap.size (pData ++ pKids)) := ((FRData.out.mono H0.size).append FRKids.out H1.size (fun g hg => by exact OData1.out.lt g hg))
  exact bodyPost_ret (v := .agg #[.int .i64 x.fKind, .int .i64 x.fValue, .slice a1 n1 c1, .slice a2 n2 c2]) (by simp [results, Try.results36, go_sem, z0, z1, z2, z3]) rfl ⟨[.int .i64 x.fKind, .int .i64 x.fValue, .slice a1 n1 c1, .slice a2 n2 c2], _, rfl, TCore.own_mk RrKind.out RrValue.out OFData.out OFKids.out, FF.out, (((((G2.setCell (by simp; omega) _).setCell (by simp) _).setCell (by simp) _).setCell (by simp) _).setCell (by simp) _)⟩

theorem toCore_any (x : TCore) : ToOkCore x := by
  have key : ∀ (m : Nat) (x : TCore), x.depth ≤ m → ToOkCore x := by
    intro m
    induction m with
    | zero => intro x hx; exfalso; cases x; simp [TCore.depth] at hx
    | succ m ih => intro x hx; exact toCore_of x fun k hk => ih k (by have := TCore.depth_kid hk; omega)
  exact key x.depth x (Nat.le_refl _)
theorem toCoreS_any (xs : List TCore) : ToSl 49 (.sl 4 (xs.map TCore.toD)) := toCoreS_of xs fun k _ => toCore_any k

/-- What comparing comes to. -/
def EqOkCore (x : TCore) : Prop := ∀ (vs vs2 : List Value) (w : World), Reps w x.toD vs → Reps w x.toD vs2 → Calls Try.prog 40 #[.agg vs.toArray, .agg vs2.toArray] w (EqRet w)

set_option maxRecDepth 8000 in
set_option maxHeartbeats 2000000 in
theorem eqCoreS_of (xs : List TCore) (H : ∀ k ∈ xs, EqOkCore k) : EqSl 53 (.sl 4 (xs.map TCore.toD)) := by
  intro v v' w h h2
  obtain ⟨a, len, cap, rfl, hmx, HL, HM, HC⟩ := h.sl_open
  obtain ⟨a', len', cap', rfl, hmx', HL', HM', HC'⟩ := h2.sl_open
  have HH := Lib.hid H; clear H
  clear h h2 HM HM' hmx'
  obtain rfl : len = len' := HL.out.trans HL'.out.symm
  go_enter Try.func53, Try.ntmps53
  go_wp2_with fail
  go_loopw [5] (fun i wr => ∃ (k : Nat), k ≤ len ∧ i = .int .i64 k ∧ Below w.heap.size w wr) (fun i _ => len - (intOf i).toNat)
  case atStart => exact ⟨0, Nat.zero_le _, rfl, Below.refl _ _⟩
  case round =>
    obtain ⟨k, hk, rfl, hbel⟩ := hrel
    by_cases hlt : k < len
    · obtain ⟨b, off, rfl, hcc⟩ := HC.out k hlt
      obtain ⟨b', off', rfl, hcc2⟩ := HC'.out k hlt
      have HKX : Hid (k < xs.length) := by rw [Hid, ← HL.out]; exact hlt
      obtain ⟨hlen, hrc⟩ := hcc k HKX.out
      obtain ⟨hlen2, hrc2⟩ := hcc2 k HKX.out
      obtain ⟨vs, hvs, hcells⟩ := hrc.vals
      obtain ⟨vs2, hvs2, hcells2⟩ := hrc2.vals
      obtain ⟨y0, y1, y2, y3, rfl⟩ := len4 (hvs.length.symm.trans (TCore.toD_length _))
      have q0 := hcells 0 (by simp)
      have q1 := hcells 1 (by simp)
      have q2 := hcells 2 (by simp)
      have q3 := hcells 3 (by simp)
      simp only [List.getElem_cons_zero, List.getElem_cons_succ, Nat.add_zero] at q0 q1 q2 q3
      replace q0 := Keeps.of_below hbel _ _ q0
      replace q1 := Keeps.of_below hbel _ _ q1
      replace q2 := Keeps.of_below hbel _ _ q2
      replace q3 := Keeps.of_below hbel _ _ q3
      obtain ⟨z0, z1, z2, z3, rfl⟩ := len4 (hvs2.length.symm.trans (TCore.toD_length _))
      have p0 := hcells2 0 (by simp)
      have p1 := hcells2 1 (by simp)
      have p2 := hcells2 2 (by simp)
      have p3 := hcells2 3 (by simp)
      simp only [List.getElem_cons_zero, List.getElem_cons_succ, Nat.add_zero] at p0 p1 p2 p3
      replace p0 := Keeps.of_below hbel _ _ p0
      replace p1 := Keeps.of_below hbel _ _ p1
      replace p2 := Keeps.of_below hbel _ _ p2
      replace p3 := Keeps.of_below hbel _ _ p3
      have HV := Lib.hid hvs
      have HV2 := Lib.hid hvs2
      clear hvs hcells hcc hrc hlen hvs2 hcells2 hcc2 hrc2 hlen2
      have hki : (k : Int) < (len : Int) := by omega
      go_wp2_with fail
      go_still_tail 8, (by kernel_rfl)
      change wpList _ _ _ _ _ (wr.drewN 1)
      go_wp2_with fail
      refine ((HH.out (xs[k]'(HKX.out)) (List.getElem_mem HKX.out)) [y0, y1, y2, y3] [z0, z1, z2, z3] _ ((HV.out.keep (Keeps.of_below hbel)).keep (Keeps.of_below (bdrew 1))) ((HV2.out.keep (Keeps.of_below hbel)).keep (Keeps.of_below (bdrew 1)))).mono ?_
      rintro e w1 ⟨rfl, hb1⟩
      clear q0 p0 q1 p1 q2 p2 q3 p3
      have hbel1 := bnext (hbel.trans (bdrew 1)) hb1
      go_wp2_with fail
      go_roundw
      case rel => exact ⟨k + 1, by omega, by go_num, hbel1⟩
      case measure => simp [intOf]; omega
    · go_wp2_with fail
      go_ret
      exact ⟨rfl, hbel⟩

set_option maxRecDepth 8000 in
set_option maxHeartbeats 2000000 in
theorem eqCore_of (x : TCore) (HK : ∀ k ∈ x.fKids, EqOkCore k) : EqOkCore x := by
  intro vs vs2 w h h2
  obtain ⟨v2, v3, rfl, rKind, rValue, rData, rKids⟩ := TCore.reps_open h
  obtain ⟨z2, z3, rfl, sKind, sValue, sData, sKids⟩ := TCore.reps_open h2
  clear rKind sKind
  clear rValue sValue
  have RrData := Lib.hid rData; clear rData
  have SrData := Lib.hid sData; clear sData
  have RrKids := Lib.hid rKids; clear rKids
  have SrKids := Lib.hid sKids; clear sKids
  have HKK := Lib.hid HK; clear HK
  clear h h2
  have H0 : Below w.heap.size w ((w.alloc (.cells #[.int .i64 x.fKind, .int .i64 x.fValue, v2, v3] 46)).alloc (.cells #[.int .i64 x.fKind, .int .i64 x.fValue, z2, z3] 46)) := (alloc_below w _).alloc (by simp) _
  have BX0 : Hid (Blk ((w.alloc (.cells #[.int .i64 x.fKind, .int .i64 x.fValue, v2, v3] 46)).alloc (.cells #[.int .i64 x.fKind, .int .i64 x.fValue, z2, z3] 46)) w.heap.size 46 [.int .i64 x.fKind, .int .i64 x.fValue, v2, v3]) := (Blk.new w _ [.int .i64 x.fKind, .int .i64 x.fValue, v2, v3]).alloc _
  have BY0 : Hid (Blk ((w.alloc (.cells #[.int .i64 x.fKind, .int .i64 x.fValue, v2, v3] 46)).alloc (.cells #[.int .i64 x.fKind, .int .i64 x.fValue, z2, z3] 46)) (w.heap.size + 1) 46 [.int .i64 x.fKind, .int .i64 x.fValue, z2, z3]) := by have h := Blk.new (w.alloc (.cells #[.int .i64 x.fKind, .int .i64 x.fValue, v2, v3] 46)) 46 [.int .i64 x.fKind, .int .i64 x.fValue, z2, z3]; simpa [Hid] using h
  go_enter Try.func40, Try.ntmps40
  go_wp2_with fail
  refine (eqInt64S_any x.fData _ _ _ (RrData.out.below H0) (SrData.out.below H0)).mono ?_
  rintro e w1 ⟨rfl, hb1⟩
  have H1 := bnext H0 hb1
  have BX1 : Hid (Blk w1 w.heap.size 46 [.int .i64 x.fKind, .int .i64 x.fValue, v2, v3]) := BX0.out.below hb1 BX0.out.lt
  have BY1 : Hid (Blk w1 (w.heap.size + 1) 46 [.int .i64 x.fKind, .int .i64 x.fValue, z2, z3]) := BY0.out.below hb1 BY0.out.lt
  have cx3 := BX1.out.cell 3
  have cy3 := BY1.out.cell 3
  simp only [List.getElem?_cons_zero, List.getElem?_cons_succ] at cx3 cy3
  go_wp2_with fail
  clear cx3 cy3
  refine (eqCoreS_of x.fKids HKK.out _ _ _ (RrKids.out.below H1) (SrKids.out.below H1)).mono ?_
  rintro e w2 ⟨rfl, hb2⟩
  have H2 := bnext H1 hb2
  have BX2 : Hid (Blk w2 w.heap.size 46 [.int .i64 x.fKind, .int .i64 x.fValue, v2, v3]) := BX1.out.below hb2 BX1.out.lt
  have BY2 : Hid (Blk w2 (w.heap.size + 1) 46 [.int .i64 x.fKind, .int .i64 x.fValue, z2, z3]) := BY1.out.below hb2 BY1.out.lt
  go_wp2_with fail
  go_ret
  exact ⟨rfl, H2⟩

theorem eqCore_any (x : TCore) : EqOkCore x := by
  have key : ∀ (m : Nat) (x : TCore), x.depth ≤ m → EqOkCore x := by
    intro m
    induction m with
    | zero => intro x hx; exfalso; cases x; simp [TCore.depth] at hx
    | succ m ih => intro x hx; exact eqCore_of x fun k hk => ih k (by have := TCore.depth_kid hk; omega)
  exact key x.depth x (Nat.le_refl _)
theorem eqCoreS_any (xs : List TCore) : EqSl 53 (.sl 4 (xs.map TCore.toD)) := eqCoreS_of xs fun k _ => eqCore_any k

end Go.Proofs.Ytmcnnjelajgkjaa
