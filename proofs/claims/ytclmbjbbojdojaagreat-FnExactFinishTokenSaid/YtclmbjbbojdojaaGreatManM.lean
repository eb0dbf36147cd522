/-
  m[k]++ in a region whose order is drawn, in the model itself.
-/
import Derived.Test.YtclmbjbbojdojaaGreatAbY
import Derived.Test.YtclmbjbbojdojaaGreatTi2
import Derived.WalkKit
namespace Go.Proofs.YtclmbjbbojdojaaGreat.Ab
set_option linter.unusedVariables false
set_option maxRecDepth 20000
set_option maxHeartbeats 4000000
open Go.RowKit
noncomputable def Uq:Code→List Nat→List Oper
  | .region _ ops _,_=>ops.toList
  | .seq a b,0::p=>Uq a p
  | .seq a b,_::p=>Uq b p
  | .block _ c,p=>Uq c p
  | .loop c,p=>Uq c p
  | .cond _ a b,0::p=>Uq a p
  | .cond _ a b,_::p=>Uq b p
  |_,_=>[]
noncomputable def mE:List Oper:=Uq (Tryz.f233.body.getD .skip) [1,1,0,1,1,1,0,1,1,1,1,0,1,1,0]
noncomputable def DH:Array Oper:=mE.toArray
def gF (i:Nat):List Nat:=[[],[],[1],[0,2],[3],[0,2,1],[5],[0,6,4,5,1,2,3]].getD i []
theorem Ur:DH.size=8:=by rfl
theorem gG:((List.range 8).all fun i=>((DH[i]?).map fun o=>(gF i).all fun j=>o.after.any fun e=>Region.binds .any e&&e.on == j).getD false)=true:=by kernel_rfl
theorem gH:((List.range 8).all fun i=>((DH[i]?).map fun o=>o.after.all fun e=> !Region.binds .any e||decide (e.on<i)).getD false)=true:=by kernel_rfl
theorem Wj {L:Array Bool} {i:Nat} (h:i ∈ Region.ready .any DH L):i<8∧L.getD i true=false∧∀j ∈ gF i,L.getD j false=true:=by
  unfold Region.ready at h
  rw [Ur,List.mem_filter,List.mem_range] at h
  obtain⟨h1,h2⟩:=h
  simp only [Bool.and_eq_true,Bool.not_eq_true'] at h2
  refine⟨h1,h2.1,fun j hj=>?_⟩
  have h3:=gG
  rw [List.all_eq_true] at h3
  have h3:=h3 i (List.mem_range.2 h1)
  cases ho:DH[i]? with
  |none=>rw [ho] at h3; cases h3
  | some o=>
    rw [ho] at h3
    have h2:=h2.2
    rw [ho] at h2
    simp only [Option.map_some,Option.getD_some] at h2 h3
    rw [List.all_eq_true] at h3
    have h4:=h3 j hj
    rw [Array.any_eq_true] at h4
    obtain⟨q,hq,h5⟩:=h4
    rw [Array.all_eq_true] at h2
    have h6:=h2 q hq
    simp only [Bool.and_eq_true,beq_iff_eq] at h5
    rw [h5.1,h5.2] at h6
    simpa using h6
theorem gI {L:Array Bool} (hs:L.size=8) (h:Region.ready .any DH L=[]):∀i,i<8→L.getD i false=true:=by
  intro i
  induction i using Nat.strongRecOn with
  | ind i ih=>
    intro hi
    cases hL:L.getD i false with
    |true=>rfl
    | false=>
      have hmem:i ∈ Region.ready .any DH L:=by
        unfold Region.ready
        rw [Ur,List.mem_filter,List.mem_range]
        refine⟨hi,?_⟩
        have hLt:L.getD i true=false:=by
          simp only [Array.getD] at hL ⊢
          rw [dif_pos (by omega)] at hL ⊢
          exact hL
        have h3:=gH
        rw [List.all_eq_true] at h3
        have h3:=h3 i (List.mem_range.2 hi)
        cases ho:DH[i]? with
        |none=>rw [ho] at h3; cases h3
        | some o=>
          rw [ho] at h3
          simp only [Option.map_some,Option.getD_some] at h3 ⊢
          rw [hLt,Bool.not_false,Bool.true_and]
          rw [Array.all_eq_true] at h3 ⊢
          intro q hq
          have:=h3 q hq
          simp only [Bool.or_eq_true,Bool.not_eq_true',decide_eq_true_eq] at this ⊢
          rcases this with h4|h4
          · exact .inl h4
          · exact .inr (ih _ h4 (by omega))
      rw [h] at hmem
      cases hmem
theorem mF:∃o,DH[0]? =some o∧o.dst=some 28∧o.op= .move (.tmp 3)∧o.guard=none:=⟨_,rfl,rfl,rfl,rfl⟩
theorem mG:∃o,DH[1]? =some o∧o.dst=some 29∧o.op= .fieldAddr 226 (.tmp 7) 0∧o.guard=none:=⟨_,rfl,rfl,rfl,rfl⟩
theorem mH:∃o,DH[2]? =some o∧o.dst=some 30∧o.op= .load 29 (.tmp 29)∧o.guard=none:=⟨_,rfl,rfl,rfl,rfl⟩
theorem mI:∃o,DH[3]? =some o∧o.dst=some 31∧o.op= .lookup 294 (.tmp 28) (.tmp 30) false∧o.guard=none:=⟨_,rfl,rfl,rfl,rfl⟩
theorem mJ:∃o,DH[4]? =some o∧o.dst=some 32∧o.op= .binOp .add 3 (.tmp 31) (.const (.int .i64 1)) 3∧o.guard=none:=⟨_,rfl,rfl,rfl,rfl⟩
theorem mK:∃o,DH[5]? =some o∧o.dst=some 33∧o.op= .mapEntry 294 (.tmp 28) (.tmp 30)∧o.guard=none:=⟨_,rfl,rfl,rfl,rfl⟩
theorem gJ:∃o,DH[6]? =some o∧o.dst=some 34∧o.op= .extract (.tmp 33) 1∧o.guard=none:=⟨_,rfl,rfl,rfl,rfl⟩
theorem mL:∃o,DH[7]? =some o∧o.dst=none∧o.op= .entryStore 294 (.tmp 28) (.tmp 34) (.tmp 32)∧o.guard=none:=⟨_,rfl,rfl,rfl,rfl⟩
theorem dj {w:World} {X O:Nat}:(Instr.fieldAt 226 (.pointer (some ⟨X,O,none⟩)) 0).run Tryz.prog w= .ok (.pointer (some ⟨X,O,none⟩)) w:=by
  have hf:fOff Tryz.prog 226 0=some (0,29):=by kernel_rfl
  have hz:0<tsz Tryz.prog 29:=by rw [pm]; decide
  have key:∀q,fOff Tryz.prog 226 0=some q→0<tsz Tryz.prog q.2 →∀g o,(Instr.fieldAt 226 (.pointer (some ⟨g,o,none⟩)) 0).run Tryz.prog w= .ok (.pointer (some ⟨g,o+q.1,none⟩)) w:=by
    intro q hq hz g o
    unfold fOff at hq
    split at hq
    · rename_i fs hfs
      obtain⟨gs,hgs,rfl⟩:=X8 hfs
      rw [List.getElem?_map,Array.getElem?_toList] at hq
      cases hg:gs[0]? with
      |none=>grind
      | some fd=>
        simp only [hg,Option.map_some,Option.some.injEq] at hq
        subst hq
        have hz':tsz Tryz.prog fd.type≠0:=by grind
        simp_all [Instr.fieldAt,run_underlying,Instr.sureAddr,fieldPlace,DZ,Addr.add_lit]
    grind
  exact key _ hf hz X O
theorem gK {w:World} {X O:Nat} {m k i:Int} (c0:w.cell? ⟨X,O,none⟩=some (.int .i64 m)) (c1:w.cell? ⟨X,O+1,none⟩=some (.int .i64 k)) (c2:w.cell? ⟨X,O+2,none⟩=some (.int .i64 i)):
    (Instr.loadAt 29 (.pointer (some ⟨X,O,none⟩))).run Tryz.prog w= .ok (.agg #[.int .i64 m,.int .i64 k,.int .i64 i]) w:=by
  refine Ko (us:=[.int .i64 m,.int .i64 k,.int .i64 i]) (by rw [tH]; rfl) (by rw [pm]; rfl) fun j u hu=>?_
  match j,hu with
  |0,hu=>cases hu; exact c0
  |1,hu=>cases hu; exact c1
  |2,hu=>cases hu; exact c2
  |j+3,hu=>simp at hu
theorem KF {P:Program} {Q:Exit→Act→World→Prop} {K:Act→World→Prop} {a:Act} {w w':World} {i:Nat} {o:Oper} {v:Value} (ho:DH[i]? =some o) (hg:o.guard=none) (hr:(execOp a.eval o).run P w= .ok (.value v) w') (hK:K (a.put o.dst v) w'):wpOp P DH Q i K a w:=by
  unfold wpOp
  rw [ho]
  simp only [Region.wanted,hg,if_true]
  left
  unfold Oper.wp
  rw [hr]
  exact hK
theorem dl {P:Program} {Q:Exit→Act→World→Prop} {K:Act→World→Prop} {a:Act} {w w':World} {i:Nat} {o:Oper} (ho:DH[i]? =some o) (hg:o.guard=none) (hr:(execOp a.eval o).run P w= .ok .skip w') (hK:K (a.put o.dst undef) w'):wpOp P DH Q i K a w:=by
  unfold wpOp
  rw [ho]
  simp only [Region.wanted,hg,if_true]
  left
  unfold Oper.wp
  rw [hr]
  exact hK
section
variable (x0 x1 x2 x3 x4 x5 x6 x7 x8 x9 x10 x11 x12 x13 x14 x15 x16 x17 x18 x19 x20 x21 x22 x23 x24 x25 x26 x27:Value) (xr:List Value)
def Hd (y28 y29 y30 y31 y32 y33 y34:Value):Act:= {tmps:=(x0::x1::x2::x3::x4::x5::x6::x7::x8::x9::x10::x11::x12::x13::x14::x15::x16::x17::x18::x19::x20::x21::x22::x23::x24::x25::x26::x27::y28::y29::y30::y31::y32::y33::y34::xr).toArray,defers:=[]}
end
structure IncInv (w1 W2 W4:World) (B X O:Nat) (key v v1 v0 st:Value) (L:Nat→Bool) (y28 y29 y30 y31 y32 y33 y34:Value) (w:World):Prop where
  i0:L 0=true→y28= .map (some B)
  i1:L 1=true→y29= .pointer (some ⟨X,O,none⟩)
  i2:L 2=true→y30=key
  i3:L 3=true→y31=v
  i4:L 4=true→y32=v1
  i5:L 5=true→y33= .tuple #[v0,st]
  i6:L 6=true→y34=st
  c5:L 5=true→L 2=true∧L 0=true
  c7:L 7=true→L 3=true∧L 5=true∧L 2=true
  hw:w=if L 7=true then W4 else if L 5=true then W2 else w1
theorem jS (w1 W2 W4:World) (B X O:Nat) (m k i v:Int) (v0:Value) (st:Nat) (x0 x1 x2 x3 x4 x5 x6 x7 x8 x9 x10 x11 x12 x13 x14 x15 x16 x17 x18 x19 x20 x21 x22 x23 x24 x25 x26 x27:Value) (xr:List Value) (Q:Exit→Act→World→Prop)
    (h3:x3= .map (some B)) (h7:x7= .pointer (some ⟨X,O,none⟩))
    (c0:w1.cell? ⟨X,O,none⟩=some (.int .i64 m)) (c1:w1.cell? ⟨X,O+1,none⟩=some (.int .i64 k)) (c2:w1.cell? ⟨X,O+2,none⟩=some (.int .i64 i))
    (hl:(Instr.lookup 294 (.map (some B)) (.agg #[.int .i64 m,.int .i64 k,.int .i64 i]) false).run Tryz.prog w1= .ok (.int .i64 v) w1)
    (he:(Instr.mapEntry 294 (.map (some B)) (.agg #[.int .i64 m,.int .i64 k,.int .i64 i])).run Tryz.prog w1= .ok (.tuple #[v0,.int .i64 st]) W2)
    (hl2:(Instr.lookup 294 (.map (some B)) (.agg #[.int .i64 m,.int .i64 k,.int .i64 i]) false).run Tryz.prog W2= .ok (.int .i64 v) W2)
    (hs:(Instr.entryStore 294 (.map (some B)) (.int .i64 st) (.int .i64 (IntKind.i64.wrap (v+1)))).run Tryz.prog W2= .ok () W4)
    (hQ:∀y28 y29 y30 y31 y32 y33 y34,Q .normal (Hd x0 x1 x2 x3 x4 x5 x6 x7 x8 x9 x10 x11 x12 x13 x14 x15 x16 x17 x18 x19 x20 x21 x22 x23 x24 x25 x26 x27 xr y28 y29 y30 y31 y32 y33 y34) W4):
    ∀ (fuel:Nat) (L:Array Bool) (y28 y29 y30 y31 y32 y33 y34:Value) (w:World),L.size=8→fuel=L.toList.count false→
      IncInv w1 W2 W4 B X O (.agg #[.int .i64 m,.int .i64 k,.int .i64 i]) (.int .i64 v) (.int .i64 (IntKind.i64.wrap (v+1))) v0 (.int .i64 st) (fun j=>L.getD j false) y28 y29 y30 y31 y32 y33 y34 w→
      wpAny Tryz.prog .any DH Q fuel L (Hd x0 x1 x2 x3 x4 x5 x6 x7 x8 x9 x10 x11 x12 x13 x14 x15 x16 x17 x18 x19 x20 x21 x22 x23 x24 x25 x26 x27 xr y28 y29 y30 y31 y32 y33 y34) w:=by
  have fin:∀ (L:Array Bool) (y28 y29 y30 y31 y32 y33 y34:Value) (w:World),L.size=8→IncInv w1 W2 W4 B X O (.agg #[.int .i64 m,.int .i64 k,.int .i64 i]) (.int .i64 v) (.int .i64 (IntKind.i64.wrap (v+1))) v0 (.int .i64 st) (fun j=>L.getD j false) y28 y29 y30 y31 y32 y33 y34 w→Region.ready .any DH L=[] →Q .normal (Hd x0 x1 x2 x3 x4 x5 x6 x7 x8 x9 x10 x11 x12 x13 x14 x15 x16 x17 x18 x19 x20 x21 x22 x23 x24 x25 x26 x27 xr y28 y29 y30 y31 y32 y33 y34) w:=by
    intro L y28 y29 y30 y31 y32 y33 y34 w hL hI hr
    have h:=hI.hw
    have h7:=gI hL hr 7 (by omega)
    simp only [h7] at h
    rw [h]
    exact hQ y28 y29 y30 y31 y32 y33 y34
  intro fuel
  induction fuel with
  | zero=>
    intro L y28 y29 y30 y31 y32 y33 y34 w hL hf hI
    have hr:Region.ready .any DH L=[] :=by
      cases hr:Region.ready .any DH L with
      |nil=>rfl
      | cons j l=>
        obtain⟨h1,h2,-⟩:=Wj (i:=j) (by rw [hr]; simp)
        have:false ∈ L.toList:=by
          simp only [Array.getD] at h2
          rw [dif_pos (by omega)] at h2
          rw [← h2]
          exact Array.mem_toList_iff.2 (Array.getElem_mem _)
        have:=List.count_pos_iff.2 this
        omega
    exact⟨hr,fin L y28 y29 y30 y31 y32 y33 y34 w hL hI hr⟩
  | succ fuel ih=>
    intro L y28 y29 y30 y31 y32 y33 y34 w hL hf hI
    refine⟨fin L y28 y29 y30 y31 y32 y33 y34 w hL hI,fun j hj=>?_⟩
    obtain⟨h8,hjf,hd⟩:=Wj hj
    have hcount:fuel=(L.setIfInBounds j true).toList.count false:=by
      have hlt:j<L.toList.length:=by simpa [hL] using h8
      rw [Array.toList_setIfInBounds,List.count_set hlt]
      have:L.toList[j] =false:=by
        simp only [Array.getD] at hjf
        rw [dif_pos (by omega)] at hjf
        simpa using hjf
      rw [this]
      show fuel=L.toList.count false - 1+0
      omega
    have hget:∀q,(L.setIfInBounds j true).getD q false=if q=j then true else L.getD q false:=by
      intro q
      simp only [Array.getD,Array.size_setIfInBounds]
      by_cases hq:q<L.size
      · rw [dif_pos hq,dif_pos hq]
        simp only [Array.getInternal_eq_getElem]
        rw [Array.getElem_setIfInBounds (by simpa using hq)]
        by_cases e:j=q
        · subst e; simp
        · rw [if_neg e,if_neg (fun h=>e h.symm)]
      · rw [dif_neg hq,dif_neg hq,if_neg (by omega)]
    have hsz:(L.setIfInBounds j true).size =8:=by simpa using hL
    have go:∀y28 y29 y30 y31 y32 y33 y34 w',IncInv w1 W2 W4 B X O (.agg #[.int .i64 m,.int .i64 k,.int .i64 i]) (.int .i64 v) (.int .i64 (IntKind.i64.wrap (v+1))) v0 (.int .i64 st) (fun q=>if q=j then true else L.getD q false) y28 y29 y30 y31 y32 y33 y34 w'→wpAny Tryz.prog .any DH Q fuel (L.setIfInBounds j true) (Hd x0 x1 x2 x3 x4 x5 x6 x7 x8 x9 x10 x11 x12 x13 x14 x15 x16 x17 x18 x19 x20 x21 x22 x23 x24 x25 x26 x27 xr y28 y29 y30 y31 y32 y33 y34) w':=by
      intro y28 y29 y30 y31 y32 y33 y34 w' hI'
      refine ih _ y28 y29 y30 y31 y32 y33 y34 w' hsz hcount ?_
      have e:(fun q=>(L.setIfInBounds j true).getD q false)=fun q=>if q=j then true else L.getD q false:=funext hget
      rw [e]; exact hI'
    have hjf':L.getD j false=false:=by
      simp only [Array.getD] at hjf ⊢
      rw [dif_pos (by omega)] at hjf ⊢
      exact hjf
    obtain⟨i0,i1,i2,i3,i4,i5,i6,c5,c7,hw⟩:=hI
    have hj8:j=0∨j=1∨j=2∨j=3∨j=4∨j=5∨j=6∨j=7:=by omega
    rcases hj8 with rfl|rfl|rfl|rfl|rfl|rfl|rfl|rfl
    · obtain⟨o,ho,hdst,hop,hg⟩:=mF
      refine KF (v:=(.map (some B))) (w':=w) ho hg (by simp [execOp,hop,Act.eval,Hd,h3]) ?_
      rw [hdst]
      exact go (.map (some B)) y29 y30 y31 y32 y33 y34 w ⟨fun _=>rfl,fun h=>i1 (by simpa using h),fun h=>i2 (by simpa using h),fun h=>i3 (by simpa using h),fun h=>i4 (by simpa using h),fun h=>i5 (by simpa using h),fun h=>i6 (by simpa using h),fun h=>by have:=c5 (by simpa using h); simp [this],fun h=>by have:=c7 (by simpa using h); simp [this],by simpa using hw⟩
    · obtain⟨o,ho,hdst,hop,hg⟩:=mG
      refine KF (v:=(.pointer (some ⟨X,O,none⟩))) (w':=w) ho hg (by simp [execOp,hop,Act.eval,Hd,h7,dj]) ?_
      rw [hdst]
      exact go y28 (.pointer (some ⟨X,O,none⟩)) y30 y31 y32 y33 y34 w ⟨fun h=>i0 (by simpa using h),fun _=>rfl,fun h=>i2 (by simpa using h),fun h=>i3 (by simpa using h),fun h=>i4 (by simpa using h),fun h=>i5 (by simpa using h),fun h=>i6 (by simpa using h),fun h=>by have:=c5 (by simpa using h); simp [this],fun h=>by have:=c7 (by simpa using h); simp [this],by simpa using hw⟩
    · obtain⟨o,ho,hdst,hop,hg⟩:=mH
      have d1:L.getD 1 false=true:=hd 1 (by decide)
      have n5:L.getD 5 false=false:=by
        cases h5:L.getD 5 false with
        |false=>rfl
        |true=>have:=(c5 h5).1; simp_all
      have n7:L.getD 7 false=false:=by
        cases h7':L.getD 7 false with
        |false=>rfl
        |true=>have:=(c7 h7').2.2; simp_all
      simp only [n7,n5] at hw
      have hw:w=w1:=by simpa using hw
      subst hw
      refine KF (v:=(.agg #[.int .i64 m,.int .i64 k,.int .i64 i])) (w':=w) ho hg (by simp [execOp,hop,Act.eval,Hd,i1 d1,gK c0 c1 c2,Result.andThen]) ?_
      rw [hdst]
      exact go y28 y29 (.agg #[.int .i64 m,.int .i64 k,.int .i64 i]) y31 y32 y33 y34 w ⟨fun h=>i0 (by simpa using h),fun h=>i1 (by simpa using h),fun _=>rfl,fun h=>i3 (by simpa using h),fun h=>i4 (by simpa using h),fun h=>i5 (by simpa using h),fun h=>i6 (by simpa using h),fun h=>by have:=c5 (by simpa using h); simp [this],fun h=>by have:=c7 (by simpa using h); simp [this],by simp [n7,n5]⟩
    · obtain⟨o,ho,hdst,hop,hg⟩:=mI
      have d0:L.getD 0 false=true:=hd 0 (by decide)
      have d2:L.getD 2 false=true:=hd 2 (by decide)
      have n7:L.getD 7 false=false:=by
        cases h7':L.getD 7 false with
        |false=>rfl
        |true=>have:=(c7 h7').1; simp_all
      have hlw : (Instr.lookup 294 (.map (some B)) (.agg #[.int .i64 m,.int .i64 k,.int .i64 i]) false).run Tryz.prog w= .ok (.int .i64 v) w:=by
        simp only [n7] at hw
        cases h5:L.getD 5 false with
        | false => rw [h5] at hw; have:w=w1:=by simpa using hw
                   rw [this]; exact hl
        | true => rw [h5] at hw; have:w=W2:=by simpa using hw
                  rw [this]; exact hl2
      refine KF (v:=(.int .i64 v)) (w':=w) ho hg (by simp [execOp,hop,Act.eval,Hd,i0 d0,i2 d2,hlw]) ?_
      rw [hdst]
      exact go y28 y29 y30 (.int .i64 v) y32 y33 y34 w ⟨fun h=>i0 (by simpa using h),fun h=>i1 (by simpa using h),fun h=>i2 (by simpa using h),fun _=>rfl,fun h=>i4 (by simpa using h),fun h=>i5 (by simpa using h),fun h=>i6 (by simpa using h),fun h=>by have:=c5 (by simpa using h); simp [this],fun h=>by have:=c7 (by simpa using h); simp [this],by simpa using hw⟩
    · obtain⟨o,ho,hdst,hop,hg⟩:=mJ
      have d3:L.getD 3 false=true:=hd 3 (by decide)
      refine KF (v:=(.int .i64 (IntKind.i64.wrap (v+1)))) (w':=w) ho hg (by simp [execOp,hop,Act.eval,Hd,i3 d3,eqGuard,binOp,Op.intArith]) ?_
      rw [hdst]
      exact go y28 y29 y30 y31 (.int .i64 (IntKind.i64.wrap (v+1))) y33 y34 w ⟨fun h=>i0 (by simpa using h),fun h=>i1 (by simpa using h),fun h=>i2 (by simpa using h),fun h=>i3 (by simpa using h),fun _=>rfl,fun h=>i5 (by simpa using h),fun h=>i6 (by simpa using h),fun h=>by have:=c5 (by simpa using h); simp [this],fun h=>by have:=c7 (by simpa using h); simp [this],by simpa using hw⟩
    · obtain⟨o,ho,hdst,hop,hg⟩:=mK
      have d0:L.getD 0 false=true:=hd 0 (by decide)
      have d2:L.getD 2 false=true:=hd 2 (by decide)
      have d1:L.getD 1 false=true:=hd 1 (by decide)
      have n5:=hjf'
      have n7:L.getD 7 false=false:=by
        cases h7':L.getD 7 false with
        |false=>rfl
        |true=>have:=(c7 h7').2.1; simp_all
      simp only [n7,n5] at hw
      have hw:w=w1:=by simpa using hw
      subst hw
      refine KF (v:=(.tuple #[v0,.int .i64 st])) (w':=W2) ho hg (by simp [execOp,hop,Act.eval,Hd,i0 d0,i2 d2,he]) ?_
      rw [hdst]
      exact go y28 y29 y30 y31 y32 (.tuple #[v0,.int .i64 st]) y34 W2 ⟨fun h=>i0 (by simpa using h),fun h=>i1 (by simpa using h),fun h=>i2 (by simpa using h),fun h=>i3 (by simpa using h),fun h=>i4 (by simpa using h),fun _=>rfl,fun h=>i6 (by simpa using h),fun _=>⟨by simp [d2],by simp [d0]⟩,fun h=>by have:=c7 (by simpa using h); simp [this],by simp [n7]⟩
    · obtain⟨o,ho,hdst,hop,hg⟩:=gJ
      have d5:L.getD 5 false=true:=hd 5 (by decide)
      refine KF (v:=(.int .i64 st)) (w':=w) ho hg (by simp [execOp,hop,Act.eval,Hd,i5 d5,Instr.extract]) ?_
      rw [hdst]
      exact go y28 y29 y30 y31 y32 y33 (.int .i64 st) w ⟨fun h=>i0 (by simpa using h),fun h=>i1 (by simpa using h),fun h=>i2 (by simpa using h),fun h=>i3 (by simpa using h),fun h=>i4 (by simpa using h),fun h=>i5 (by simpa using h),fun _=>rfl,fun h=>by have:=c5 (by simpa using h); simp [this],fun h=>by have:=c7 (by simpa using h); simp [this],by simpa using hw⟩
    · obtain⟨o,ho,hdst,hop,hg⟩:=mL
      have d0:L.getD 0 false=true:=hd 0 (by decide)
      have d6:L.getD 6 false=true:=hd 6 (by decide)
      have d4:L.getD 4 false=true:=hd 4 (by decide)
      have d5:L.getD 5 false=true:=hd 5 (by decide)
      have d1:L.getD 1 false=true:=hd 1 (by decide)
      have d2:L.getD 2 false=true:=hd 2 (by decide)
      have d3:L.getD 3 false=true:=hd 3 (by decide)
      have n7:=hjf'
      simp only [n7,d5] at hw
      have hw:w=W2:=by simpa using hw
      subst hw
      refine dl (w':=W4) ho hg (by simp [execOp,hop,Act.eval,Hd,i0 d0,i6 d6,i4 d4,hs]) ?_
      rw [hdst]
      exact go y28 y29 y30 y31 y32 y33 y34 W4 ⟨fun h=>i0 (by simpa using h),fun h=>i1 (by simpa using h),fun h=>i2 (by simpa using h),fun h=>i3 (by simpa using h),fun h=>i4 (by simpa using h),fun h=>i5 (by simpa using h),fun h=>i6 (by simpa using h),fun h=>by have:=c5 (by simpa using h); simp [this],fun _=>⟨by simp [d3],by simp [d5],by simp [d2]⟩,by simp⟩
theorem BE {n:Nat} {l:List Value} (h:n+1≤l.length):∃x t,n≤t.length∧l=x::t:=by
  cases l with
  |nil=>simp at h
  |cons x t=>exact⟨x,t,by simpa using h,rfl⟩
theorem mM (l:List Value) (h0:35≤l.length):∃x0 x1 x2 x3 x4 x5 x6 x7 x8 x9 x10 x11 x12 x13 x14 x15 x16 x17 x18 x19 x20 x21 x22 x23 x24 x25 x26 x27 x28 x29 x30 x31 x32 x33 x34 xr,l=x0::x1::x2::x3::x4::x5::x6::x7::x8::x9::x10::x11::x12::x13::x14::x15::x16::x17::x18::x19::x20::x21::x22::x23::x24::x25::x26::x27::x28::x29::x30::x31::x32::x33::x34::xr:=by
  obtain⟨x0,l1,h1,e0⟩:=BE h0
  obtain⟨x1,l2,h2,e1⟩:=BE h1
  obtain⟨x2,l3,h3,e2⟩:=BE h2
  obtain⟨x3,l4,h4,e3⟩:=BE h3
  obtain⟨x4,l5,h5,e4⟩:=BE h4
  obtain⟨x5,l6,h6,e5⟩:=BE h5
  obtain⟨x6,l7,h7,e6⟩:=BE h6
  obtain⟨x7,l8,h8,e7⟩:=BE h7
  obtain⟨x8,l9,h9,e8⟩:=BE h8
  obtain⟨x9,l10,h10,e9⟩:=BE h9
  obtain⟨x10,l11,h11,e10⟩:=BE h10
  obtain⟨x11,l12,h12,e11⟩:=BE h11
  obtain⟨x12,l13,h13,e12⟩:=BE h12
  obtain⟨x13,l14,h14,e13⟩:=BE h13
  obtain⟨x14,l15,h15,e14⟩:=BE h14
  obtain⟨x15,l16,h16,e15⟩:=BE h15
  obtain⟨x16,l17,h17,e16⟩:=BE h16
  obtain⟨x17,l18,h18,e17⟩:=BE h17
  obtain⟨x18,l19,h19,e18⟩:=BE h18
  obtain⟨x19,l20,h20,e19⟩:=BE h19
  obtain⟨x20,l21,h21,e20⟩:=BE h20
  obtain⟨x21,l22,h22,e21⟩:=BE h21
  obtain⟨x22,l23,h23,e22⟩:=BE h22
  obtain⟨x23,l24,h24,e23⟩:=BE h23
  obtain⟨x24,l25,h25,e24⟩:=BE h24
  obtain⟨x25,l26,h26,e25⟩:=BE h25
  obtain⟨x26,l27,h27,e26⟩:=BE h26
  obtain⟨x27,l28,h28,e27⟩:=BE h27
  obtain⟨x28,l29,h29,e28⟩:=BE h28
  obtain⟨x29,l30,h30,e29⟩:=BE h29
  obtain⟨x30,l31,h31,e30⟩:=BE h30
  obtain⟨x31,l32,h32,e31⟩:=BE h31
  obtain⟨x32,l33,h33,e32⟩:=BE h32
  obtain⟨x33,l34,h34,e33⟩:=BE h33
  obtain⟨x34,l35,h35,e34⟩:=BE h34
  exact⟨x0,x1,x2,x3,x4,x5,x6,x7,x8,x9,x10,x11,x12,x13,x14,x15,x16,x17,x18,x19,x20,x21,x22,x23,x24,x25,x26,x27,x28,x29,x30,x31,x32,x33,x34,l35,by rw [e0,e1,e2,e3,e4,e5,e6,e7,e8,e9,e10,e11,e12,e13,e14,e15,e16,e17,e18,e19,e20,e21,e22,e23,e24,e25,e26,e27,e28,e29,e30,e31,e32,e33,e34]⟩
def Wl (σ:St) (b:Nat) (w:List (List Int × Int)):St:=⟨[(28,.any),(29,.any),(30,.any),(31,.any),(32,.any),(33,.any),(34,.any)] ++σ.s,σ.t,(b,some [.mpc (.wide [.i64,.i64,.i64]) (w.map Im)])::σ.b⟩
@[go_sem] theorem pn {s:List (Nat × AV)} {t} {b'} {b:Nat} {w:List (List Int × Int)}:Wl ⟨s,t,b'⟩ b w=⟨(28,.any)::(29,.any)::(30,.any)::(31,.any)::(32,.any)::(33,.any)::(34,.any)::s,t,(b,some [.mpc (.wide [.i64,.i64,.i64]) (w.map Im)])::b'⟩:=rfl
theorem jT {l w:List (List Int × Int)} {b bx:Nat} {m k i:Int} {rest:List AV} {σ:St} (h3:σ.g 3= .mpr b) (hb:σ.B b=some [.mpc (.wide [.i64,.i64,.i64]) (l.map Im)]) (h7:σ.g 7= .box bx 0) (hx:σ.B bx=some (.int .i64 m:: .int .i64 k:: .int .i64 i::rest))
    (hw:PL l [m,k,i] (IntKind.i64.wrap ((EM l [m,k,i]).getD 0+1))=some w):kX Tryz.prog DH σ fun σ'=>σ'=Wl σ b w:=by
  intro cx N id a w0 hP hN hs
  obtain⟨γ,hs⟩:=hs
  have hN34:34<N:=by
    obtain⟨o,ho,hd,-⟩:=gJ
    refine hN o ?_ 34 hd
    rw [← Array.getElem?_toList] at ho
    exact List.mem_of_getElem? ho
  obtain⟨⟨tm⟩,df⟩:=a
  have hdf:df=[] :=hs.df
  subst hdf
  have hlen:tm.length=N:=hs.n
  obtain⟨x0,x1,x2,x3,x4,x5,x6,x7,x8,x9,x10,x11,x12,x13,x14,x15,x16,x17,x18,x19,x20,x21,x22,x23,x24,x25,x26,x27,x28,x29,x30,x31,x32,x33,x34,xr,rfl⟩:=mM tm (by omega)
  have v3:=hs.sl 3
  rw [h3] at v3
  simp only [VSim] at v3
  obtain⟨hbl,v3⟩:=v3
  have v7:=hs.sl 7
  rw [h7] at v7
  simp only [VSim] at v7
  obtain⟨hxl,v7⟩:=v7
  have v3:x3= .map (some (γ.bb b)):=v3
  have v7:x7= .pointer (some ⟨γ.bb bx,γ.bo bx,none⟩):=v7
  obtain⟨us,k1,k2⟩:=hs.os.box bx _ hxl hx
  simp only [AH,VSim] at k1
  obtain⟨u0,us0,rfl,⟨e0,f0⟩,u1,us1,rfl,⟨e1,f1⟩,u2,us2,rfl,⟨e2,f2⟩,-⟩:=k1
  subst e0 e1 e2
  have k3:=k2.cells (eM)
  have c0:=k3.cell (j:=0) rfl
  have c1:=k3.cell (j:=1) rfl
  have c2:=k3.cell (j:=2) rfl
  rw [Nat.add_zero] at c0
  obtain⟨es,clock,m1,m2,m3,m4⟩:=Te hs.os hbl hb
  have hs1:Sim cx N γ σ {tmps:=(x0::x1::x2::x3::x4::x5::x6::x7::x8::x9::x10::x11::x12::x13::x14::x15::x16::x17::x18::x19::x20::x21::x22::x23::x24::x25::x26::x27::x28::x29::x30::x31::x32::x33::x34::xr).toArray,defers:=[]} {w0 with drawn:=w0.drawn+1}:=⟨hs.os.below ((Below.refl _ w0).drew),hs.sl,hs.td,hs.bd,hs.df,hs.n⟩
  have hkey:keyD (.agg [.int .i64 m,.int .i64 k,.int .i64 i])=some (.ptr (keyI [m,k,i])):=rfl
  have hkv:VSim γ.vw γ (.agg [.int .i64 m,.int .i64 k,.int .i64 i]) (.agg #[.int .i64 m,.int .i64 k,.int .i64 i]):=by
    simp only [VSim,AH]
    exact⟨[_,_,_],rfl,_,_,rfl,⟨rfl,f0⟩,_,_,rfl,⟨rfl,f1⟩,_,_,rfl,⟨rfl,f2⟩,rfl⟩
  have hq:ktOf cx.P 29=some (.wide [.i64,.i64,.i64]):=by rw [hP]; exact tI
  have hkb:isKB (.wide [.i64,.i64,.i64]) (.ptr (keyI [m,k,i]))=true:=rfl
  have hz:tz1 cx.P 3=some (.int .i64 0):=by rw [hP]; exact zz3
  obtain⟨hlw,hwe⟩:=aL hw
  obtain⟨v,v0,st,es1,clock1,n1,n2,n3,n4,n5⟩:=YQ (P:=cx.P) (w:= {w0 with drawn:=w0.drawn+1}) (t:=294) (kt:=29) (et:=3) (dz:=.int .i64 0) (M3 (by rw [hP]; exact kI)) hq (Zr hkb) (O6 hkv hkey) hz ⟨rfl,by decide⟩ m1 m2 m4
  rw [Ul] at n1
  have hv:v= .int .i64 ((EM l [m,k,i]).getD 0):=by
    cases hg:EM l [m,k,i] with
    |none=>rw [hg] at n1; exact n1.1
    |some x=>rw [hg] at n1; exact n1.1
  subst hv
  obtain⟨es',clock',n6,n7⟩:=n5 (.int .i64 (IntKind.i64.wrap ((EM l [m,k,i]).getD 0+1)))
  obtain⟨w',γ',σ',hr,hK,ho⟩:=Re (t:=294) (mv:=.mpr b) (iv:=.agg [.int .i64 m,.int .i64 k,.int .i64 i]) (xv:=.int .i64 (IntKind.i64.wrap ((EM l [m,k,i]).getD 0+1))) (K:=fun σ'=>σ'=σ.setB b [.mpc (.wide [.i64,.i64,.i64]) (w.map Im)]) hs1.os (by simp only [VSim]; exact⟨hbl,rfl⟩) hkv (Da (Gx _ _)) (by
    unfold W3
    rw [show ti cx.P 294= .map 29 3 by rw [hP]; exact kI]
    refine⟨_,_,hb,by rw [List.length_map]; exact hlw,hq,_,hkey,hkb,_,rfl,?_⟩
    rw [dh,hwe])
  subst hK
  have hww:w'=Go.ChangeMaps.setBlock {w0 with drawn:=w0.drawn+1} (γ.bb b) (.map es' clock'):=by
    have:=hr.symm.trans n7
    simpa using this
  subst hww
  refine wp_region_any mixed ?_
  rw [hP] at n2 n3 n4 n6
  rw [Ur]
  refine jS {w0 with drawn:=w0.drawn+1} _ _ (γ.bb b) (γ.bb bx) (γ.bo bx) m k i ((EM l [m,k,i]).getD 0) v0 st x0 x1 x2 x3 x4 x5 x6 x7 x8 x9 x10 x11 x12 x13 x14 x15 x16 x17 x18 x19 x20 x21 x22 x23 x24 x25 x26 x27 xr (fun e a' w'=>e= .normal ∧∃σ',σ'=Wl σ b w∧SimE cx N σ' a' w') v3 v7 c0 c1 c2 n2 n3 n4 n6 (fun y28 y29 y30 y31 y32 y33 y34=>⟨rfl,_,rfl,γ',ho.os,fun j=>?_,fun t ht=>?_,fun t ht=>?_,rfl,by simpa [Hd] using hlen⟩) 8 (Array.replicate 8 false) x28 x29 x30 x31 x32 x33 x34 _ (by simp) (by decide) ?_
  · have hg : (Wl σ b w).g j=if 28≤j∧j≤34 then .any else σ.g j:=by
      unfold Wl St.g
      simp only [List.cons_append,List.nil_append,AI]
      split
      · subst_vars; rfl
      · split
        · subst_vars; rfl
        · split
          · subst_vars; rfl
          · split
            · subst_vars; rfl
            · split
              · subst_vars; rfl
              · split
                · subst_vars; rfl
                · split
                  · subst_vars; rfl
                  · rw [if_neg (by omega)]
    rw [hg]
    split
    · simp only [VSim]
    · rename_i hj
      have h1:=VSim.mono ho.ext.vw ho.ext (hs.sl j)
      have e:(Hd x0 x1 x2 x3 x4 x5 x6 x7 x8 x9 x10 x11 x12 x13 x14 x15 x16 x17 x18 x19 x20 x21 x22 x23 x24 x25 x26 x27 xr y28 y29 y30 y31 y32 y33 y34).tmps.getD j undef=(((x0::x1::x2::x3::x4::x5::x6::x7::x8::x9::x10::x11::x12::x13::x14::x15::x16::x17::x18::x19::x20::x21::x22::x23::x24::x25::x26::x27::x28::x29::x30::x31::x32::x33::x34::xr).toArray):Array Value).getD j undef:=by
        unfold Hd
        simp only [Array.getD_eq_getD_getElem?,List.getElem?_toArray]
        by_cases hlt:j<28
        · rcases (by omega:j=0∨j=1∨j=2∨j=3∨j=4∨j=5∨j=6∨j=7∨j=8∨j=9∨j=10∨j=11∨j=12∨j=13∨j=14∨j=15∨j=16∨j=17∨j=18∨j=19∨j=20∨j=21∨j=22∨j=23∨j=24∨j=25∨j=26∨j=27) with rfl|rfl|rfl|rfl|rfl|rfl|rfl|rfl|rfl|rfl|rfl|rfl|rfl|rfl|rfl|rfl|rfl|rfl|rfl|rfl|rfl|rfl|rfl|rfl|rfl|rfl|rfl|rfl <;> rfl
        · obtain⟨q,rfl⟩:∃q,j=q+35:=⟨j - 35,by omega⟩
          simp only [List.getElem?_cons_succ]
      rw [e]; exact h1
  · rcases ho.td t ht with h|h
    · exact hs.td t h
    · exact h
  · rcases ho.bd t ht with h|h
    · show (look ((b,_)::σ.b) t).isSome =true
      rw [AI]
      split
      · rfl
      · exact hs.bd t h
    · exact h
  · refine⟨?_,?_,?_,?_,?_,?_,?_,?_,?_,?_⟩ <;> simp [Array.getD_eq_getD_getElem?]
theorem pp {P} {id} {ops:List Oper} {Q:AE→St→Prop} {l w:List (List Int × Int)} {b bx:Nat} {m k i:Int} {rest:List AV} {σ:St} {w1 w2 w3} (hw:PL l [m,k,i] (IntKind.i64.wrap ((EM l [m,k,i]).getD 0+1))=some w) (hP:P=Tryz.prog) (hl:ops.toArray=DH) (h3:σ.g 3= .mpr b) (hb:σ.B b=some [.mpc (.wide [.i64,.i64,.i64]) (l.map Im)]) (h7:σ.g 7= .box bx 0) (hx:σ.B bx=some (.int .i64 m:: .int .i64 k:: .int .i64 i::rest))
    (hk:Q .normal (Wl σ b w)):Ym P id ops Q σ w1 w2 w3:=by
  subst hP
  exact kw (by rw [hl]; exact jT h3 hb h7 hx hw) hk
end Go.Proofs.YtclmbjbbojdojaaGreat.Ab
