/-
  From a row's reading of the arguments to the abstract walk's: data trees of the one form and of the other, what reads is such as memory can hold, a law's call.
-/
import Derived.Test.YtclmbjbbojdojaaGreatAbY
import Derived.Test.YtclmbjbbojdojaaGreatReads
import Derived.HandedShaped
namespace Go.Proofs.YtclmbjbbojdojaaGreat.Ab
set_option linter.unusedVariables false
set_option maxHeartbeats 1000000
open Go.RowKit
mutual
def cv:Go.Proofs.YtclmbjbbojdojaaGreat.D→D
 | .int k n=>.int k n
 | .bool b=>.bool b
 | .str s=>.str s
 | .sl _ xs=>.sl (cvR xs)
def cvR:List (List Go.Proofs.YtclmbjbbojdojaaGreat.D)→List (List D)
 | [] =>[]
 |x::xs=>cvC x::cvR xs
def cvC:List Go.Proofs.YtclmbjbbojdojaaGreat.D→List D
 | [] =>[]
 |d::ds=>cv d::cvC ds
end
theorem Yw:∀xs:List (List Go.Proofs.YtclmbjbbojdojaaGreat.D),(cvR xs).length =xs.length
 | [] =>rfl
 |x::xs=>by rw [cvR,List.length_cons,List.length_cons,Yw xs]
theorem Yx:∀xs:List Go.Proofs.YtclmbjbbojdojaaGreat.D,(cvC xs).length =xs.length
 | [] =>rfl
 |x::xs=>by rw [cvC,List.length_cons,List.length_cons,Yx xs]
theorem DJ:∀xs ys:List Go.Proofs.YtclmbjbbojdojaaGreat.D,cvC (xs++ys)=cvC xs++cvC ys
 | [],ys=>rfl
 |x::xs,ys=>by rw [List.cons_append,cvC,cvC,DJ xs ys]; rfl
mutual
theorem cY {w}:∀ {d} {v},Go.Proofs.YtclmbjbbojdojaaGreat.Rep w d v→Rep w (cv d) v
 | .int k n,v,h=>by grind [Go.Proofs.YtclmbjbbojdojaaGreat.Rep,cv,Rep]
 | .bool b,v,h=>by grind [Go.Proofs.YtclmbjbbojdojaaGreat.Rep,cv,Rep]
 | .str s,v,h=>by grind [Go.Proofs.YtclmbjbbojdojaaGreat.Rep,cv,Rep]
 | .sl sz xs,v,h=>by
  simp only [Go.Proofs.YtclmbjbbojdojaaGreat.Rep] at h
  obtain⟨a,c,hv,h1,h2,h3⟩:=h
  simp only [cv,Rep,Yw]
  refine⟨a,c,hv,h1,h2,?_⟩
  rcases h3 with h3|⟨b,off,ha,hr⟩
  ·exact .inl (by rw [h3]; rfl)
  ·exact .inr ⟨sz,b,off,ha,Yy hr⟩
theorem Yy {w} {sz b}:∀ {off} {xs},Go.Proofs.YtclmbjbbojdojaaGreat.RepR w sz b off xs→RepR w sz b off (cvR xs)
 |_,[],_=>by simp [cvR,RepR]
 |off,x::xs,h=>by
  simp only [Go.Proofs.YtclmbjbbojdojaaGreat.RepR] at h
  simp only [cvR,RepR]
  exact⟨by rw [Yx]; exact h.1,Yz h.2.1,Yy h.2.2⟩
theorem Yz {w} {b}:∀ {off} {ds},Go.Proofs.YtclmbjbbojdojaaGreat.RepC w b off ds→RepC w b off (cvC ds)
 |_,[],_=>by simp [cvC,RepC]
 |off,d::ds,h=>by
  simp only [Go.Proofs.YtclmbjbbojdojaaGreat.RepC] at h
  simp only [cvC,RepC]
  obtain⟨⟨u,hu,hr⟩,h2⟩:=h
  exact⟨⟨u,hu,cY hr⟩,Yz h2⟩
end
mutual
def D.ok:D→Prop
 | .gone =>True
 | .int k n=>(Lit.int k n).wf =true
 | .bool _=>True
 | .str s=>s.size≤maxLen
 | .sl rows=>rows.length≤maxLen∧TL rows
 | .fz rows=>rows.length≤maxLen∧TL rows
 | .ptr ds=>Ct ds
 | .nilp =>True
 | .nl =>True
def TL:List (List D)→Prop
 | [] =>True
 |r::rs=>Ct r∧TL rs
def Ct:List D→Prop
 | [] =>True
 |d::ds=>D.ok d∧Ct ds
end
mutual
theorem Rep.ok {w}:∀ {d} {v},Rep w d v→D.ok d
 | .gone,v,h=>by grind [D.ok]
 | .int k n,v,h=>by grind [Rep,D.ok]
 | .bool b,v,h=>by grind [D.ok]
 | .str s,v,h=>by grind [Rep,D.ok]
 | .sl rows,v,h=>by
  simp only [Rep] at h
  obtain⟨a,c,hv,h1,h2,h3⟩:=h
  simp only [D.ok]
  refine⟨Nat.le_trans h1 h2,?_⟩
  rcases h3 with h3|⟨sz,b,off,ha,hr⟩
  ·rw [h3]; simp [TL]
  ·exact RepR.ok hr
 | .fz rows,v,h=>by
  simp only [Rep] at h
  obtain⟨a,c,hv,h1,h2,h3⟩:=h
  simp only [D.ok]
  refine⟨Nat.le_trans h1 h2,?_⟩
  rcases h3 with h3|⟨sz,b,off,ha,hr⟩
  ·rw [h3]; simp [TL]
  ·exact RepR.ok hr
 | .ptr ds,v,h=>by
  simp only [Rep] at h
  obtain⟨b,off,hv,hc⟩:=h
  simp only [D.ok]
  exact RepC.ok hc
 | .nilp,v,h=>by grind [D.ok]
 | .nl,v,h=>by grind [D.ok]
theorem RepR.ok {w} {sz b}:∀ {off} {xs},RepR w sz b off xs→TL xs
 |_,[],_=>by simp [TL]
 |off,x::xs,h=>by
  simp only [RepR] at h
  simp only [TL]
  exact⟨RepC.ok h.2.1,RepR.ok h.2.2⟩
theorem RepC.ok {w} {b}:∀ {off} {ds},RepC w b off ds→Ct ds
 |_,[],_=>by simp [Ct]
 |off,d::ds,h=>by
  simp only [RepC] at h
  simp only [Ct]
  obtain⟨⟨u,hu,hr⟩,h2⟩:=h
  exact⟨Rep.ok hr,RepC.ok h2⟩
end
theorem Cm {α:Type} {f:α→List D} {x:α}:∀ {l:List α},TL (List.map f l)→x ∈ l→Ct (f x)
 |y::ys,h,hx=>by
  rw [List.map_cons] at h
  simp only [TL] at h
  rcases List.mem_cons.1 hx with rfl|hx
  ·exact h.1
  ·exact Cm h.2 hx
theorem Wc {w}:∀ {ds} {vs},Go.Proofs.YtclmbjbbojdojaaGreat.Reps w ds vs→AF w Gh.none ((cvC ds).map ofD) vs∧Ct (cvC ds)
 | [],[],_=>by simp [cvC,AF,Ct]
 |d::ds,v::vs,h=>by
  obtain⟨h1,h2⟩:=Wc h.2
  have h3:=cY h.1
  simp only [cvC,List.map_cons,AF,Ct]
  exact⟨⟨v,vs,rfl,VSim.of_rep h3,h1⟩,Rep.ok h3,h2⟩
 | [],_::_,h=>h.elim
 |_::_,[],h=>h.elim
theorem DF {P} {n} {t} {k} {ds} (ht:P.underlying t=some (.int k)) (h:C4 P n t ds):∃z,ds=[.int k z] :=by
 cases n with
 |zero=>grind [C4]
 |succ n=>grind [C4]
theorem Ks {P} {n} {t} {ds} (ht:P.underlying t=some .bool) (h:C4 P n t ds):∃b,ds=[.bool b] :=by
 cases n with
 |zero=>grind [C4]
 |succ n=>grind [C4]
theorem FnZ {P} {n} {t} {fs} {ds} (ht:P.underlying t=some (.struct fs)) (h:C4 P n t ds):∃m,m<n∧If (C4 P m) fs.toList ds:=by
 cases n with
 |zero=>grind [C4]
 |succ n=>grind [C4]
theorem CP {α:Type} (f:α→List D) {P} {n} {t e} {ds} (ht:P.underlying t=some (.slice e)) (hx:∀m x,m<n→C4 P m e x→∃a,cvC x=f a) (h:C4 P n t ds):
  ∃xs:List α,cvC ds=[.sl (List.map f xs)] :=by
 cases n with
 |zero=>grind [C4]
 | succ n=>
  unfold C4 at h
  rw [ht] at h
  obtain⟨xs,rfl,hxs⟩:=h
  suffices ∃zs:List α,cvR xs=zs.map f by
   grind [cvC,cv]
  induction xs with
  |nil=>exact⟨[],rfl⟩
  |cons x xs ih=>
   obtain⟨z,hz⟩:=hx n x (Nat.lt_succ_self n) (hxs x (by simp))
   obtain⟨zs,hzs⟩:=ih fun y hy=>hxs y (by grind)
   exact⟨z::zs,by rw [cvR,hz,hzs]; rfl⟩
theorem iY {P:Program} {w:World} (h:w.ShapedOpen P) (hl:decide (P.globals.size<P.low)=true):P.low≤w.heap.size:=by
 have hl':=of_decide_eq_true hl
 unfold Program.low at hl' ⊢
 obtain⟨o,o₀,h1,-⟩:=h.2 ((begin P (fun _ _=>0) default).world.heap.size - 1) (by omega) (by omega)
 grind
theorem aG {P:Program} {f:FuncId} {as:List AV} {us:List Value} {w:World} (h:AC P f as (.bool true)) (hsh:w.ShapedOpen P) (hl:decide (P.globals.size<P.low)=true) (ham:Amb P w) (hv:AF w Gh.none as us):
  Calls P f us.toArray w fun e w'=>e= .returned (.bool true)∧Below w.heap.size w w':=by
 refine(h.2 w us hsh (iY hsh hl) ham hv).mono ?_
 grind [RSim]
theorem cZ {w} {vs} {cs} (h:AF w Gh.none vs (Value.agg cs).cells.toList):VSim w Gh.none (.agg vs) (.agg cs):=by
 grind [VSim,Value.cells]
end Go.Proofs.YtclmbjbbojdojaaGreat.Ab
