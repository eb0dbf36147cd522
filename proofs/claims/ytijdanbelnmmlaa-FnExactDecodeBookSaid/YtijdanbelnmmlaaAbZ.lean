/-
  From a row's reading of the arguments to the abstract walk's: data trees of the one form and of the other, what reads is such as memory can hold, a law's call.
-/
import Derived.Test.YtijdanbelnmmlaaAbY
import Derived.Test.YtijdanbelnmmlaaReads
import Derived.HandedShaped
namespace Go.Proofs.Ytijdanbelnmmlaa.Ab
set_option linter.unusedVariables false
open Go.RowKit
mutual
def cv:Go.Proofs.Ytijdanbelnmmlaa.D→D
 | .int k n=>.int k n
 | .bool b=>.bool b
 | .str s=>.str s
 | .sl _ xs=>.sl (cvR xs)
def cvR:List (List Go.Proofs.Ytijdanbelnmmlaa.D)→List (List D)
 | [] =>[]
 |x::xs=>cvC x::cvR xs
def cvC:List Go.Proofs.Ytijdanbelnmmlaa.D→List D
 | [] =>[]
 |d::ds=>cv d::cvC ds
end
theorem QU:∀xs:List (List Go.Proofs.Ytijdanbelnmmlaa.D),(cvR xs).length =xs.length
 | [] =>rfl
 |x::xs=>by rw [cvR,List.length_cons,List.length_cons,QU xs]
theorem QV:∀xs:List Go.Proofs.Ytijdanbelnmmlaa.D,(cvC xs).length =xs.length
 | [] =>rfl
 |x::xs=>by rw [cvC,List.length_cons,List.length_cons,QV xs]
mutual
theorem TM {w}:∀ {d} {v},Go.Proofs.Ytijdanbelnmmlaa.Rep w d v→Rep w (cv d) v
 | .int k n,v,h=>by simpa [Go.Proofs.Ytijdanbelnmmlaa.Rep,cv,Rep] using h
 | .bool b,v,h=>by simpa [Go.Proofs.Ytijdanbelnmmlaa.Rep,cv,Rep] using h
 | .str s,v,h=>by simpa [Go.Proofs.Ytijdanbelnmmlaa.Rep,cv,Rep] using h
 | .sl sz xs,v,h=>by
  simp only [Go.Proofs.Ytijdanbelnmmlaa.Rep] at h
  obtain⟨a,c,hv,h1,h2,h3⟩:=h
  simp only [cv,Rep,QU]
  refine⟨a,c,hv,h1,h2,?_⟩
  rcases h3 with h3|⟨b,off,ha,hr⟩
  ·exact .inl (by rw [h3]; rfl)
  ·exact .inr ⟨sz,b,off,ha,QW hr⟩
theorem QW {w} {sz b}:∀ {off} {xs},Go.Proofs.Ytijdanbelnmmlaa.RepR w sz b off xs→RepR w sz b off (cvR xs)
 |_,[],_=>by simp [cvR,RepR]
 |off,x::xs,h=>by
  simp only [Go.Proofs.Ytijdanbelnmmlaa.RepR] at h
  simp only [cvR,RepR]
  exact⟨by rw [QV]; exact h.1,QX h.2.1,QW h.2.2⟩
theorem QX {w} {b}:∀ {off} {ds},Go.Proofs.Ytijdanbelnmmlaa.RepC w b off ds→RepC w b off (cvC ds)
 |_,[],_=>by simp [cvC,RepC]
 |off,d::ds,h=>by
  simp only [Go.Proofs.Ytijdanbelnmmlaa.RepC] at h
  simp only [cvC,RepC]
  obtain⟨⟨u,hu,hr⟩,h2⟩:=h
  exact⟨⟨u,hu,TM hr⟩,QX h2⟩
end
mutual
def D.ok:D→Prop
 | .gone =>True
 | .int k n=>(Lit.int k n).wf =true
 | .bool _=>True
 | .str s=>s.size≤maxLen
 | .sl rows=>rows.length≤maxLen∧Lu rows
 | .fz rows=>rows.length≤maxLen∧Lu rows
 | .ptr ds=>HL ds
 | .nilp =>True
def Lu:List (List D)→Prop
 | [] =>True
 |r::rs=>HL r∧Lu rs
def HL:List D→Prop
 | [] =>True
 |d::ds=>D.ok d∧HL ds
end
mutual
theorem Rep.ok {w}:∀ {d} {v},Rep w d v→D.ok d
 | .gone,v,h=>by simp only [D.ok]
 | .int k n,v,h=>by simp only [Rep] at h; simp only [D.ok]; exact h.2
 | .bool b,v,h=>by simp only [D.ok]
 | .str s,v,h=>by simp only [Rep] at h; simp only [D.ok]; exact h.2
 | .sl rows,v,h=>by
  simp only [Rep] at h
  obtain⟨a,c,hv,h1,h2,h3⟩:=h
  simp only [D.ok]
  refine⟨Nat.le_trans h1 h2,?_⟩
  rcases h3 with h3|⟨sz,b,off,ha,hr⟩
  ·rw [h3]; simp [Lu]
  ·exact RepR.ok hr
 | .fz rows,v,h=>by
  simp only [Rep] at h
  obtain⟨a,c,hv,h1,h2,h3⟩:=h
  simp only [D.ok]
  refine⟨Nat.le_trans h1 h2,?_⟩
  rcases h3 with h3|⟨sz,b,off,ha,hr⟩
  ·rw [h3]; simp [Lu]
  ·exact RepR.ok hr
 | .ptr ds,v,h=>by
  simp only [Rep] at h
  obtain⟨b,off,hv,hc⟩:=h
  simp only [D.ok]
  exact RepC.ok hc
 | .nilp,v,h=>by simp only [D.ok]
theorem RepR.ok {w} {sz b}:∀ {off} {xs},RepR w sz b off xs→Lu xs
 |_,[],_=>by simp [Lu]
 |off,x::xs,h=>by
  simp only [RepR] at h
  simp only [Lu]
  exact⟨RepC.ok h.2.1,RepR.ok h.2.2⟩
theorem RepC.ok {w} {b}:∀ {off} {ds},RepC w b off ds→HL ds
 |_,[],_=>by simp [HL]
 |off,d::ds,h=>by
  simp only [RepC] at h
  simp only [HL]
  obtain⟨⟨u,hu,hr⟩,h2⟩:=h
  exact⟨Rep.ok hr,RepC.ok h2⟩
end
theorem Iw {α:Type} {f:α→List D} {x:α}:∀ {l:List α},Lu (List.map f l)→x ∈ l→HL (f x)
 |y::ys,h,hx=>by
  rw [List.map_cons] at h
  simp only [Lu] at h
  rcases List.mem_cons.1 hx with rfl|hx
  ·exact h.1
  ·exact Iw h.2 hx
theorem Of {w}:∀ {ds} {vs},Go.Proofs.Ytijdanbelnmmlaa.Reps w ds vs→AD w Gh.none ((cvC ds).map ofD) vs∧HL (cvC ds)
 | [],[],_=>by simp [cvC,AD,HL]
 |d::ds,v::vs,h=>by
  obtain⟨h1,h2⟩:=Of h.2
  have h3:=TM h.1
  simp only [cvC,List.map_cons,AD,HL]
  exact⟨⟨v,vs,rfl,VSim.of_rep h3,h1⟩,Rep.ok h3,h2⟩
 | [],_::_,h=>h.elim
 |_::_,[],h=>h.elim
theorem Ri {P} {n} {t} {k} {ds} (ht:P.underlying t=some (.int k)) (h:El P n t ds):∃z,ds=[.int k z] :=by
 cases n with
 |zero=>simp [El] at h
 |succ n=>unfold El at h; rw [ht] at h; exact h
theorem TN {α:Type} (f:α→List D) {P} {n} {t e} {ds} (ht:P.underlying t=some (.slice e)) (hx:∀m x,m<n→El P m e x→∃a,cvC x=f a) (h:El P n t ds):
  ∃xs:List α,cvC ds=[.sl (List.map f xs)] :=by
 cases n with
 |zero=>simp [El] at h
 | succ n=>
  unfold El at h
  rw [ht] at h
  obtain⟨xs,rfl,hxs⟩:=h
  suffices ∃zs:List α,cvR xs=zs.map f by
   obtain⟨zs,hz⟩:=this
   exact⟨zs,by rw [cvC,cv,hz]; rfl⟩
  induction xs with
  |nil=>exact⟨[],rfl⟩
  |cons x xs ih=>
   obtain⟨z,hz⟩:=hx n x (Nat.lt_succ_self n) (hxs x (by simp))
   obtain⟨zs,hzs⟩:=ih fun y hy=>hxs y (by simp [hy])
   exact⟨z::zs,by rw [cvR,hz,hzs]; rfl⟩
theorem Ww {P:Program} {w:World} (h:w.ShapedOpen P) (hl:decide (P.globals.size<P.low)=true):P.low≤w.heap.size:=by
 have hl':=of_decide_eq_true hl
 unfold Program.low at hl' ⊢
 obtain⟨o,o₀,h1,-⟩:=h.2 ((begin P (fun _ _=>0) default).world.heap.size - 1) (by omega) (by omega)
 have:=lt_of_block h1
 omega
theorem Rj {P:Program} {f:FuncId} {as:List AV} {us:List Value} {w:World} (h:AC P f as (.bool true)) (hsh:w.ShapedOpen P) (hl:decide (P.globals.size<P.low)=true) (ham:Amb P w) (hv:AD w Gh.none as us):
  Calls P f us.toArray w fun e w'=>e= .returned (.bool true)∧Below w.heap.size w w':=by
 refine(h.2 w us hsh (Ww hsh hl) ham hv).mono ?_
 rintro e w' ⟨v,fp,rfl,h1,-,-,h2⟩
 simp only [RSim] at h1
 exact⟨by rw [h1.1],h2⟩
end Go.Proofs.Ytijdanbelnmmlaa.Ab
