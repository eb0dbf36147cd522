/-
  From a row's reading of the arguments to the abstract walk's: data trees of the one form and of the other, what reads is such as memory can hold, a law's call.
-/
import Derived.Test.YtgigfdghecdlgaaAbY
import Derived.Test.YtgigfdghecdlgaaReads
import Derived.HandedShaped
namespace Go.Proofs.Ytgigfdghecdlgaa.Ab
set_option linter.unusedVariables false
open Go.RowKit
mutual
def cv:Go.Proofs.Ytgigfdghecdlgaa.D→D
 | .int k n=>.int k n
 | .bool b=>.bool b
 | .str s=>.str s
 | .sl _ xs=>.sl (cvR xs)
def cvR:List (List Go.Proofs.Ytgigfdghecdlgaa.D)→List (List D)
 | [] =>[]
 |x::xs=>cvC x::cvR xs
def cvC:List Go.Proofs.Ytgigfdghecdlgaa.D→List D
 | [] =>[]
 |d::ds=>cv d::cvC ds
end
theorem P5:∀xs:List (List Go.Proofs.Ytgigfdghecdlgaa.D),(cvR xs).length =xs.length
 | [] =>rfl
 |x::xs=>by rw [cvR,List.length_cons,List.length_cons,P5 xs]
theorem P6:∀xs:List Go.Proofs.Ytgigfdghecdlgaa.D,(cvC xs).length =xs.length
 | [] =>rfl
 |x::xs=>by rw [cvC,List.length_cons,List.length_cons,P6 xs]
theorem Hx:∀xs ys:List Go.Proofs.Ytgigfdghecdlgaa.D,cvC (xs++ys)=cvC xs++cvC ys
 | [],ys=>rfl
 |x::xs,ys=>by rw [List.cons_append,cvC,cvC,Hx xs ys]; rfl
mutual
theorem Sq {w}:∀ {d} {v},Go.Proofs.Ytgigfdghecdlgaa.Rep w d v→Rep w (cv d) v
 | .int k n,v,h=>by simpa [Go.Proofs.Ytgigfdghecdlgaa.Rep,cv,Rep] using h
 | .bool b,v,h=>by simpa [Go.Proofs.Ytgigfdghecdlgaa.Rep,cv,Rep] using h
 | .str s,v,h=>by simpa [Go.Proofs.Ytgigfdghecdlgaa.Rep,cv,Rep] using h
 | .sl sz xs,v,h=>by
  simp only [Go.Proofs.Ytgigfdghecdlgaa.Rep] at h
  obtain⟨a,c,hv,h1,h2,h3⟩:=h
  simp only [cv,Rep,P5]
  refine⟨a,c,hv,h1,h2,?_⟩
  rcases h3 with h3|⟨b,off,ha,hr⟩
  ·exact .inl (by rw [h3]; rfl)
  ·exact .inr ⟨sz,b,off,ha,P7 hr⟩
theorem P7 {w} {sz b}:∀ {off} {xs},Go.Proofs.Ytgigfdghecdlgaa.RepR w sz b off xs→RepR w sz b off (cvR xs)
 |_,[],_=>by simp [cvR,RepR]
 |off,x::xs,h=>by
  simp only [Go.Proofs.Ytgigfdghecdlgaa.RepR] at h
  simp only [cvR,RepR]
  exact⟨by rw [P6]; exact h.1,P8 h.2.1,P7 h.2.2⟩
theorem P8 {w} {b}:∀ {off} {ds},Go.Proofs.Ytgigfdghecdlgaa.RepC w b off ds→RepC w b off (cvC ds)
 |_,[],_=>by simp [cvC,RepC]
 |off,d::ds,h=>by
  simp only [Go.Proofs.Ytgigfdghecdlgaa.RepC] at h
  simp only [cvC,RepC]
  obtain⟨⟨u,hu,hr⟩,h2⟩:=h
  exact⟨⟨u,hu,Sq hr⟩,P8 h2⟩
end
mutual
def D.ok:D→Prop
 | .gone =>True
 | .int k n=>(Lit.int k n).wf =true
 | .bool _=>True
 | .str s=>s.size≤maxLen
 | .sl rows=>rows.length≤maxLen∧Kl rows
 | .fz rows=>rows.length≤maxLen∧Kl rows
 | .ptr ds=>Gq ds
 | .nilp =>True
def Kl:List (List D)→Prop
 | [] =>True
 |r::rs=>Gq r∧Kl rs
def Gq:List D→Prop
 | [] =>True
 |d::ds=>D.ok d∧Gq ds
end
mutual
theorem Rep.ok {w}:∀ {d} {v},Rep w d v→D.ok d
 | .gone,v,h=>by simp only [D.ok]
 | .int k n,v,h=>by simp only [Rep] at h; simp only [D.ok]; exact h.2
 | .bool b,v,h=>by simp only [D.ok]
 | .str s,v,h=>by simp only [Rep] at h; simp only [D.ok]; exact h.2
 | .sl rows,v,h=>by
  simp only [Rep] at h
  obtain⟨a,c,hv,h1,h2,h3⟩:=h
  simp only [D.ok]
  refine⟨Nat.le_trans h1 h2,?_⟩
  rcases h3 with h3|⟨sz,b,off,ha,hr⟩
  ·rw [h3]; simp [Kl]
  ·exact RepR.ok hr
 | .fz rows,v,h=>by
  simp only [Rep] at h
  obtain⟨a,c,hv,h1,h2,h3⟩:=h
  simp only [D.ok]
  refine⟨Nat.le_trans h1 h2,?_⟩
  rcases h3 with h3|⟨sz,b,off,ha,hr⟩
  ·rw [h3]; simp [Kl]
  ·exact RepR.ok hr
 | .ptr ds,v,h=>by
  simp only [Rep] at h
  obtain⟨b,off,hv,hc⟩:=h
  simp only [D.ok]
  exact RepC.ok hc
 | .nilp,v,h=>by simp only [D.ok]
theorem RepR.ok {w} {sz b}:∀ {off} {xs},RepR w sz b off xs→Kl xs
 |_,[],_=>by simp [Kl]
 |off,x::xs,h=>by
  simp only [RepR] at h
  simp only [Kl]
  exact⟨RepC.ok h.2.1,RepR.ok h.2.2⟩
theorem RepC.ok {w} {b}:∀ {off} {ds},RepC w b off ds→Gq ds
 |_,[],_=>by simp [Gq]
 |off,d::ds,h=>by
  simp only [RepC] at h
  simp only [Gq]
  obtain⟨⟨u,hu,hr⟩,h2⟩:=h
  exact⟨Rep.ok hr,RepC.ok h2⟩
end
theorem Km {α:Type} {f:α→List D} {x:α}:∀ {l:List α},Kl (List.map f l)→x ∈ l→Gq (f x)
 |y::ys,h,hx=>by
  rw [List.map_cons] at h
  simp only [Kl] at h
  rcases List.mem_cons.1 hx with rfl|hx
  ·exact h.1
  ·exact Km h.2 hx
theorem N3 {w}:∀ {ds} {vs},Go.Proofs.Ytgigfdghecdlgaa.Reps w ds vs→AB w Gh.none ((cvC ds).map ofD) vs∧Gq (cvC ds)
 | [],[],_=>by simp [cvC,AB,Gq]
 |d::ds,v::vs,h=>by
  obtain⟨h1,h2⟩:=N3 h.2
  have h3:=Sq h.1
  simp only [cvC,List.map_cons,AB,Gq]
  exact⟨⟨v,vs,rfl,VSim.of_rep h3,h1⟩,Rep.ok h3,h2⟩
 | [],_::_,h=>h.elim
 |_::_,[],h=>h.elim
theorem Ix {P} {n} {t} {k} {ds} (ht:P.underlying t=some (.int k)) (h:CT P n t ds):∃z,ds=[.int k z] :=by
 cases n with
 |zero=>simp [CT] at h
 |succ n=>unfold CT at h; rw [ht] at h; exact h
theorem RI {P} {n} {t} {ds} (ht:P.underlying t=some .string) (h:CT P n t ds):∃s,ds=[.str s] :=by
 cases n with
 |zero=>simp [CT] at h
 |succ n=>unfold CT at h; rw [ht] at h; exact h
theorem N4 {P} {n} {t} {fs} {ds} (ht:P.underlying t=some (.struct fs)) (h:CT P n t ds):∃m,m<n∧Kn (CT P m) fs.toList ds:=by
 cases n with
 |zero=>simp [CT] at h
 |succ n=>unfold CT at h; rw [ht] at h; exact⟨n,Nat.lt_succ_self n,h⟩
theorem Ko {α:Type} (f:α→List D) {P} {n} {t e} {ds} (ht:P.underlying t=some (.slice e)) (hx:∀m x,m<n→CT P m e x→∃a,cvC x=f a) (h:CT P n t ds):
  ∃xs:List α,cvC ds=[.sl (List.map f xs)] :=by
 cases n with
 |zero=>simp [CT] at h
 | succ n=>
  unfold CT at h
  rw [ht] at h
  obtain⟨xs,rfl,hxs⟩:=h
  suffices ∃zs:List α,cvR xs=zs.map f by
   obtain⟨zs,hz⟩:=this
   exact⟨zs,by rw [cvC,cv,hz]; rfl⟩
  induction xs with
  |nil=>exact⟨[],rfl⟩
  |cons x xs ih=>
   obtain⟨z,hz⟩:=hx n x (Nat.lt_succ_self n) (hxs x (by simp))
   obtain⟨zs,hzs⟩:=ih fun y hy=>hxs y (by simp [hy])
   exact⟨z::zs,by rw [cvR,hz,hzs]; rfl⟩
theorem WE {P:Program} {w:World} (h:w.ShapedOpen P) (hl:decide (P.globals.size<P.low)=true):P.low≤w.heap.size:=by
 have hl':=of_decide_eq_true hl
 unfold Program.low at hl' ⊢
 obtain⟨o,o₀,h1,-⟩:=h.2 ((begin P (fun _ _=>0) default).world.heap.size - 1) (by omega) (by omega)
 have:=lt_of_block h1
 omega
theorem RJ {P:Program} {f:FuncId} {as:List AV} {us:List Value} {w:World} (h:AC P f as (.bool true)) (hsh:w.ShapedOpen P) (hl:decide (P.globals.size<P.low)=true) (ham:Amb P w) (hv:AB w Gh.none as us):
  Calls P f us.toArray w fun e w'=>e= .returned (.bool true)∧Below w.heap.size w w':=by
 refine(h.2 w us hsh (WE hsh hl) ham hv).mono ?_
 rintro e w' ⟨v,fp,rfl,h1,-,-,h2⟩
 simp only [RSim] at h1
 exact⟨by rw [h1.1],h2⟩
theorem Sr {w} {vs} {cs} (h:AB w Gh.none vs (Value.agg cs).cells.toList):VSim w Gh.none (.agg vs) (.agg cs):=by
 simp only [VSim]
 exact⟨cs.toList,by simp,by simpa [Value.cells] using h⟩
end Go.Proofs.Ytgigfdghecdlgaa.Ab
