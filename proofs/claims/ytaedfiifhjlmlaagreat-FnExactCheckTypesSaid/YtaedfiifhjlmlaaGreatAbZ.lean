/-
  From a row's reading of the arguments to the abstract walk's: data trees of the one form and of the other, what reads is such as memory can hold, a law's call.
-/
import Derived.Test.YtaedfiifhjlmlaaGreatAbY
import Derived.Test.YtaedfiifhjlmlaaGreatReads
import Derived.HandedShaped
namespace Go.Proofs.YtaedfiifhjlmlaaGreat.Ab
set_option linter.unusedVariables false
open Go.RowKit
mutual
def cv:Go.Proofs.YtaedfiifhjlmlaaGreat.D→D
 | .int k n=>.int k n
 | .bool b=>.bool b
 | .str s=>.str s
 | .sl _ xs=>.sl (cvR xs)
def cvR:List (List Go.Proofs.YtaedfiifhjlmlaaGreat.D)→List (List D)
 | [] =>[]
 |x::xs=>cvC x::cvR xs
def cvC:List Go.Proofs.YtaedfiifhjlmlaaGreat.D→List D
 | [] =>[]
 |d::ds=>cv d::cvC ds
end
theorem WZ:∀xs:List (List Go.Proofs.YtaedfiifhjlmlaaGreat.D),(cvR xs).length =xs.length
 | [] =>rfl
 |x::xs=>by rw [cvR,List.length_cons,List.length_cons,WZ xs]
theorem Wa:∀xs:List Go.Proofs.YtaedfiifhjlmlaaGreat.D,(cvC xs).length =xs.length
 | [] =>rfl
 |x::xs=>by rw [cvC,List.length_cons,List.length_cons,Wa xs]
theorem Fv:∀xs ys:List Go.Proofs.YtaedfiifhjlmlaaGreat.D,cvC (xs++ys)=cvC xs++cvC ys
 | [],ys=>rfl
 |x::xs,ys=>by rw [List.cons_append,cvC,cvC,Fv xs ys]; rfl
mutual
theorem ZH {w}:∀ {d} {v},Go.Proofs.YtaedfiifhjlmlaaGreat.Rep w d v→Rep w (cv d) v
 | .int k n,v,h=>by simpa [Go.Proofs.YtaedfiifhjlmlaaGreat.Rep,cv,Rep] using h
 | .bool b,v,h=>by simpa [Go.Proofs.YtaedfiifhjlmlaaGreat.Rep,cv,Rep] using h
 | .str s,v,h=>by simpa [Go.Proofs.YtaedfiifhjlmlaaGreat.Rep,cv,Rep] using h
 | .sl sz xs,v,h=>by
  simp only [Go.Proofs.YtaedfiifhjlmlaaGreat.Rep] at h
  obtain⟨a,c,hv,h1,h2,h3⟩:=h
  simp only [cv,Rep,WZ]
  refine⟨a,c,hv,h1,h2,?_⟩
  rcases h3 with h3|⟨b,off,ha,hr⟩
  ·exact .inl (by rw [h3]; rfl)
  ·exact .inr ⟨sz,b,off,ha,Wb hr⟩
theorem Wb {w} {sz b}:∀ {off} {xs},Go.Proofs.YtaedfiifhjlmlaaGreat.RepR w sz b off xs→RepR w sz b off (cvR xs)
 |_,[],_=>by simp [cvR,RepR]
 |off,x::xs,h=>by
  simp only [Go.Proofs.YtaedfiifhjlmlaaGreat.RepR] at h
  simp only [cvR,RepR]
  exact⟨by rw [Wa]; exact h.1,Wc h.2.1,Wb h.2.2⟩
theorem Wc {w} {b}:∀ {off} {ds},Go.Proofs.YtaedfiifhjlmlaaGreat.RepC w b off ds→RepC w b off (cvC ds)
 |_,[],_=>by simp [cvC,RepC]
 |off,d::ds,h=>by
  simp only [Go.Proofs.YtaedfiifhjlmlaaGreat.RepC] at h
  simp only [cvC,RepC]
  obtain⟨⟨u,hu,hr⟩,h2⟩:=h
  exact⟨⟨u,hu,ZH hr⟩,Wc h2⟩
end
mutual
def D.ok:D→Prop
 | .gone =>True
 | .int k n=>(Lit.int k n).wf =true
 | .bool _=>True
 | .str s=>s.size≤maxLen
 | .sl rows=>rows.length≤maxLen∧Q7 rows
 | .fz rows=>rows.length≤maxLen∧Q7 rows
 | .ptr ds=>Gf ds
 | .nilp =>True
def Q7:List (List D)→Prop
 | [] =>True
 |r::rs=>Gf r∧Q7 rs
def Gf:List D→Prop
 | [] =>True
 |d::ds=>D.ok d∧Gf ds
end
mutual
theorem Rep.ok {w}:∀ {d} {v},Rep w d v→D.ok d
 | .gone,v,h=>by simp only [D.ok]
 | .int k n,v,h=>by simp only [Rep] at h; simp only [D.ok]; exact h.2
 | .bool b,v,h=>by simp only [D.ok]
 | .str s,v,h=>by simp only [Rep] at h; simp only [D.ok]; exact h.2
 | .sl rows,v,h=>by
  simp only [Rep] at h
  obtain⟨a,c,hv,h1,h2,h3⟩:=h
  simp only [D.ok]
  refine⟨Nat.le_trans h1 h2,?_⟩
  rcases h3 with h3|⟨sz,b,off,ha,hr⟩
  ·rw [h3]; simp [Q7]
  ·exact RepR.ok hr
 | .fz rows,v,h=>by
  simp only [Rep] at h
  obtain⟨a,c,hv,h1,h2,h3⟩:=h
  simp only [D.ok]
  refine⟨Nat.le_trans h1 h2,?_⟩
  rcases h3 with h3|⟨sz,b,off,ha,hr⟩
  ·rw [h3]; simp [Q7]
  ·exact RepR.ok hr
 | .ptr ds,v,h=>by
  simp only [Rep] at h
  obtain⟨b,off,hv,hc⟩:=h
  simp only [D.ok]
  exact RepC.ok hc
 | .nilp,v,h=>by simp only [D.ok]
theorem RepR.ok {w} {sz b}:∀ {off} {xs},RepR w sz b off xs→Q7 xs
 |_,[],_=>by simp [Q7]
 |off,x::xs,h=>by
  simp only [RepR] at h
  simp only [Q7]
  exact⟨RepC.ok h.2.1,RepR.ok h.2.2⟩
theorem RepC.ok {w} {b}:∀ {off} {ds},RepC w b off ds→Gf ds
 |_,[],_=>by simp [Gf]
 |off,d::ds,h=>by
  simp only [RepC] at h
  simp only [Gf]
  obtain⟨⟨u,hu,hr⟩,h2⟩:=h
  exact⟨Rep.ok hr,RepC.ok h2⟩
end
theorem Gx {α:Type} {f:α→List D} {x:α}:∀ {l:List α},Q7 (List.map f l)→x ∈ l→Gf (f x)
 |y::ys,h,hx=>by
  rw [List.map_cons] at h
  simp only [Q7] at h
  rcases List.mem_cons.1 hx with rfl|hx
  ·exact h.1
  ·exact Gx h.2 hx
theorem T4 {w}:∀ {ds} {vs},Go.Proofs.YtaedfiifhjlmlaaGreat.Reps w ds vs→AI w Gh.none ((cvC ds).map ofD) vs∧Gf (cvC ds)
 | [],[],_=>by simp [cvC,AI,Gf]
 |d::ds,v::vs,h=>by
  obtain⟨h1,h2⟩:=T4 h.2
  have h3:=ZH h.1
  simp only [cvC,List.map_cons,AI,Gf]
  exact⟨⟨v,vs,rfl,VSim.of_rep h3,h1⟩,Rep.ok h3,h2⟩
 | [],_::_,h=>h.elim
 |_::_,[],h=>h.elim
theorem OB {P} {n} {t} {k} {ds} (ht:P.underlying t=some (.int k)) (h:DT P n t ds):∃z,ds=[.int k z] :=by
 cases n with
 |zero=>simp [DT] at h
 |succ n=>unfold DT at h; rw [ht] at h; exact h
theorem Hp {P} {n} {t} {ds} (ht:P.underlying t=some .string) (h:DT P n t ds):∃s,ds=[.str s] :=by
 cases n with
 |zero=>simp [DT] at h
 |succ n=>unfold DT at h; rw [ht] at h; exact h
theorem JG {P} {n} {t} {fs} {ds} (ht:P.underlying t=some (.struct fs)) (h:DT P n t ds):∃m,m<n∧Ky (DT P m) fs.toList ds:=by
 cases n with
 |zero=>simp [DT] at h
 |succ n=>unfold DT at h; rw [ht] at h; exact⟨n,Nat.lt_succ_self n,h⟩
theorem H9 {α:Type} (f:α→List D) {P} {n} {t e} {ds} (ht:P.underlying t=some (.slice e)) (hx:∀m x,m<n→DT P m e x→∃a,cvC x=f a) (h:DT P n t ds):
  ∃xs:List α,cvC ds=[.sl (List.map f xs)] :=by
 cases n with
 |zero=>simp [DT] at h
 | succ n=>
  unfold DT at h
  rw [ht] at h
  obtain⟨xs,rfl,hxs⟩:=h
  suffices ∃zs:List α,cvR xs=zs.map f by
   obtain⟨zs,hz⟩:=this
   exact⟨zs,by rw [cvC,cv,hz]; rfl⟩
  induction xs with
  |nil=>exact⟨[],rfl⟩
  |cons x xs ih=>
   obtain⟨z,hz⟩:=hx n x (Nat.lt_succ_self n) (hxs x (by simp))
   obtain⟨zs,hzs⟩:=ih fun y hy=>hxs y (by simp [hy])
   exact⟨z::zs,by rw [cvR,hz,hzs]; rfl⟩
theorem dI {P:Program} {w:World} (h:w.ShapedOpen P) (hl:decide (P.globals.size<P.low)=true):P.low≤w.heap.size:=by
 have hl':=of_decide_eq_true hl
 unfold Program.low at hl' ⊢
 obtain⟨o,o₀,h1,-⟩:=h.2 ((begin P (fun _ _=>0) default).world.heap.size - 1) (by omega) (by omega)
 have:=lt_of_block h1
 omega
theorem Xk {P:Program} {f:FuncId} {as:List AV} {us:List Value} {w:World} (h:AC P f as (.bool true)) (hsh:w.ShapedOpen P) (hl:decide (P.globals.size<P.low)=true) (ham:Amb P w) (hv:AI w Gh.none as us):
  Calls P f us.toArray w fun e w'=>e= .returned (.bool true)∧Below w.heap.size w w':=by
 refine(h.2 w us hsh (dI hsh hl) ham hv).mono ?_
 rintro e w' ⟨v,fp,rfl,h1,-,-,h2⟩
 simp only [RSim] at h1
 exact⟨by rw [h1.1],h2⟩
theorem ZI {w} {vs} {cs} (h:AI w Gh.none vs (Value.agg cs).cells.toList):VSim w Gh.none (.agg vs) (.agg cs):=by
 simp only [VSim]
 exact⟨cs.toList,by simp,by simpa [Value.cells] using h⟩
end Go.Proofs.YtaedfiifhjlmlaaGreat.Ab
