/-
  From a row's reading of the arguments to the abstract walk's: data trees of the one form and of the other, what reads is such as memory can hold, a law's call.
-/
import Derived.Test.YtclmbjbbojdojaaGreatAbY
import Derived.Test.YtclmbjbbojdojaaGreatReads
import Derived.HandedShaped
namespace Go.Proofs.YtclmbjbbojdojaaGreat.Ab
set_option linter.unusedVariables false
set_option maxHeartbeats 1000000
open Go.RowKit
mutual
def cv:Go.Proofs.YtclmbjbbojdojaaGreat.D→D
 | .int k n=>.int k n
 | .bool b=>.bool b
 | .str s=>.str s
 | .sl _ xs=>.sl (cvR xs)
def cvR:List (List Go.Proofs.YtclmbjbbojdojaaGreat.D)→List (List D)
 | [] =>[]
 |x::xs=>cvC x::cvR xs
def cvC:List Go.Proofs.YtclmbjbbojdojaaGreat.D→List D
 | [] =>[]
 |d::ds=>cv d::cvC ds
end
theorem bn:∀xs:List (List Go.Proofs.YtclmbjbbojdojaaGreat.D),(cvR xs).length =xs.length
 | [] =>rfl
 |x::xs=>by rw [cvR,List.length_cons,List.length_cons,bn xs]
theorem bp:∀xs:List Go.Proofs.YtclmbjbbojdojaaGreat.D,(cvC xs).length =xs.length
 | [] =>rfl
 |x::xs=>by rw [cvC,List.length_cons,List.length_cons,bp xs]
theorem FB:∀xs ys:List Go.Proofs.YtclmbjbbojdojaaGreat.D,cvC (xs++ys)=cvC xs++cvC ys
 | [],ys=>rfl
 |x::xs,ys=>by rw [List.cons_append,cvC,cvC,FB xs ys]; rfl
mutual
theorem gD {w}:∀ {d} {v},Go.Proofs.YtclmbjbbojdojaaGreat.Rep w d v→Rep w (cv d) v
 | .int k n,v,h=>by grind [Go.Proofs.YtclmbjbbojdojaaGreat.Rep,cv,Rep]
 | .bool b,v,h=>by grind [Go.Proofs.YtclmbjbbojdojaaGreat.Rep,cv,Rep]
 | .str s,v,h=>by grind [Go.Proofs.YtclmbjbbojdojaaGreat.Rep,cv,Rep]
 | .sl sz xs,v,h=>by
  simp only [Go.Proofs.YtclmbjbbojdojaaGreat.Rep] at h
  obtain⟨a,c,hv,h1,h2,h3⟩:=h
  simp only [cv,Rep,bn]
  refine⟨a,c,hv,h1,h2,?_⟩
  rcases h3 with h3|⟨b,off,ha,hr⟩
  ·exact .inl (by rw [h3]; rfl)
  ·exact .inr ⟨sz,b,off,ha,bq hr⟩
theorem bq {w} {sz b}:∀ {off} {xs},Go.Proofs.YtclmbjbbojdojaaGreat.RepR w sz b off xs→RepR w sz b off (cvR xs)
 |_,[],_=>by simp [cvR,RepR]
 |off,x::xs,h=>by
  simp only [Go.Proofs.YtclmbjbbojdojaaGreat.RepR] at h
  simp only [cvR,RepR]
  exact⟨by rw [bp]; exact h.1,bt h.2.1,bq h.2.2⟩
theorem bt {w} {b}:∀ {off} {ds},Go.Proofs.YtclmbjbbojdojaaGreat.RepC w b off ds→RepC w b off (cvC ds)
 |_,[],_=>by simp [cvC,RepC]
 |off,d::ds,h=>by
  simp only [Go.Proofs.YtclmbjbbojdojaaGreat.RepC] at h
  simp only [cvC,RepC]
  obtain⟨⟨u,hu,hr⟩,h2⟩:=h
  exact⟨⟨u,hu,gD hr⟩,bt h2⟩
end
mutual
def D.ok:D→Prop
 | .gone =>True
 | .int k n=>(Lit.int k n).wf =true
 | .bool _=>True
 | .str s=>s.size≤maxLen
 | .sl rows=>rows.length≤maxLen∧VV rows
 | .fz rows=>rows.length≤maxLen∧VV rows
 | .ptr ds=>Et ds
 | .nilp =>True
 | .nl =>True
def VV:List (List D)→Prop
 | [] =>True
 |r::rs=>Et r∧VV rs
def Et:List D→Prop
 | [] =>True
 |d::ds=>D.ok d∧Et ds
end
mutual
theorem Rep.ok {w}:∀ {d} {v},Rep w d v→D.ok d
 | .gone,v,h=>by grind [D.ok]
 | .int k n,v,h=>by grind [Rep,D.ok]
 | .bool b,v,h=>by grind [D.ok]
 | .str s,v,h=>by grind [Rep,D.ok]
 | .sl rows,v,h=>by
  simp only [Rep] at h
  obtain⟨a,c,hv,h1,h2,h3⟩:=h
  simp only [D.ok]
  refine⟨Nat.le_trans h1 h2,?_⟩
  rcases h3 with h3|⟨sz,b,off,ha,hr⟩
  ·rw [h3]; simp [VV]
  ·exact RepR.ok hr
 | .fz rows,v,h=>by
  simp only [Rep] at h
  obtain⟨a,c,hv,h1,h2,h3⟩:=h
  simp only [D.ok]
  refine⟨Nat.le_trans h1 h2,?_⟩
  rcases h3 with h3|⟨sz,b,off,ha,hr⟩
  ·rw [h3]; simp [VV]
  ·exact RepR.ok hr
 | .ptr ds,v,h=>by
  simp only [Rep] at h
  obtain⟨b,off,hv,hc⟩:=h
  simp only [D.ok]
  exact RepC.ok hc
 | .nilp,v,h=>by grind [D.ok]
 | .nl,v,h=>by grind [D.ok]
theorem RepR.ok {w} {sz b}:∀ {off} {xs},RepR w sz b off xs→VV xs
 |_,[],_=>by simp [VV]
 |off,x::xs,h=>by
  simp only [RepR] at h
  simp only [VV]
  exact⟨RepC.ok h.2.1,RepR.ok h.2.2⟩
theorem RepC.ok {w} {b}:∀ {off} {ds},RepC w b off ds→Et ds
 |_,[],_=>by simp [Et]
 |off,d::ds,h=>by
  simp only [RepC] at h
  simp only [Et]
  obtain⟨⟨u,hu,hr⟩,h2⟩:=h
  exact⟨Rep.ok hr,RepC.ok h2⟩
end
theorem FW {α:Type} {f:α→List D} {x:α}:∀ {l:List α},VV (List.map f l)→x ∈ l→Et (f x)
 |y::ys,h,hx=>by
  rw [List.map_cons] at h
  simp only [VV] at h
  rcases List.mem_cons.1 hx with rfl|hx
  ·exact h.1
  ·exact FW h.2 hx
theorem Yw {w}:∀ {ds} {vs},Go.Proofs.YtclmbjbbojdojaaGreat.Reps w ds vs→AH w Gh.none ((cvC ds).map ofD) vs∧Et (cvC ds)
 | [],[],_=>by simp [cvC,AH,Et]
 |d::ds,v::vs,h=>by
  obtain⟨h1,h2⟩:=Yw h.2
  have h3:=gD h.1
  simp only [cvC,List.map_cons,AH,Et]
  exact⟨⟨v,vs,rfl,VSim.of_rep h3,h1⟩,Rep.ok h3,h2⟩
 | [],_::_,h=>h.elim
 |_::_,[],h=>h.elim
theorem Dp {P} {n} {t} {k} {ds} (ht:P.underlying t=some (.int k)) (h:D7 P n t ds):∃z,ds=[.int k z] :=by
 cases n with
 |zero=>grind [D7]
 |succ n=>grind [D7]
theorem KE {P} {n} {t} {ds} (ht:P.underlying t=some .bool) (h:D7 P n t ds):∃b,ds=[.bool b] :=by
 cases n with
 |zero=>grind [D7]
 |succ n=>grind [D7]
theorem H6 {P} {n} {t} {fs} {ds} (ht:P.underlying t=some (.struct fs)) (h:D7 P n t ds):∃m,m<n∧Kt (D7 P m) fs.toList ds:=by
 cases n with
 |zero=>grind [D7]
 |succ n=>grind [D7]
theorem FX {α:Type} (f:α→List D) {P} {n} {t e} {ds} (ht:P.underlying t=some (.slice e)) (hx:∀m x,m<n→D7 P m e x→∃a,cvC x=f a) (h:D7 P n t ds):
  ∃xs:List α,cvC ds=[.sl (List.map f xs)] :=by
 cases n with
 |zero=>grind [D7]
 | succ n=>
  unfold D7 at h
  rw [ht] at h
  obtain⟨xs,rfl,hxs⟩:=h
  suffices ∃zs:List α,cvR xs=zs.map f by
   grind [cvC,cv]
  induction xs with
  |nil=>exact⟨[],rfl⟩
  |cons x xs ih=>
   obtain⟨z,hz⟩:=hx n x (Nat.lt_succ_self n) (hxs x (by simp))
   obtain⟨zs,hzs⟩:=ih fun y hy=>hxs y (by grind)
   exact⟨z::zs,by rw [cvR,hz,hzs]; rfl⟩
theorem mC {P:Program} {w:World} (h:w.ShapedOpen P) (hl:decide (P.globals.size<P.low)=true):P.low≤w.heap.size:=by
 have hl':=of_decide_eq_true hl
 unfold Program.low at hl' ⊢
 obtain⟨o,o₀,h1,-⟩:=h.2 ((begin P (fun _ _=>0) default).world.heap.size - 1) (by omega) (by omega)
 grind
theorem di {P:Program} {f:FuncId} {as:List AV} {us:List Value} {w:World} (h:AC P f as (.bool true)) (hsh:w.ShapedOpen P) (hl:decide (P.globals.size<P.low)=true) (ham:Amb P w) (hv:AH w Gh.none as us):
  Calls P f us.toArray w fun e w'=>e= .returned (.bool true)∧Below w.heap.size w w':=by
 refine(h.2 w us hsh (mC hsh hl) ham hv).mono ?_
 grind [RSim]
theorem gE {w} {vs} {cs} (h:AH w Gh.none vs (Value.agg cs).cells.toList):VSim w Gh.none (.agg vs) (.agg cs):=by
 grind [VSim,Value.cells]
end Go.Proofs.YtclmbjbbojdojaaGreat.Ab
