/-
  From a row's reading of the arguments to the abstract walk's: data trees of the one form and of the other, what reads is such as memory can hold, a law's call.
-/
import Derived.Test.YtclmbjbbojdojaaGreatAbY
import Derived.Test.YtclmbjbbojdojaaGreatReads
import Derived.HandedShaped
namespace Go.Proofs.YtclmbjbbojdojaaGreat.Ab
set_option linter.unusedVariables false
set_option maxHeartbeats 1000000
open Go.RowKit
mutual
def cv:Go.Proofs.YtclmbjbbojdojaaGreat.D→D
 | .int k n=>.int k n
 | .bool b=>.bool b
 | .str s=>.str s
 | .sl _ xs=>.sl (cvR xs)
def cvR:List (List Go.Proofs.YtclmbjbbojdojaaGreat.D)→List (List D)
 | [] =>[]
 |x::xs=>cvC x::cvR xs
def cvC:List Go.Proofs.YtclmbjbbojdojaaGreat.D→List D
 | [] =>[]
 |d::ds=>cv d::cvC ds
end
theorem Vy:∀xs:List (List Go.Proofs.YtclmbjbbojdojaaGreat.D),(cvR xs).length =xs.length
 | [] =>rfl
 |x::xs=>by rw [cvR,List.length_cons,List.length_cons,Vy xs]
theorem Vz:∀xs:List Go.Proofs.YtclmbjbbojdojaaGreat.D,(cvC xs).length =xs.length
 | [] =>rfl
 |x::xs=>by rw [cvC,List.length_cons,List.length_cons,Vz xs]
theorem JS:∀xs ys:List Go.Proofs.YtclmbjbbojdojaaGreat.D,cvC (xs++ys)=cvC xs++cvC ys
 | [],ys=>rfl
 |x::xs,ys=>by rw [List.cons_append,cvC,cvC,JS xs ys]; rfl
mutual
theorem Ys {w}:∀ {d} {v},Go.Proofs.YtclmbjbbojdojaaGreat.Rep w d v→Rep w (cv d) v
 | .int k n,v,h=>by grind [Go.Proofs.YtclmbjbbojdojaaGreat.Rep,cv,Rep]
 | .bool b,v,h=>by grind [Go.Proofs.YtclmbjbbojdojaaGreat.Rep,cv,Rep]
 | .str s,v,h=>by grind [Go.Proofs.YtclmbjbbojdojaaGreat.Rep,cv,Rep]
 | .sl sz xs,v,h=>by
  simp only [Go.Proofs.YtclmbjbbojdojaaGreat.Rep] at h
  obtain⟨a,c,hv,h1,h2,h3⟩:=h
  simp only [cv,Rep,Vy]
  refine⟨a,c,hv,h1,h2,?_⟩
  rcases h3 with h3|⟨b,off,ha,hr⟩
  ·exact .inl (by rw [h3]; rfl)
  ·exact .inr ⟨sz,b,off,ha,V0 hr⟩
theorem V0 {w} {sz b}:∀ {off} {xs},Go.Proofs.YtclmbjbbojdojaaGreat.RepR w sz b off xs→RepR w sz b off (cvR xs)
 |_,[],_=>by simp [cvR,RepR]
 |off,x::xs,h=>by
  simp only [Go.Proofs.YtclmbjbbojdojaaGreat.RepR] at h
  simp only [cvR,RepR]
  exact⟨by rw [Vz]; exact h.1,V1 h.2.1,V0 h.2.2⟩
theorem V1 {w} {b}:∀ {off} {ds},Go.Proofs.YtclmbjbbojdojaaGreat.RepC w b off ds→RepC w b off (cvC ds)
 |_,[],_=>by simp [cvC,RepC]
 |off,d::ds,h=>by
  simp only [Go.Proofs.YtclmbjbbojdojaaGreat.RepC] at h
  simp only [cvC,RepC]
  obtain⟨⟨u,hu,hr⟩,h2⟩:=h
  exact⟨⟨u,hu,Ys hr⟩,V1 h2⟩
end
mutual
def D.ok:D→Prop
 | .gone =>True
 | .int k n=>(Lit.int k n).wf =true
 | .bool _=>True
 | .str s=>s.size≤maxLen
 | .sl rows=>rows.length≤maxLen∧QZ rows
 | .fz rows=>rows.length≤maxLen∧QZ rows
 | .ptr ds=>Bw ds
 | .nilp =>True
 | .nl =>True
def QZ:List (List D)→Prop
 | [] =>True
 |r::rs=>Bw r∧QZ rs
def Bw:List D→Prop
 | [] =>True
 |d::ds=>D.ok d∧Bw ds
end
mutual
theorem Rep.ok {w}:∀ {d} {v},Rep w d v→D.ok d
 | .gone,v,h=>by grind [D.ok]
 | .int k n,v,h=>by grind [Rep,D.ok]
 | .bool b,v,h=>by grind [D.ok]
 | .str s,v,h=>by grind [Rep,D.ok]
 | .sl rows,v,h=>by
  simp only [Rep] at h
  obtain⟨a,c,hv,h1,h2,h3⟩:=h
  simp only [D.ok]
  refine⟨Nat.le_trans h1 h2,?_⟩
  rcases h3 with h3|⟨sz,b,off,ha,hr⟩
  ·rw [h3]; simp [QZ]
  ·exact RepR.ok hr
 | .fz rows,v,h=>by
  simp only [Rep] at h
  obtain⟨a,c,hv,h1,h2,h3⟩:=h
  simp only [D.ok]
  refine⟨Nat.le_trans h1 h2,?_⟩
  rcases h3 with h3|⟨sz,b,off,ha,hr⟩
  ·rw [h3]; simp [QZ]
  ·exact RepR.ok hr
 | .ptr ds,v,h=>by
  simp only [Rep] at h
  obtain⟨b,off,hv,hc⟩:=h
  simp only [D.ok]
  exact RepC.ok hc
 | .nilp,v,h=>by grind [D.ok]
 | .nl,v,h=>by grind [D.ok]
theorem RepR.ok {w} {sz b}:∀ {off} {xs},RepR w sz b off xs→QZ xs
 |_,[],_=>by simp [QZ]
 |off,x::xs,h=>by
  simp only [RepR] at h
  simp only [QZ]
  exact⟨RepC.ok h.2.1,RepR.ok h.2.2⟩
theorem RepC.ok {w} {b}:∀ {off} {ds},RepC w b off ds→Bw ds
 |_,[],_=>by simp [Bw]
 |off,d::ds,h=>by
  simp only [RepC] at h
  simp only [Bw]
  obtain⟨⟨u,hu,hr⟩,h2⟩:=h
  exact⟨Rep.ok hr,RepC.ok h2⟩
end
theorem Bi {α:Type} {f:α→List D} {x:α}:∀ {l:List α},QZ (List.map f l)→x ∈ l→Bw (f x)
 |y::ys,h,hx=>by
  rw [List.map_cons] at h
  simp only [QZ] at h
  rcases List.mem_cons.1 hx with rfl|hx
  ·exact h.1
  ·exact Bi h.2 hx
theorem P4 {w}:∀ {ds} {vs},Go.Proofs.YtclmbjbbojdojaaGreat.Reps w ds vs→AI w Gh.none ((cvC ds).map ofD) vs∧Bw (cvC ds)
 | [],[],_=>by simp [cvC,AI,Bw]
 |d::ds,v::vs,h=>by
  obtain⟨h1,h2⟩:=P4 h.2
  have h3:=Ys h.1
  simp only [cvC,List.map_cons,AI,Bw]
  exact⟨⟨v,vs,rfl,VSim.of_rep h3,h1⟩,Rep.ok h3,h2⟩
 | [],_::_,h=>h.elim
 |_::_,[],h=>h.elim
theorem GQ {P} {n} {t} {k} {ds} (ht:P.underlying t=some (.int k)) (h:EX P n t ds):∃z,ds=[.int k z] :=by
 cases n with
 |zero=>grind [EX]
 |succ n=>grind [EX]
theorem P5 {P} {n} {t} {fs} {ds} (ht:P.underlying t=some (.struct fs)) (h:EX P n t ds):∃m,m<n∧OT (EX P m) fs.toList ds:=by
 cases n with
 |zero=>grind [EX]
 |succ n=>grind [EX]
theorem Mz {α:Type} (f:α→List D) {P} {n} {t e} {ds} (ht:P.underlying t=some (.slice e)) (hx:∀m x,m<n→EX P m e x→∃a,cvC x=f a) (h:EX P n t ds):
  ∃xs:List α,cvC ds=[.sl (List.map f xs)] :=by
 cases n with
 |zero=>grind [EX]
 | succ n=>
  unfold EX at h
  rw [ht] at h
  obtain⟨xs,rfl,hxs⟩:=h
  suffices ∃zs:List α,cvR xs=zs.map f by
   grind [cvC,cv]
  induction xs with
  |nil=>exact⟨[],rfl⟩
  |cons x xs ih=>
   obtain⟨z,hz⟩:=hx n x (Nat.lt_succ_self n) (hxs x (by simp))
   obtain⟨zs,hzs⟩:=ih fun y hy=>hxs y (by grind)
   exact⟨z::zs,by rw [cvR,hz,hzs]; rfl⟩
theorem dR {P:Program} {w:World} (h:w.ShapedOpen P) (hl:decide (P.globals.size<P.low)=true):P.low≤w.heap.size:=by
 have hl':=of_decide_eq_true hl
 unfold Program.low at hl' ⊢
 obtain⟨o,o₀,h1,-⟩:=h.2 ((begin P (fun _ _=>0) default).world.heap.size - 1) (by omega) (by omega)
 grind
theorem XF {P:Program} {f:FuncId} {as:List AV} {us:List Value} {w:World} (h:AC P f as (.bool true)) (hsh:w.ShapedOpen P) (hl:decide (P.globals.size<P.low)=true) (ham:Amb P w) (hv:AI w Gh.none as us):
  Calls P f us.toArray w fun e w'=>e= .returned (.bool true)∧Below w.heap.size w w':=by
 refine(h.2 w us hsh (dR hsh hl) ham hv).mono ?_
 grind [RSim]
theorem Yt {w} {vs} {cs} (h:AI w Gh.none vs (Value.agg cs).cells.toList):VSim w Gh.none (.agg vs) (.agg cs):=by
 grind [VSim,Value.cells]
end Go.Proofs.YtclmbjbbojdojaaGreat.Ab
