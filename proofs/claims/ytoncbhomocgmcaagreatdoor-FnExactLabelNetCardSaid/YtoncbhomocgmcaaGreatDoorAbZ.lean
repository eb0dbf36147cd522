/-
  From a row's reading of the arguments to the abstract walk's: data trees of the one form and of the other, what reads is such as memory can hold, a law's call.
-/
import Derived.Test.YtoncbhomocgmcaaGreatDoorAbY
import Derived.Test.YtoncbhomocgmcaaGreatDoorReads
import Derived.HandedShaped
namespace Go.Proofs.YtoncbhomocgmcaaGreatDoor.Ab
set_option linter.unusedVariables false
set_option maxHeartbeats 1000000
open Go.RowKit
mutual
def cv:Go.Proofs.YtoncbhomocgmcaaGreatDoor.D→D
 | .int k n=>.int k n
 | .bool b=>.bool b
 | .str s=>.str s
 | .sl _ xs=>.sl (cvR xs)
def cvR:List (List Go.Proofs.YtoncbhomocgmcaaGreatDoor.D)→List (List D)
 | [] =>[]
 |x::xs=>cvC x::cvR xs
def cvC:List Go.Proofs.YtoncbhomocgmcaaGreatDoor.D→List D
 | [] =>[]
 |d::ds=>cv d::cvC ds
end
theorem Uo:∀xs:List (List Go.Proofs.YtoncbhomocgmcaaGreatDoor.D),(cvR xs).length =xs.length
 | [] =>rfl
 |x::xs=>by rw [cvR,List.length_cons,List.length_cons,Uo xs]
theorem Up:∀xs:List Go.Proofs.YtoncbhomocgmcaaGreatDoor.D,(cvC xs).length =xs.length
 | [] =>rfl
 |x::xs=>by rw [cvC,List.length_cons,List.length_cons,Up xs]
theorem Hg:∀xs ys:List Go.Proofs.YtoncbhomocgmcaaGreatDoor.D,cvC (xs++ys)=cvC xs++cvC ys
 | [],ys=>rfl
 |x::xs,ys=>by rw [List.cons_append,cvC,cvC,Hg xs ys]; rfl
mutual
theorem Xt {w}:∀ {d} {v},Go.Proofs.YtoncbhomocgmcaaGreatDoor.Rep w d v→Rep w (cv d) v
 | .int k n,v,h=>by grind [Go.Proofs.YtoncbhomocgmcaaGreatDoor.Rep,cv,Rep]
 | .bool b,v,h=>by grind [Go.Proofs.YtoncbhomocgmcaaGreatDoor.Rep,cv,Rep]
 | .str s,v,h=>by grind [Go.Proofs.YtoncbhomocgmcaaGreatDoor.Rep,cv,Rep]
 | .sl sz xs,v,h=>by
  simp only [Go.Proofs.YtoncbhomocgmcaaGreatDoor.Rep] at h
  obtain⟨a,c,hv,h1,h2,h3⟩:=h
  simp only [cv,Rep,Uo]
  refine⟨a,c,hv,h1,h2,?_⟩
  rcases h3 with h3|⟨b,off,ha,hr⟩
  ·exact .inl (by rw [h3]; rfl)
  ·exact .inr ⟨sz,b,off,ha,Uq hr⟩
theorem Uq {w} {sz b}:∀ {off} {xs},Go.Proofs.YtoncbhomocgmcaaGreatDoor.RepR w sz b off xs→RepR w sz b off (cvR xs)
 |_,[],_=>by simp [cvR,RepR]
 |off,x::xs,h=>by
  simp only [Go.Proofs.YtoncbhomocgmcaaGreatDoor.RepR] at h
  simp only [cvR,RepR]
  exact⟨by rw [Up]; exact h.1,Ur h.2.1,Uq h.2.2⟩
theorem Ur {w} {b}:∀ {off} {ds},Go.Proofs.YtoncbhomocgmcaaGreatDoor.RepC w b off ds→RepC w b off (cvC ds)
 |_,[],_=>by simp [cvC,RepC]
 |off,d::ds,h=>by
  simp only [Go.Proofs.YtoncbhomocgmcaaGreatDoor.RepC] at h
  simp only [cvC,RepC]
  obtain⟨⟨u,hu,hr⟩,h2⟩:=h
  exact⟨⟨⟨u,hu,Xt hr⟩,fun e=>by cases d <;> cases e⟩,Ur h2⟩
end
mutual
def D.ok:D→Prop
 | .gone =>True
 | .int k n=>(Lit.int k n).wf =true
 | .bool _=>True
 | .str s=>s.size≤maxLen
 | .sl rows=>rows.length≤maxLen∧Og rows
 | .fz rows=>rows.length≤maxLen∧Og rows
 | .ptr ds=>H1 ds
 | .nilp =>True
 | .nl =>True
def Og:List (List D)→Prop
 | [] =>True
 |r::rs=>H1 r∧Og rs
def H1:List D→Prop
 | [] =>True
 |d::ds=>D.ok d∧H1 ds
end
mutual
theorem Rep.ok {w}:∀ {d} {v},Rep w d v→D.ok d
 | .gone,v,h=>by grind [D.ok]
 | .int k n,v,h=>by grind [Rep,D.ok]
 | .bool b,v,h=>by grind [D.ok]
 | .str s,v,h=>by grind [Rep,D.ok]
 | .sl rows,v,h=>by
  simp only [Rep] at h
  obtain⟨a,c,hv,h1,h2,h3⟩:=h
  simp only [D.ok]
  refine⟨Nat.le_trans h1 h2,?_⟩
  rcases h3 with h3|⟨sz,b,off,ha,hr⟩
  ·rw [h3]; simp [Og]
  ·exact RepR.ok hr
 | .fz rows,v,h=>by
  simp only [Rep] at h
  obtain⟨a,c,hv,h1,h2,h3⟩:=h
  simp only [D.ok]
  refine⟨Nat.le_trans h1 h2,?_⟩
  rcases h3 with h3|⟨sz,b,off,ha,hr⟩
  ·rw [h3]; simp [Og]
  ·exact RepR.ok hr
 | .ptr ds,v,h=>by
  simp only [Rep] at h
  obtain⟨b,off,hv,hc⟩:=h
  simp only [D.ok]
  exact RepC.ok hc
 | .nilp,v,h=>by grind [D.ok]
 | .nl,v,h=>by grind [D.ok]
theorem RepR.ok {w} {sz b}:∀ {off} {xs},RepR w sz b off xs→Og xs
 |_,[],_=>by simp [Og]
 |off,x::xs,h=>by
  simp only [RepR] at h
  simp only [Og]
  exact⟨RepC.ok h.2.1,RepR.ok h.2.2⟩
theorem RepC.ok {w} {b}:∀ {off} {ds},RepC w b off ds→H1 ds
 |_,[],_=>by simp [H1]
 |off,d::ds,h=>by
  simp only [RepC] at h
  simp only [H1]
  obtain⟨⟨⟨u,hu,hr⟩,-⟩,h2⟩:=h
  exact⟨Rep.ok hr,RepC.ok h2⟩
end
theorem Kz {α:Type} {f:α→List D} {x:α}:∀ {l:List α},Og (List.map f l)→x ∈ l→H1 (f x)
 |y::ys,h,hx=>by
  rw [List.map_cons] at h
  simp only [Og] at h
  rcases List.mem_cons.1 hx with rfl|hx
  ·exact h.1
  ·exact Kz h.2 hx
theorem SJ {w}:∀ {ds} {vs},Go.Proofs.YtoncbhomocgmcaaGreatDoor.Reps w ds vs→AD w Gh.none ((cvC ds).map ofD) vs∧H1 (cvC ds)
 | [],[],_=>by simp [cvC,AD,H1]
 |d::ds,v::vs,h=>by
  obtain⟨h1,h2⟩:=SJ h.2
  have h3:=Xt h.1
  simp only [cvC,List.map_cons,AD,H1]
  exact⟨⟨v,vs,rfl,VSim.of_rep h3,h1⟩,Rep.ok h3,h2⟩
 | [],_::_,h=>h.elim
 |_::_,[],h=>h.elim
theorem Fg {P} {n} {t} {k} {ds} (ht:P.underlying t=some (.int k)) (h:Dg P n t ds):∃z,ds=[.int k z] :=by
 cases n with
 |zero=>grind [Dg]
 |succ n=>grind [Dg]
theorem OC {P} {n} {t} {fs} {ds} (ht:P.underlying t=some (.struct fs)) (h:Dg P n t ds):∃m,m<n∧MU (Dg P m) fs.toList ds:=by
 cases n with
 |zero=>grind [Dg]
 |succ n=>grind [Dg]
theorem OD {α:Type} (f:α→List D) {P} {n} {t e} {ds} (ht:P.underlying t=some (.slice e)) (hx:∀m x,m<n→Dg P m e x→∃a,cvC x=f a) (h:Dg P n t ds):
  ∃xs:List α,cvC ds=[.sl (List.map f xs)] :=by
 cases n with
 |zero=>grind [Dg]
 | succ n=>
  unfold Dg at h
  rw [ht] at h
  obtain⟨xs,rfl,hxs⟩:=h
  suffices ∃zs:List α,cvR xs=zs.map f by
   grind [cvC,cv]
  induction xs with
  |nil=>exact⟨[],rfl⟩
  |cons x xs ih=>
   obtain⟨z,hz⟩:=hx n x (Nat.lt_succ_self n) (hxs x (by simp))
   obtain⟨zs,hzs⟩:=ih fun y hy=>hxs y (by grind)
   exact⟨z::zs,by rw [cvR,hz,hzs]; rfl⟩
theorem cW {P:Program} {w:World} (h:w.ShapedOpen P) (hl:decide (P.globals.size<P.low)=true):P.low≤w.heap.size:=by
 have hl':=of_decide_eq_true hl
 unfold Program.low at hl' ⊢
 obtain⟨o,o₀,h1,-⟩:=h.2 ((begin P (fun _ _=>0) default).world.heap.size - 1) (by omega) (by omega)
 grind
theorem V9 {P:Program} {f:FuncId} {as:List AV} {us:List Value} {w:World} (h:AC P f as (.bool true)) (hsh:w.ShapedOpen P) (hl:decide (P.globals.size<P.low)=true) (ham:Amb P w) (hv:AD w Gh.none as us):
  Calls P f us.toArray w fun e w'=>e= .returned (.bool true)∧Below w.heap.size w w':=by
 refine(h.2 w us hsh (cW hsh hl) ham hv).mono ?_
 grind [RSim]
theorem Xu {w} {vs} {cs} (h:AD w Gh.none vs (Value.agg cs).cells.toList):VSim w Gh.none (.agg vs) (.agg cs):=by
 grind [VSim,Value.cells]
end Go.Proofs.YtoncbhomocgmcaaGreatDoor.Ab
