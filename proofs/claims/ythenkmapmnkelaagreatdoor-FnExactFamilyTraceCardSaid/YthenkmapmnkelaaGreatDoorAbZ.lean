/- From a row's reading of the arguments to the abstract walk's. -/
import Derived.Test.YthenkmapmnkelaaGreatDoorAbY
import Derived.Test.YthenkmapmnkelaaGreatDoorReads
import Derived.HandedShaped
namespace Go.Proofs.YthenkmapmnkelaaGreatDoor.Ab
set_option linter.unusedVariables false
set_option maxHeartbeats 1000000
open Go.RowKit
mutual
def cv:Go.Proofs.YthenkmapmnkelaaGreatDoor.D→D
 | .int k n=>.int k n
 | .bool b=>.bool b
 | .str s=>.str s
 | .sl _ xs=>.sl (cvR xs)
def cvR:List (List Go.Proofs.YthenkmapmnkelaaGreatDoor.D)→List (List D)
 | [] =>[]
 |x::xs=>cvC x::cvR xs
def cvC:List Go.Proofs.YthenkmapmnkelaaGreatDoor.D→List D
 | [] =>[]
 |d::ds=>cv d::cvC ds
end
theorem cU:∀xs:List (List Go.Proofs.YthenkmapmnkelaaGreatDoor.D),(cvR xs).length =xs.length
 | [] =>rfl
 |x::xs=>by rw [cvR,List.length_cons,List.length_cons,cU xs]
theorem cV:∀xs:List Go.Proofs.YthenkmapmnkelaaGreatDoor.D,(cvC xs).length =xs.length
 | [] =>rfl
 |x::xs=>by rw [cvC,List.length_cons,List.length_cons,cV xs]
theorem Lb:∀xs ys:List Go.Proofs.YthenkmapmnkelaaGreatDoor.D,cvC (xs++ys)=cvC xs++cvC ys
 | [],ys=>rfl
 |x::xs,ys=>by rw [List.cons_append,cvC,cvC,Lb xs ys]; rfl
mutual
theorem iL {w}:∀ {d} {v},Go.Proofs.YthenkmapmnkelaaGreatDoor.Rep w d v→Rep w (cv d) v
 | .int k n,v,h=>by grind [Go.Proofs.YthenkmapmnkelaaGreatDoor.Rep,cv,Rep]
 | .bool b,v,h=>by grind [Go.Proofs.YthenkmapmnkelaaGreatDoor.Rep,cv,Rep]
 | .str s,v,h=>by grind [Go.Proofs.YthenkmapmnkelaaGreatDoor.Rep,cv,Rep]
 | .sl sz xs,v,h=>by
  simp only [Go.Proofs.YthenkmapmnkelaaGreatDoor.Rep] at h
  obtain⟨a,c,hv,h1,h2,h3⟩:=h
  simp only [cv,Rep,cU]
  refine⟨a,c,hv,h1,h2,?_⟩
  rcases h3 with h3|⟨b,off,ha,hr⟩
  ·exact .inl (by rw [h3]; rfl)
  ·exact .inr ⟨sz,b,off,ha,cW hr⟩
theorem cW {w} {sz b}:∀ {off} {xs},Go.Proofs.YthenkmapmnkelaaGreatDoor.RepR w sz b off xs→RepR w sz b off (cvR xs)
 |_,[],_=>by simp [cvR,RepR]
 |off,x::xs,h=>by
  simp only [Go.Proofs.YthenkmapmnkelaaGreatDoor.RepR] at h
  simp only [cvR,RepR]
  exact⟨by rw [cV]; exact h.1,cX h.2.1,cW h.2.2⟩
theorem cX {w} {b}:∀ {off} {ds},Go.Proofs.YthenkmapmnkelaaGreatDoor.RepC w b off ds→RepC w b off (cvC ds)
 |_,[],_=>by simp [cvC,RepC]
 |off,d::ds,h=>by
  simp only [Go.Proofs.YthenkmapmnkelaaGreatDoor.RepC] at h
  simp only [cvC,RepC]
  obtain⟨⟨u,p,j⟩,h2⟩:=h
  exact⟨⟨⟨u,p,iL j⟩,fun e=>by cases d <;> cases e⟩,cX h2⟩
end
mutual
def D.ok:D→Prop
 | .gone =>True
 | .int k n=>(Lit.int k n).wf =true
 | .bool _=>True
 | .str s=>s.size≤maxLen
 | .sl rows=>rows.length≤maxLen∧U1 rows
 | .fz rows=>rows.length≤maxLen∧U1 rows
 | .ptr ds=>JL ds
 | .nilp =>True
 | .nl =>True
def U1:List (List D)→Prop
 | [] =>True
 |r::rs=>JL r∧U1 rs
def JL:List D→Prop
 | [] =>True
 |d::ds=>D.ok d∧JL ds
end
mutual
theorem Rep.ok {w}:∀ {d} {v},Rep w d v→D.ok d
 | .gone,v,h=>by grind [D.ok]
 | .int k n,v,h=>by grind [Rep,D.ok]
 | .bool b,v,h=>by grind [D.ok]
 | .str s,v,h=>by grind [Rep,D.ok]
 | .sl rows,v,h=>by
  simp only [Rep] at h
  obtain⟨a,c,hv,h1,h2,h3⟩:=h
  simp only [D.ok]
  refine⟨Nat.le_trans h1 h2,?_⟩
  rcases h3 with h3|⟨sz,b,off,ha,hr⟩
  ·rw [h3]; simp [U1]
  ·exact RepR.ok hr
 | .fz rows,v,h=>by
  simp only [Rep] at h
  obtain⟨a,c,hv,h1,h2,h3⟩:=h
  simp only [D.ok]
  refine⟨Nat.le_trans h1 h2,?_⟩
  rcases h3 with h3|⟨sz,b,off,ha,hr⟩
  ·rw [h3]; simp [U1]
  ·exact RepR.ok hr
 | .ptr ds,v,h=>by
  simp only [Rep] at h
  obtain⟨b,off,hv,j⟩:=h
  simp only [D.ok]
  exact RepC.ok j
 | .nilp,v,h=>by grind [D.ok]
 | .nl,v,h=>by grind [D.ok]
theorem RepR.ok {w} {sz b}:∀ {off} {xs},RepR w sz b off xs→U1 xs
 |_,[],_=>by simp [U1]
 |off,x::xs,h=>by
  simp only [RepR] at h
  simp only [U1]
  exact⟨RepC.ok h.2.1,RepR.ok h.2.2⟩
theorem RepC.ok {w} {b}:∀ {off} {ds},RepC w b off ds→JL ds
 |_,[],_=>by simp [JL]
 |off,d::ds,h=>by
  simp only [RepC] at h
  simp only [JL]
  obtain⟨⟨⟨u,p,j⟩,-⟩,h2⟩:=h
  exact⟨Rep.ok j,RepC.ok h2⟩
end
theorem Mk {α:Type} {f:α→List D} {x:α}:∀ {l:List α},U1 (List.map f l)→x ∈ l→JL (f x)
 |y::ys,h,hx=>by
  rw [List.map_cons] at h
  simp only [U1] at h
  rcases List.mem_cons.1 hx with rfl|hx
  ·exact h.1
  ·exact Mk h.2 hx
theorem Pn {w}:∀ {ds} {vs},Go.Proofs.YthenkmapmnkelaaGreatDoor.Reps w ds vs→AH w Gh.none ((cvC ds).map ofD) vs∧JL (cvC ds)
 | [],[],_=>by simp [cvC,AH,JL]
 |d::ds,v::vs,h=>by
  obtain⟨h1,h2⟩:=Pn h.2
  have h3:=iL h.1
  simp only [cvC,List.map_cons,AH,JL]
  exact⟨⟨v,vs,rfl,VSim.of_rep h3,h1⟩,Rep.ok h3,h2⟩
 | [],_::_,h=>h.elim
 |_::_,[],h=>h.elim
theorem Ht {P} {n} {t} {k} {ds} (ht:P.underlying t=some (.int k)) (h:E6 P n t ds):∃z,ds=[.int k z] :=by
 cases n with
 |zero=>grind [E6]
 |succ n=>grind [E6]
theorem UB {P} {n} {t} {fs} {ds} (ht:P.underlying t=some (.struct fs)) (h:E6 P n t ds):∃m,m<n∧Rz (E6 P m) fs.toList ds:=by
 cases n with
 |zero=>grind [E6]
 |succ n=>grind [E6]
theorem Ml {α:Type} (f:α→List D) {P} {n} {t e} {ds} (ht:P.underlying t=some (.slice e)) (hx:∀m x,m<n→E6 P m e x→∃a,cvC x=f a) (h:E6 P n t ds):
  ∃j:List α,cvC ds=[.sl (List.map f j)] :=by
 cases n with
 |zero=>grind [E6]
 | succ n=>
  unfold E6 at h
  rw [ht] at h
  obtain⟨j,rfl,p⟩:=h
  suffices ∃zs:List α,cvR j=zs.map f by
   grind [cvC,cv]
  induction j with
  |nil=>exact⟨[],rfl⟩
  |cons x j ih=>
   obtain⟨z,hz⟩:=hx n x (Nat.lt_succ_self n) (p x (by simp))
   obtain⟨zs,q⟩:=ih fun y hy=>p y (by grind)
   exact⟨z::zs,by rw [cvR,hz,q]; rfl⟩
theorem nw {P:Program} {w:World} (h:w.ShapedOpen P) (hl:decide (P.globals.size<P.low)=true):P.low≤w.heap.size:=by
 have j:=of_decide_eq_true hl
 unfold Program.low at j ⊢
 obtain⟨o,p,h1,-⟩:=h.2 ((begin P (fun _ _=>0) default).world.heap.size - 1) (by omega) (by omega)
 grind
theorem eU {P:Program} {f:FuncId} {as:List AV} {us:List Value} {w:World} (h:AC P f as (.bool true)) (hsh:w.ShapedOpen P) (hl:decide (P.globals.size<P.low)=true) (ham:Amb P w) (hv:AH w Gh.none as us):
  Calls P f us.toArray w fun e w'=>e= .returned (.bool true)∧Below w.heap.size w w':=by
 refine(h.2 w us hsh (nw hsh hl) ham hv).mono ?_
 grind [RSim]
theorem iM {w} {vs} {cs} (h:AH w Gh.none vs (Value.agg cs).cells.toList):VSim w Gh.none (.agg vs) (.agg cs):=by
 grind [VSim,Value.cells]
end Go.Proofs.YthenkmapmnkelaaGreatDoor.Ab
