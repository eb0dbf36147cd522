/-
  From a row's reading of the arguments to the abstract walk's: data trees of the one form and of the other, what reads is such as memory can hold, a law's call.
-/
import Derived.Test.YtckcfdggbbabfaaGreatAbY
import Derived.Test.YtckcfdggbbabfaaGreatReads
import Derived.HandedShaped
namespace Go.Proofs.YtckcfdggbbabfaaGreat.Ab
set_option linter.unusedVariables false
open Go.RowKit
mutual
def cv:Go.Proofs.YtckcfdggbbabfaaGreat.D→D
 | .int k n=>.int k n
 | .bool b=>.bool b
 | .str s=>.str s
 | .sl _ xs=>.sl (cvR xs)
def cvR:List (List Go.Proofs.YtckcfdggbbabfaaGreat.D)→List (List D)
 | [] =>[]
 |x::xs=>cvC x::cvR xs
def cvC:List Go.Proofs.YtckcfdggbbabfaaGreat.D→List D
 | [] =>[]
 |d::ds=>cv d::cvC ds
end
theorem V4:∀xs:List (List Go.Proofs.YtckcfdggbbabfaaGreat.D),(cvR xs).length =xs.length
 | [] =>rfl
 |x::xs=>by rw [cvR,List.length_cons,List.length_cons,V4 xs]
theorem V5:∀xs:List Go.Proofs.YtckcfdggbbabfaaGreat.D,(cvC xs).length =xs.length
 | [] =>rfl
 |x::xs=>by rw [cvC,List.length_cons,List.length_cons,V5 xs]
theorem Jh:∀xs ys:List Go.Proofs.YtckcfdggbbabfaaGreat.D,cvC (xs++ys)=cvC xs++cvC ys
 | [],ys=>rfl
 |x::xs,ys=>by rw [List.cons_append,cvC,cvC,Jh xs ys]; rfl
mutual
theorem Y7 {w:World}:∀ {d:Go.Proofs.YtckcfdggbbabfaaGreat.D} {v:Value},Go.Proofs.YtckcfdggbbabfaaGreat.Rep w d v→Rep w (cv d) v
 | .int k n,v,h=>by simpa [Go.Proofs.YtckcfdggbbabfaaGreat.Rep,cv,Rep] using h
 | .bool b,v,h=>by simpa [Go.Proofs.YtckcfdggbbabfaaGreat.Rep,cv,Rep] using h
 | .str s,v,h=>by simpa [Go.Proofs.YtckcfdggbbabfaaGreat.Rep,cv,Rep] using h
 | .sl sz xs,v,h=>by
  simp only [Go.Proofs.YtckcfdggbbabfaaGreat.Rep] at h
  obtain⟨a,c,hv,h1,h2,h3⟩:=h
  simp only [cv,Rep,V4]
  refine⟨a,c,hv,h1,h2,?_⟩
  rcases h3 with h3|⟨b,off,ha,hr⟩
  ·exact .inl (by rw [h3]; rfl)
  ·exact .inr ⟨sz,b,off,ha,V6 hr⟩
theorem V6 {w:World} {sz b:Nat}:∀ {off:Nat} {xs:List (List Go.Proofs.YtckcfdggbbabfaaGreat.D)},Go.Proofs.YtckcfdggbbabfaaGreat.RepR w sz b off xs→RepR w sz b off (cvR xs)
 |_,[],_=>by simp [cvR,RepR]
 |off,x::xs,h=>by
  simp only [Go.Proofs.YtckcfdggbbabfaaGreat.RepR] at h
  simp only [cvR,RepR]
  exact⟨by rw [V5]; exact h.1,V7 h.2.1,V6 h.2.2⟩
theorem V7 {w:World} {b:Nat}:∀ {off:Nat} {ds:List Go.Proofs.YtckcfdggbbabfaaGreat.D},Go.Proofs.YtckcfdggbbabfaaGreat.RepC w b off ds→RepC w b off (cvC ds)
 |_,[],_=>by simp [cvC,RepC]
 |off,d::ds,h=>by
  simp only [Go.Proofs.YtckcfdggbbabfaaGreat.RepC] at h
  simp only [cvC,RepC]
  obtain⟨⟨u,hu,hr⟩,h2⟩:=h
  exact⟨⟨u,hu,Y7 hr⟩,V7 h2⟩
end
mutual
def D.ok:D→Prop
 | .gone =>True
 | .int k n=>(Lit.int k n).wf =true
 | .bool _=>True
 | .str s=>s.size≤maxLen
 | .sl rows=>rows.length≤maxLen∧QZ rows
 | .fz rows=>rows.length≤maxLen∧QZ rows
 | .ptr ds=>IL ds
 | .nilp =>True
def QZ:List (List D)→Prop
 | [] =>True
 |r::rs=>IL r∧QZ rs
def IL:List D→Prop
 | [] =>True
 |d::ds=>D.ok d∧IL ds
end
mutual
theorem Rep.ok {w:World}:∀ {d:D} {v:Value},Rep w d v→D.ok d
 | .gone,v,h=>by simp only [D.ok]
 | .int k n,v,h=>by simp only [Rep] at h; simp only [D.ok]; exact h.2
 | .bool b,v,h=>by simp only [D.ok]
 | .str s,v,h=>by simp only [Rep] at h; simp only [D.ok]; exact h.2
 | .sl rows,v,h=>by
  simp only [Rep] at h
  obtain⟨a,c,hv,h1,h2,h3⟩:=h
  simp only [D.ok]
  refine⟨Nat.le_trans h1 h2,?_⟩
  rcases h3 with h3|⟨sz,b,off,ha,hr⟩
  ·rw [h3]; simp [QZ]
  ·exact RepR.ok hr
 | .fz rows,v,h=>by
  simp only [Rep] at h
  obtain⟨a,c,hv,h1,h2,h3⟩:=h
  simp only [D.ok]
  refine⟨Nat.le_trans h1 h2,?_⟩
  rcases h3 with h3|⟨sz,b,off,ha,hr⟩
  ·rw [h3]; simp [QZ]
  ·exact RepR.ok hr
 | .ptr ds,v,h=>by
  simp only [Rep] at h
  obtain⟨b,off,hv,hc⟩:=h
  simp only [D.ok]
  exact RepC.ok hc
 | .nilp,v,h=>by simp only [D.ok]
theorem RepR.ok {w:World} {sz b:Nat}:∀ {off:Nat} {xs:List (List D)},RepR w sz b off xs→QZ xs
 |_,[],_=>by simp [QZ]
 |off,x::xs,h=>by
  simp only [RepR] at h
  simp only [QZ]
  exact⟨RepC.ok h.2.1,RepR.ok h.2.2⟩
theorem RepC.ok {w:World} {b:Nat}:∀ {off:Nat} {ds:List D},RepC w b off ds→IL ds
 |_,[],_=>by simp [IL]
 |off,d::ds,h=>by
  simp only [RepC] at h
  simp only [IL]
  obtain⟨⟨u,hu,hr⟩,h2⟩:=h
  exact⟨Rep.ok hr,RepC.ok h2⟩
end
theorem Kk {α:Type} {f:α→List D} {x:α}:∀ {l:List α},QZ (List.map f l)→x ∈ l→IL (f x)
 |y::ys,h,hx=>by
  rw [List.map_cons] at h
  simp only [QZ] at h
  rcases List.mem_cons.1 hx with rfl|hx
  ·exact h.1
  ·exact Kk h.2 hx
theorem Pm {w:World}:∀ {ds:List Go.Proofs.YtckcfdggbbabfaaGreat.D} {vs:List Value},Go.Proofs.YtckcfdggbbabfaaGreat.Reps w ds vs→AK w Gh.none ((cvC ds).map ofD) vs∧IL (cvC ds)
 | [],[],_=>by simp [cvC,AK,IL]
 |d::ds,v::vs,h=>by
  obtain⟨h1,h2⟩:=Pm h.2
  have h3:=Y7 h.1
  simp only [cvC,List.map_cons,AK,IL]
  exact⟨⟨v,vs,rfl,VSim.of_rep h3,h1⟩,Rep.ok h3,h2⟩
 | [],_::_,h=>h.elim
 |_::_,[],h=>h.elim
theorem Ha {P:Program} {n:Nat} {t:TypeId} {k:IntKind} {ds:List Go.Proofs.YtckcfdggbbabfaaGreat.D} (ht:P.underlying t=some (.int k)) (h:EK P n t ds):∃z,ds=[.int k z] :=by
 cases n with
 |zero=>simp [EK] at h
 |succ n=>unfold EK at h; rw [ht] at h; exact h
theorem Pn {P:Program} {n:Nat} {t:TypeId} {fs:Array Field} {ds:List Go.Proofs.YtckcfdggbbabfaaGreat.D} (ht:P.underlying t=some (.struct fs)) (h:EK P n t ds):∃m,m<n∧OF (EK P m) fs.toList ds:=by
 cases n with
 |zero=>simp [EK] at h
 |succ n=>unfold EK at h; rw [ht] at h; exact⟨n,Nat.lt_succ_self n,h⟩
theorem Mw {α:Type} (f:α→List D) {P:Program} {n:Nat} {t e:TypeId} {ds:List Go.Proofs.YtckcfdggbbabfaaGreat.D} (ht:P.underlying t=some (.slice e)) (hx:∀m x,m<n→EK P m e x→∃a,cvC x=f a) (h:EK P n t ds):
  ∃xs:List α,cvC ds=[.sl (List.map f xs)] :=by
 cases n with
 |zero=>simp [EK] at h
 | succ n=>
  unfold EK at h
  rw [ht] at h
  obtain⟨xs,rfl,hxs⟩:=h
  suffices ∃zs:List α,cvR xs=zs.map f by
   obtain⟨zs,hz⟩:=this
   exact⟨zs,by rw [cvC,cv,hz]; rfl⟩
  induction xs with
  |nil=>exact⟨[],rfl⟩
  |cons x xs ih=>
   obtain⟨z,hz⟩:=hx n x (Nat.lt_succ_self n) (hxs x (by simp))
   obtain⟨zs,hzs⟩:=ih fun y hy=>hxs y (by simp [hy])
   exact⟨z::zs,by rw [cvR,hz,hzs]; rfl⟩
theorem dQ {P:Program} {w:World} (h:w.ShapedOpen P) (hl:decide (P.globals.size<P.low)=true):P.low≤w.heap.size:=by
 have hl':=of_decide_eq_true hl
 unfold Program.low at hl' ⊢
 obtain⟨o,o₀,h1,-⟩:=h.2 ((begin P (fun _ _=>0) default).world.heap.size - 1) (by omega) (by omega)
 have:=lt_of_block h1
 omega
theorem XN {P:Program} {f:FuncId} {as:List AV} {us:List Value} {w:World} (h:AC P f as (.bool true)) (hsh:w.ShapedOpen P) (hl:decide (P.globals.size<P.low)=true) (ham:Amb P w) (hv:AK w Gh.none as us):
  Calls P f us.toArray w fun e w'=>e= .returned (.bool true)∧Below w.heap.size w w':=by
 refine(h.2 w us hsh (dQ hsh hl) ham hv).mono ?_
 rintro e w' ⟨v,fp,rfl,h1,-,-,h2⟩
 simp only [RSim] at h1
 exact⟨by rw [h1.1],h2⟩
theorem Y8 {w:World} {vs:List AV} {cs:Array Value} (h:AK w Gh.none vs (Value.agg cs).cells.toList):VSim w Gh.none (.agg vs) (.agg cs):=by
 simp only [VSim]
 exact⟨cs.toList,by simp,by simpa [Value.cells] using h⟩
end Go.Proofs.YtckcfdggbbabfaaGreat.Ab
