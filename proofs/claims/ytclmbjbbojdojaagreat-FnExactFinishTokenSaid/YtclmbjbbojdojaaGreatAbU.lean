/-
  The abstract walk as rules, second part: the other operations.
-/
import Derived.Test.YtclmbjbbojdojaaGreatAbT
namespace Go.Proofs.YtclmbjbbojdojaaGreat.Ab
set_option linter.unusedVariables false
set_option maxHeartbeats 1000000
open Go.RowKit
section
variable {P:Program} {σ:St} {K:St→Prop} {Q:AE→St→Prop}
theorem Rn {pos} {dst} {op} (h:∀K',aop P pos ⟨dst,op,0, "",#[],none⟩ σ K'=∃r,Ev P pos ⟨dst,op,0, "",#[],none⟩ σ.e σ.T σ.B r∧DY σ r.t∧FS σ r.b∧K' (σ.add dst r)):
  opX P pos dst op σ K=∃r,Ev P pos ⟨dst,op,0, "",#[],none⟩ σ.e σ.T σ.B r∧DY σ r.t∧FS σ r.b∧K (σ.add dst r):=h K
def XJ (v:AV) (K:AV→Prop):Prop:=match v with
 | .box b off=>K (.box b off)
 | .rop ds off=>K (.rop ds off)
 | .elt t sz i off=>K (.elt t sz i off)
 | .els t g p sz i off=>K (.els t g p sz i off)
 |_=>False
@[go_sem] theorem fO {b off} {K}:XJ (.box b off) K=K (.box b off):=rfl
@[go_sem] theorem fP {ds} {off} {K}:XJ (.rop ds off) K=K (.rop ds off):=rfl
@[go_sem] theorem fQ {t sz i off} {K}:XJ (.elt t sz i off) K=K (.elt t sz i off):=rfl
@[go_sem] theorem fR {t g} {p} {sz i off} {K}:XJ (.els t g p sz i off) K=K (.els t g p sz i off):=rfl
theorem aI {pos} {dst} {x}:opX P pos dst (.nilCheck x) σ K=XJ (σ.e x) fun v=>K (σ.put dst v):=by
 rw [J9 (p:=fun v=>XJ (σ.e x) fun u=>v=u) (fun _=>by rfl) (fun r=>by
  simp only [Ev,XJ]
  generalize σ.e x=v
  cases v <;> simp)]
 unfold XJ
 generalize σ.e x=v
 cases v <;> simp
def HB (P:Program) (op:BinOp) (t:TypeId) (x y:AV) (K:AV→Prop):Prop:=∃v,Bin P op t x y v∧K v
def fS (op:BinOp) (y:Operand):Bool:=match op,y with
 | .eql,.const (.slice none 0 0)=>false
 | .neq,.const (.slice none 0 0)=>false
 |_,_=>true
theorem j8 {pos} {dst} {op} {t t'} {x y} (hn:fS op y=true):opX P pos dst (.binOp op t x y t') σ K=HB P op t (σ.e x) (σ.e y) fun v=>K (σ.put dst v):=
 J9 (p:=fun v=>Bin P op t (σ.e x) (σ.e y) v) (fun _=>by
  grind [aop,fS]) (fun r=>by rfl)
section
variable {pos:Nat} {dst:Option Tmp} {op:BinOp} {t t':TypeId} {x:Operand}
theorem dV {y}:opX P pos dst (.binOp op t x (.tmp y) t') σ K=HB P op t (σ.e x) (σ.g y) fun v=>K (σ.put dst v):=j8 (by cases op <;> rfl)
theorem dW {k} {n}:opX P pos dst (.binOp op t x (.const (.int k n)) t') σ K=HB P op t (σ.e x) (.int k n) fun v=>K (σ.put dst v):=j8 (by cases op <;> rfl)
def lT (P:Program) (t:TypeId) (v:AV) (σ:St) (K:Bool→Prop):Prop:=(∃e,ti P t= .sl e)∧P6 v=true∧∀b,gv σ.T v b→K b
def slP (t:TI):Prop:=∃e,t= .sl e
@[go_sem] theorem sN {e}:slP (.sl e)=True:=by simp [slP]
theorem iG {rows} {K} (h:slP (ti P t)) (h0:rows=[] →K true) (h1:K false):lT P t (.ro rows) σ K:=
 ⟨h,rfl,fun b hb=>by
  cases b with
  |false=>exact h1
  |true=>
   refine h0 ?_
   by_cases hr:rows=[]
   ·exact hr
   ·exact absurd (hb hr) (by simp)⟩
theorem fT:opX P pos dst (.binOp .eql t x (.const (.slice none 0 0)) t') σ K=lT P t (σ.e x) σ fun b=>K (σ.put dst (.bool b)):=by
 rfl
end
section
variable {t:TypeId} {k:IntKind} {a b:Int} {K:AV→Prop}
@[go_sem] theorem iH:HB P .add t (.int k a) (.int k b) K=K (.int k (k.wrap (a+b))):=by simp [HB,Bin,MR]
@[go_sem] theorem iI:HB P .sub t (.int k a) (.int k b) K=K (.int k (k.wrap (a - b))):=by simp [HB,Bin,MR]
@[go_sem] theorem iJ:HB P .mul t (.int k a) (.int k b) K=K (.int k (k.wrap (a*b))):=by simp [HB,Bin,MR]
@[go_sem] theorem iK:HB P .eql t (.int k a) (.int k b) K=K (.bool (decide (a=b))):=by simp [HB,Bin,MR]
@[go_sem] theorem iL:HB P .neq t (.int k a) (.int k b) K=K (.bool (!decide (a=b))):=by simp [HB,Bin,MR]
@[go_sem] theorem iM:HB P .lss t (.int k a) (.int k b) K=K (.bool (decide (a<b))):=by simp [HB,Bin,MR]
@[go_sem] theorem iN:HB P .leq t (.int k a) (.int k b) K=K (.bool (decide (a≤b))):=by simp [HB,Bin,MR]
@[go_sem] theorem iO:HB P .gtr t (.int k a) (.int k b) K=K (.bool (decide (b<a))):=by simp [HB,Bin,MR]
@[go_sem] theorem iP:HB P .geq t (.int k a) (.int k b) K=K (.bool (decide (b≤a))):=by simp [HB,Bin,MR]
@[go_sem] theorem iQ:HB P .quo t (.int k a) (.int k b) K=Ac (b≠0) (K (.int k (k.wrap (a.tdiv b)))):=by
 simp only [HB,Bin,Ac,true_and]
 grind
@[go_sem] theorem iR:HB P .rem t (.int k a) (.int k b) K=Ac (b≠0) (K (.int k (a.tmod b))):=by
 simp only [HB,Bin,Ac,true_and]
 grind
end
section
variable {t:TypeId} {a b:ByteArray} {c d:Bool} {K:AV→Prop}
def bY (a b:ByteArray):Bool:=a.toList == b.toList
def dX (o:Option (List KK)) (xs ys:List AV) (K:Bool→Prop):Prop:=∃ks b,o=some ks∧Dm ks xs ys=some b∧K b
def iS (o:Option Bool) (K:Bool→Prop):Prop:=∃b,o=some b∧K b
@[go_sem] theorem nG {ks} {xs ys} {K}:dX (some ks) xs ys K=iS (Dm ks xs ys) K:=by
 simp [dX,iS]
@[go_sem] theorem nH {b} {K}:iS (some b) K=K b:=by simp [iS]
@[go_sem] theorem nI {k} {ks} {a b} {xs ys}:Dm (.int k::ks) (.int k a::xs) (.int k b::ys)=(Dm ks xs ys).map (decide (a=b)&& ·):=by
 rw [Dm]; simp
@[go_sem] theorem od:Dm [] [] [] =some true:=by
 rw [Dm]
@[go_sem] theorem nJ {α β:Type} {f:α→β} {a:α}:Option.map f (some a)=some (f a):=rfl
@[go_sem] theorem fU {xs ys}:HB P .eql t (.agg xs) (.agg ys) K=dX (Eo P t) xs ys fun b=>K (.bool b):=by
 unfold HB Bin dX
 grind
@[go_sem] theorem fW {xs ys}:HB P .neq t (.agg xs) (.agg ys) K=dX (Eo P t) xs ys fun b=>K (.bool !b):=by
 unfold HB Bin dX
 grind
def fX (P:Program) (t:TypeId):Prop:=match ti P t with| .bool =>True|_=>False
@[go_sem] theorem fY:HB P .neq t (.bool c) (.bool d) K=Ac (fX P t) (K (.bool (!(c == d)))):=by
 simp only [HB,Bin,Ac,fX]
 split <;> simp_all
def sO (P:Program) (t:TypeId):Prop:=match ti P t with| .ptr _=>True|_=>False
attribute [go_sem] fX sO
end
def iT (op:UnOp) (x:AV) (K:AV→Prop):Prop:=∃v,Uno op x v∧K v
theorem lU {pos} {dst} {op} {t} {x}:opX P pos dst (.unOp op t x) σ K=iT op (σ.e x) fun v=>K (σ.put dst v):=
 J9 (p:=fun v=>Uno op (σ.e x) v) (fun _=>by rfl) (fun r=>by rfl)
@[go_sem] theorem iU {b} {K}:iT .not (.bool b) K=K (.bool (!b)):=by simp [iT,Uno]
def fZ (t:TI) (K:IntKind→Prop):Prop:=match t with| .int k=>K k|_=>False
@[go_sem] theorem dY {k} {K}:fZ (.int k) K=K k:=rfl
def faX (P:Program) (s:TypeId) (v:AV) (f:Nat) (K:AV→Prop):Prop:=match v with
 | .box b off=>∃q,fOff P s f=some q∧0<tsz P q.2 ∧K (.box b (off+q.1))
 | .rop ds off=>∃q,fOff P s f=some q∧0<tsz P q.2 ∧K (.rop ds (off+q.1))
 | .elt t sz i off=>∃q,fOff P s f=some q∧0<tsz P q.2 ∧K (.elt t sz i (off+q.1))
 | .els t g p sz i off=>∃q,fOff P s f=some q∧0<tsz P q.2 ∧K (.els t g p sz i (off+q.1))
 |_=>False
theorem Yq {pos} {dst} {s} {x} {f}:opX P pos dst (.fieldAddr s x f) σ K=faX P s (σ.e x) f fun v=>K (σ.put dst v):=by
 rw [J9 (p:=fun v=>faX P s (σ.e x) f fun u=>v=u) (fun _=>by rfl) (fun r=>by
  simp only [Ev,faX]
  generalize σ.e x=v
  grind)]
 unfold faX
 split
 ·grind
 ·grind
 ·grind
 ·grind
 ·simp
@[go_sem] theorem iV {s} {b off f} {K}:faX P s (.box b off) f K=optX (fOff P s f) fun q=>Ac (0<tsz P q.2) (BI (off+q.1) fun o=>K (.box b o)):=rfl
@[go_sem] theorem iW {s} {ds} {off f} {K}:faX P s (.rop ds off) f K=optX (fOff P s f) fun q=>Ac (0<tsz P q.2) (BI (off+q.1) fun o=>K (.rop ds o)):=rfl
@[go_sem] theorem iX {s} {t g} {p} {sz i off f} {K}:faX P s (.els t g p sz i off) f K=optX (fOff P s f) fun q=>Ac (0<tsz P q.2) (BI (off+q.1) fun o=>K (.els t g p sz i o)):=rfl
@[go_sem] theorem iY {s} {t sz i off f} {K}:faX P s (.elt t sz i off) f K=optX (fOff P s f) fun q=>Ac (0<tsz P q.2) (BI (off+q.1) fun o=>K (.elt t sz i o)):=rfl
def fdX (P:Program) (s:TypeId) (v:AV) (f:Nat) (K:AV→Prop):Prop:=match v with
 | .agg vs=>optX (fOff P s f) fun q=>PH (ti P q.2).isAgg (Ac (q.1 +tsz P q.2 ≤vs.length) (BI (.agg (GS vs q.1 (tsz P q.2))) K)) (Ac ((ti P q.2).sc =true) (optX vs[q.1]? K))
 |_=>False
@[go_sem] theorem iZ {s} {vs} {f} {K}:fdX P s (.agg vs) f K=optX (fOff P s f) fun q=>PH (ti P q.2).isAgg (Ac (q.1 +tsz P q.2 ≤vs.length) (BI (.agg (GS vs q.1 (tsz P q.2))) K)) (Ac ((ti P q.2).sc =true) (optX vs[q.1]? K)):=rfl
attribute [go_sem] fOff
def Yr (rows:List (List D)) (n:Int) (sz:Nat) (K:List D→Prop):Prop:=∃row,a8 rows n sz row∧K row
def iaX (P:Program) (t:TypeId) (x i:AV) (σ:St) (K:AV→Prop):Prop:=∃v,Tp P σ.T t x i v∧K v
def slX (t:TI) (K:TypeId→Prop):Prop:=match t with| .sl e=>K e|_=>False
@[go_sem] theorem lV {e} {K}:slX (.sl e) K=K e:=rfl
def elX (P:Program) (t:TypeId) (x i:AV) (K:AV→Prop):Prop:=∃v,V2 P t x i v∧K v
def arX (t:TI) (K:Nat→TypeId→Prop):Prop:=match t with| .arr n e=>K n e|_=>False
@[go_sem ↓] theorem qf {n} {e} {K}:arX (.arr n e) K=K n e:=rfl
def inX (t:TI) (K:IntKind→Prop):Prop:=match t with| .int k=>K k|_=>False
@[go_sem ↓] theorem qg {k} {K}:inX (.int k) K=K k:=rfl
@[go_sem] theorem nK {k}:Of k [] =some [] :=rfl
@[go_sem] theorem lW {k} {n} {vs}:Of k (.int k n::vs)=(Of k vs).map (n:: ·):=by rw [Of,if_pos rfl]
theorem ia {pos} {dst} {t} {x i}:opX P pos dst (.index t x i) σ K=elX P t (σ.e x) (σ.e i) fun v=>K (σ.put dst v):=
 J9 (p:=fun v=>V2 P t (σ.e x) (σ.e i) v) (fun _=>by rfl) (fun r=>by rfl)
def isX (t:TI) (K:IntKind→Prop) (K':Prop):Prop:=match t with| .int k=>K k| .str =>K'|_=>False
@[go_sem ↓] theorem qh {k} {K K'}:isX (.int k) K K'=K k:=rfl
@[go_sem ↓] theorem qi {K K'}:isX .str K K'=K':=rfl
@[go_sem] theorem nL:P5 [] =some [] :=rfl
@[go_sem] theorem lX {s} {vs}:P5 (.str s::vs)=(P5 vs).map (s:: ·):=rfl
@[go_sem ↓] theorem qj {t} {vs} {k} {n} {K}:elX P t (.agg vs) (.int k n) K=arX (ti P t) fun l e=>isX (ti P e) (fun kd=>Ac (tsz P e=1) (optX (Of kd vs) fun ns=>Ac (l=ns.length) (optX (atI ns n) fun m=>K (.int kd m)))) (Ac (tsz P e=1) (optX (P5 vs) fun ns=>Ac (l=ns.length) (optX (atS ns n) fun m=>K (.str m)))):=by
 simp only [elX,V2,arX,isX,Ac,optX]
 generalize ti P t=q
 cases q <;> grind
@[go_sem] theorem oe {d}:bndI none d=some d:=rfl
@[go_sem] theorem og {k} {n d}:bndI (some (.int k n)) d=some n:=rfl
theorem Ys {pos} {dst} {t} {x i}:opX P pos dst (.indexAddr t x i) σ K=iaX P t (σ.e x) (σ.e i) σ fun v=>K (σ.put dst v):=
 J9 (p:=fun v=>Tp P σ.T t (σ.e x) (σ.e i) v) (fun _=>by rfl) (fun r=>by rfl)
@[go_sem] theorem lY {t} {rows} {k} {n} {K}:iaX P t (.ro rows) (.int k n) σ K=slX (ti P t) fun e=>Ac (0<tsz P e) (Yr rows n (tsz P e) fun row=>K (.rop (row.map ofD) 0)):=by
 simp only [iaX,Tp,slX,Ac,Yr]
 grind
def arI (t:TI) (K:Nat→TypeId→Prop):Prop:=match t with| .arr n e=>K n e|_=>False
@[go_sem ↓] theorem qk {n} {e} {K}:arI (.arr n e) K=K n e:=rfl
@[go_sem] theorem ib {t} {t'} {k} {n} {K}:iaX P t (.own t') (.int k n) σ K=slX (ti P t) fun e=>Ac (0<tsz P e) (optX (σ.T t') fun tk=>Yr tk.rows n (tsz P e) fun _=>K (.elt t' (tsz P e) n.toNat 0)):=by
 simp only [iaX,Tp,slX,Ac,Yr,optX]
 grind
@[go_sem] theorem ic {t} {t' g} {p} {k} {n} {K}:iaX P t (.sub t' g p) (.int k n) σ K=slX (ti P t) fun e=>Ac (0<tsz P e) (optX (subR σ.T t' g p) fun rows=>Yr rows n (tsz P e) fun _=>K (.els t' g p (tsz P e) n.toNat 0)):=by
 simp only [iaX,Tp,slX,Ac,Yr,optX]
 grind
def dZ (v:AV) (i:Nat) (K:AV→Prop):Prop:=match v with| .tup vs=>optX vs[i]? K|_=>False
@[go_sem] theorem fc {vs} {i} {K}:dZ (.tup vs) i K=optX vs[i]? K:=rfl
theorem da {pos} {dst} {x} {i}:opX P pos dst (.extract x i) σ K=dZ (σ.e x) i fun v=>K (σ.put dst v):=by
 rw [J9 (p:=fun v=>dZ (σ.e x) i fun u=>v=u) (fun _=>by rfl) (fun r=>by
  simp only [Ev,dZ]
  generalize σ.e x=v
  cases v <;> simp [optX])]
 unfold dZ
 generalize σ.e x=v
 cases v <;> simp [optX]
def evs (σ:St):List Operand→List AV
 | [] =>[]
 |x::xs=>σ.e x::evs σ xs
theorem XK {xs}:evs σ xs=xs.map σ.e:=by induction xs with|nil=>rfl|cons x xs ih=>simp [evs,ih]
attribute [go_sem] evs
@[go_sem ↓] theorem lZ {pos} {dst} {f} {first caps}:opX P pos dst (.makeFunc (.func f) (List.toArray first) caps.toArray) σ K=BI (.fn f (.agg (evs σ first)::evs σ caps)) fun v=>K (σ.put dst v):=by
 rw [J9 (p:=fun v=>v= .fn f (.agg (evs σ first)::evs σ caps)) (fun _=>by rfl) (fun r=>by simp [Ev,XK])]
 simp [BI]
def Yt (P:Program) (t:TypeId) (x:AV) (σ:St) (K:AV→Prop):Prop:=∃v,To P σ.T σ.B t x v∧K v
theorem oh {pos} {dst} {x} {t}:opX P pos dst (.call ⟨.builtin .len,List.toArray [x],List.toArray [t]⟩) σ K=Yt P t (σ.e x) σ fun v=>K (σ.put dst v):=
 J9 (p:=fun v=>To P σ.T σ.B t (σ.e x) v) (fun _=>by rfl) (fun r=>by rfl)
end
attribute [go_sem ↓] fO fP fQ fR iH iI iJ iK iL iM iN iO iP iQ iR fY fU fW iU dY iV iW iY iX iZ lV lY ib ic fc
end Go.Proofs.YtclmbjbbojdojaaGreat.Ab
