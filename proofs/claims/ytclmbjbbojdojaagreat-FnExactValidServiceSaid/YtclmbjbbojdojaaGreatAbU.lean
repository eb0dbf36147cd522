/-
  The abstract walk as rules, second part: the other operations.
-/
import Derived.Test.YtclmbjbbojdojaaGreatAbT
namespace Go.Proofs.YtclmbjbbojdojaaGreat.Ab
set_option linter.unusedVariables false
set_option maxHeartbeats 1000000
open Go.RowKit
section
variable {P:Program} {σ:St} {K:St→Prop} {Q:AE→St→Prop}
theorem P3 {pos} {dst} {op} (h:∀K',aop P pos ⟨dst,op,0, "",#[],none⟩ σ K'=∃r,Ev P pos ⟨dst,op,0, "",#[],none⟩ σ.e σ.T σ.B r∧Cz σ r.t∧Ei σ r.b∧K' (σ.add dst r)):
  opX P pos dst op σ K=∃r,Ev P pos ⟨dst,op,0, "",#[],none⟩ σ.e σ.T σ.B r∧Cz σ r.t∧Ei σ r.b∧K (σ.add dst r):=h K
def U1 (v:AV) (K:AV→Prop):Prop:=match v with
 | .box b off=>K (.box b off)
 | .rop ds off=>K (.rop ds off)
 | .elt t sz i off=>K (.elt t sz i off)
 | .els t g p sz i off=>K (.els t g p sz i off)
 |_=>False
@[go_sem] theorem bf {b off} {K}:U1 (.box b off) K=K (.box b off):=rfl
@[go_sem] theorem bg {ds} {off} {K}:U1 (.rop ds off) K=K (.rop ds off):=rfl
@[go_sem] theorem bh {t sz i off} {K}:U1 (.elt t sz i off) K=K (.elt t sz i off):=rfl
@[go_sem] theorem bi {t g} {p} {sz i off} {K}:U1 (.els t g p sz i off) K=K (.els t g p sz i off):=rfl
theorem Xz {pos} {dst} {x}:opX P pos dst (.nilCheck x) σ K=U1 (σ.e x) fun v=>K (σ.put dst v):=by
 rw [JI (p:=fun v=>U1 (σ.e x) fun u=>v=u) (fun _=>by rfl) (fun r=>by
  simp only [Ev,U1]
  generalize σ.e x=v
  cases v <;> simp)]
 unfold U1
 generalize σ.e x=v
 cases v <;> simp
def Fm (P:Program) (op:BinOp) (t:TypeId) (x y:AV) (K:AV→Prop):Prop:=∃v,Bin P op t x y v∧K v
def bj (op:BinOp) (y:Operand):Bool:=match op,y with
 | .eql,.const (.slice none 0 0)=>false
 | .neq,.const (.slice none 0 0)=>false
 |_,_=>true
theorem f7 {pos} {dst} {op} {t t'} {x y} (hn:bj op y=true):opX P pos dst (.binOp op t x y t') σ K=Fm P op t (σ.e x) (σ.e y) fun v=>K (σ.put dst v):=
 JI (p:=fun v=>Bin P op t (σ.e x) (σ.e y) v) (fun _=>by
  grind [aop,bj]) (fun r=>by rfl)
section
variable {pos:Nat} {dst:Option Tmp} {op:BinOp} {t t':TypeId} {x:Operand}
theorem Z5 {y}:opX P pos dst (.binOp op t x (.tmp y) t') σ K=Fm P op t (σ.e x) (σ.g y) fun v=>K (σ.put dst v):=f7 (by cases op <;> rfl)
theorem Z6 {k} {n}:opX P pos dst (.binOp op t x (.const (.int k n)) t') σ K=Fm P op t (σ.e x) (.int k n) fun v=>K (σ.put dst v):=f7 (by cases op <;> rfl)
def hH (P:Program) (t:TypeId) (v:AV) (σ:St) (K:Bool→Prop):Prop:=(∃e,ti P t= .sl e)∧OK v=true∧∀b,dM σ.T v b→K b
def slP (t:TI):Prop:=∃e,t= .sl e
@[go_sem] theorem oq {e}:slP (.sl e)=True:=by simp [slP]
theorem dp {rows} {K} (h:slP (ti P t)) (h0:rows=[] →K true) (h1:K false):hH P t (.ro rows) σ K:=
 ⟨h,rfl,fun b hb=>by
  cases b with
  |false=>exact h1
  |true=>
   refine h0 ?_
   by_cases hr:rows=[]
   ·exact hr
   ·exact absurd (hb hr) (by simp)⟩
theorem bk:opX P pos dst (.binOp .eql t x (.const (.slice none 0 0)) t') σ K=hH P t (σ.e x) σ fun b=>K (σ.put dst (.bool b)):=by
 rfl
end
section
variable {t:TypeId} {k:IntKind} {a b:Int} {K:AV→Prop}
@[go_sem] theorem dq:Fm P .add t (.int k a) (.int k b) K=K (.int k (k.wrap (a+b))):=by simp [Fm,Bin,K2]
@[go_sem] theorem dr:Fm P .sub t (.int k a) (.int k b) K=K (.int k (k.wrap (a - b))):=by simp [Fm,Bin,K2]
@[go_sem] theorem dt:Fm P .mul t (.int k a) (.int k b) K=K (.int k (k.wrap (a*b))):=by simp [Fm,Bin,K2]
@[go_sem] theorem du:Fm P .eql t (.int k a) (.int k b) K=K (.bool (decide (a=b))):=by simp [Fm,Bin,K2]
@[go_sem] theorem dv:Fm P .neq t (.int k a) (.int k b) K=K (.bool (!decide (a=b))):=by simp [Fm,Bin,K2]
@[go_sem] theorem dw:Fm P .lss t (.int k a) (.int k b) K=K (.bool (decide (a<b))):=by simp [Fm,Bin,K2]
@[go_sem] theorem dx:Fm P .leq t (.int k a) (.int k b) K=K (.bool (decide (a≤b))):=by simp [Fm,Bin,K2]
@[go_sem] theorem dy:Fm P .gtr t (.int k a) (.int k b) K=K (.bool (decide (b<a))):=by simp [Fm,Bin,K2]
@[go_sem] theorem d7:Fm P .geq t (.int k a) (.int k b) K=K (.bool (decide (b≤a))):=by simp [Fm,Bin,K2]
@[go_sem] theorem d8:Fm P .quo t (.int k a) (.int k b) K=Af (b≠0) (K (.int k (k.wrap (a.tdiv b)))):=by
 simp only [Fm,Bin,Af,true_and]
 grind
@[go_sem] theorem d9:Fm P .rem t (.int k a) (.int k b) K=Af (b≠0) (K (.int k (a.tmod b))):=by
 simp only [Fm,Bin,Af,true_and]
 grind
end
section
variable {t:TypeId} {a b:ByteArray} {c d:Bool} {K:AV→Prop}
def Yn (a b:ByteArray):Bool:=a.toList == b.toList
def Z7 (o:Option (List KK)) (xs ys:List AV) (K:Bool→Prop):Prop:=∃ks b,o=some ks∧CO ks xs ys=some b∧K b
def eA (o:Option Bool) (K:Bool→Prop):Prop:=∃b,o=some b∧K b
@[go_sem] theorem jg {ks} {xs ys} {K}:Z7 (some ks) xs ys K=eA (CO ks xs ys) K:=by
 simp [Z7,eA]
@[go_sem] theorem jh {b} {K}:eA (some b) K=K b:=by simp [eA]
@[go_sem] theorem ji {k} {ks} {a b} {xs ys}:CO (.int k::ks) (.int k a::xs) (.int k b::ys)=(CO ks xs ys).map (decide (a=b)&& ·):=by
 rw [CO]; simp
@[go_sem] theorem jj {ks} {a b} {xs ys}:CO (.bool ::ks) (.bool a::xs) (.bool b::ys)=(CO ks xs ys).map (a == b&& ·):=by
 rw [CO]
@[go_sem] theorem lD:CO [] [] [] =some true:=by
 rw [CO]
@[go_sem] theorem jk {α β:Type} {f:α→β} {a:α}:Option.map f (some a)=some (f a):=rfl
@[go_sem] theorem bn {xs ys}:Fm P .eql t (.agg xs) (.agg ys) K=Z7 (DV P t) xs ys fun b=>K (.bool b):=by
 unfold Fm Bin Z7
 grind
@[go_sem] theorem bp {xs ys}:Fm P .neq t (.agg xs) (.agg ys) K=Z7 (DV P t) xs ys fun b=>K (.bool !b):=by
 unfold Fm Bin Z7
 grind
def WV (P:Program) (t:TypeId):Prop:=match ti P t with| .bool =>True|_=>False
@[go_sem] theorem bq:Fm P .eql t (.bool c) (.bool d) K=Af (WV P t) (K (.bool (c == d))):=by
 simp only [Fm,Bin,Af,WV]
 split <;> simp_all
@[go_sem] theorem bt:Fm P .neq t (.bool c) (.bool d) K=Af (WV P t) (K (.bool (!(c == d)))):=by
 simp only [Fm,Bin,Af,WV]
 split <;> simp_all
def ot (P:Program) (t:TypeId):Prop:=match ti P t with| .ptr _=>True|_=>False
attribute [go_sem] WV ot
end
def eC (op:UnOp) (x:AV) (K:AV→Prop):Prop:=∃v,Uno op x v∧K v
theorem hJ {pos} {dst} {op} {t} {x}:opX P pos dst (.unOp op t x) σ K=eC op (σ.e x) fun v=>K (σ.put dst v):=
 JI (p:=fun v=>Uno op (σ.e x) v) (fun _=>by rfl) (fun r=>by rfl)
@[go_sem] theorem eD {b} {K}:eC .not (.bool b) K=K (.bool (!b)):=by simp [eC,Uno]
def bu (t:TI) (K:IntKind→Prop):Prop:=match t with| .int k=>K k|_=>False
@[go_sem] theorem Z8 {k} {K}:bu (.int k) K=K k:=rfl
def faX (P:Program) (s:TypeId) (v:AV) (f:Nat) (K:AV→Prop):Prop:=match v with
 | .box b off=>∃q,fOff P s f=some q∧0<tsz P q.2 ∧K (.box b (off+q.1))
 | .rop ds off=>∃q,fOff P s f=some q∧0<tsz P q.2 ∧K (.rop ds (off+q.1))
 | .elt t sz i off=>∃q,fOff P s f=some q∧0<tsz P q.2 ∧K (.elt t sz i (off+q.1))
 | .els t g p sz i off=>∃q,fOff P s f=some q∧0<tsz P q.2 ∧K (.els t g p sz i (off+q.1))
 |_=>False
theorem WW {pos} {dst} {s} {x} {f}:opX P pos dst (.fieldAddr s x f) σ K=faX P s (σ.e x) f fun v=>K (σ.put dst v):=by
 rw [JI (p:=fun v=>faX P s (σ.e x) f fun u=>v=u) (fun _=>by rfl) (fun r=>by
  simp only [Ev,faX]
  generalize σ.e x=v
  grind)]
 unfold faX
 split
 ·grind
 ·grind
 ·grind
 ·grind
 ·simp
@[go_sem] theorem eE {s} {b off f} {K}:faX P s (.box b off) f K=optX (fOff P s f) fun q=>Af (0<tsz P q.2) (BL (off+q.1) fun o=>K (.box b o)):=rfl
@[go_sem] theorem eF {s} {ds} {off f} {K}:faX P s (.rop ds off) f K=optX (fOff P s f) fun q=>Af (0<tsz P q.2) (BL (off+q.1) fun o=>K (.rop ds o)):=rfl
@[go_sem] theorem eG {s} {t g} {p} {sz i off f} {K}:faX P s (.els t g p sz i off) f K=optX (fOff P s f) fun q=>Af (0<tsz P q.2) (BL (off+q.1) fun o=>K (.els t g p sz i o)):=rfl
@[go_sem] theorem eH {s} {t sz i off f} {K}:faX P s (.elt t sz i off) f K=optX (fOff P s f) fun q=>Af (0<tsz P q.2) (BL (off+q.1) fun o=>K (.elt t sz i o)):=rfl
def fdX (P:Program) (s:TypeId) (v:AV) (f:Nat) (K:AV→Prop):Prop:=match v with
 | .agg vs=>optX (fOff P s f) fun q=>Nf (ti P q.2).isAgg (Af (q.1 +tsz P q.2 ≤vs.length) (BL (.agg (Fa vs q.1 (tsz P q.2))) K)) (Af ((ti P q.2).sc =true) (optX vs[q.1]? K))
 |_=>False
@[go_sem] theorem eI {s} {vs} {f} {K}:fdX P s (.agg vs) f K=optX (fOff P s f) fun q=>Nf (ti P q.2).isAgg (Af (q.1 +tsz P q.2 ≤vs.length) (BL (.agg (Fa vs q.1 (tsz P q.2))) K)) (Af ((ti P q.2).sc =true) (optX vs[q.1]? K)):=rfl
attribute [go_sem] fOff
def WX (rows:List (List D)) (n:Int) (sz:Nat) (K:List D→Prop):Prop:=∃row,YO rows n sz row∧K row
def iaX (P:Program) (t:TypeId) (x i:AV) (σ:St) (K:AV→Prop):Prop:=∃v,Rc P σ.T t x i v∧K v
def slX (t:TI) (K:TypeId→Prop):Prop:=match t with| .sl e=>K e|_=>False
@[go_sem] theorem hU {e} {K}:slX (.sl e) K=K e:=rfl
def elX (P:Program) (t:TypeId) (x i:AV) (K:AV→Prop):Prop:=∃v,Tl P t x i v∧K v
def arX (t:TI) (K:Nat→TypeId→Prop):Prop:=match t with| .arr n e=>K n e|_=>False
@[go_sem ↓] theorem nG {n} {e} {K}:arX (.arr n e) K=K n e:=rfl
def inX (t:TI) (K:IntKind→Prop):Prop:=match t with| .int k=>K k|_=>False
@[go_sem ↓] theorem nH {k} {K}:inX (.int k) K=K k:=rfl
@[go_sem] theorem jl {k}:Mu k [] =some [] :=rfl
@[go_sem] theorem hY {k} {n} {vs}:Mu k (.int k n::vs)=(Mu k vs).map (n:: ·):=by rw [Mu,if_pos rfl]
theorem eJ {pos} {dst} {t} {x i}:opX P pos dst (.index t x i) σ K=elX P t (σ.e x) (σ.e i) fun v=>K (σ.put dst v):=
 JI (p:=fun v=>Tl P t (σ.e x) (σ.e i) v) (fun _=>by rfl) (fun r=>by rfl)
def isX (t:TI) (K:IntKind→Prop) (K':Prop):Prop:=match t with| .int k=>K k| .str =>K'|_=>False
@[go_sem ↓] theorem nI {k} {K K'}:isX (.int k) K K'=K k:=rfl
@[go_sem ↓] theorem nJ {K K'}:isX .str K K'=K':=rfl
@[go_sem] theorem jm:OJ [] =some [] :=rfl
@[go_sem] theorem iA {s} {vs}:OJ (.str s::vs)=(OJ vs).map (s:: ·):=rfl
@[go_sem ↓] theorem nK {t} {vs} {k} {n} {K}:elX P t (.agg vs) (.int k n) K=arX (ti P t) fun l e=>isX (ti P e) (fun kd=>Af (tsz P e=1) (optX (Mu kd vs) fun ns=>Af (l=ns.length) (optX (atI ns n) fun m=>K (.int kd m)))) (Af (tsz P e=1) (optX (OJ vs) fun ns=>Af (l=ns.length) (optX (atS ns n) fun m=>K (.str m)))):=by
 simp only [elX,Tl,arX,isX,Af,optX]
 generalize ti P t=q
 cases q <;> grind
@[go_sem] theorem lE {d}:bndI none d=some d:=rfl
@[go_sem] theorem lF {k} {n d}:bndI (some (.int k n)) d=some n:=rfl
theorem WY {pos} {dst} {t} {x i}:opX P pos dst (.indexAddr t x i) σ K=iaX P t (σ.e x) (σ.e i) σ fun v=>K (σ.put dst v):=
 JI (p:=fun v=>Rc P σ.T t (σ.e x) (σ.e i) v) (fun _=>by rfl) (fun r=>by rfl)
@[go_sem] theorem iB {t} {rows} {k} {n} {K}:iaX P t (.ro rows) (.int k n) σ K=slX (ti P t) fun e=>Af (0<tsz P e) (WX rows n (tsz P e) fun row=>K (.rop (row.map ofD) 0)):=by
 simp only [iaX,Rc,slX,Af,WX]
 grind
def arI (t:TI) (K:Nat→TypeId→Prop):Prop:=match t with| .arr n e=>K n e|_=>False
@[go_sem ↓] theorem nL {n} {e} {K}:arI (.arr n e) K=K n e:=rfl
@[go_sem] theorem eK {t} {t'} {k} {n} {K}:iaX P t (.own t') (.int k n) σ K=slX (ti P t) fun e=>Af (0<tsz P e) (optX (σ.T t') fun tk=>WX tk.rows n (tsz P e) fun _=>K (.elt t' (tsz P e) n.toNat 0)):=by
 simp only [iaX,Rc,slX,Af,WX,optX]
 grind
@[go_sem] theorem eL {t} {t' g} {p} {k} {n} {K}:iaX P t (.sub t' g p) (.int k n) σ K=slX (ti P t) fun e=>Af (0<tsz P e) (optX (subR σ.T t' g p) fun rows=>WX rows n (tsz P e) fun _=>K (.els t' g p (tsz P e) n.toNat 0)):=by
 simp only [iaX,Rc,slX,Af,WX,optX]
 grind
def Z9 (v:AV) (i:Nat) (K:AV→Prop):Prop:=match v with| .tup vs=>optX vs[i]? K|_=>False
@[go_sem] theorem bv {vs} {i} {K}:Z9 (.tup vs) i K=optX vs[i]? K:=rfl
theorem aA {pos} {dst} {x} {i}:opX P pos dst (.extract x i) σ K=Z9 (σ.e x) i fun v=>K (σ.put dst v):=by
 rw [JI (p:=fun v=>Z9 (σ.e x) i fun u=>v=u) (fun _=>by rfl) (fun r=>by
  simp only [Ev,Z9]
  generalize σ.e x=v
  cases v <;> simp [optX])]
 unfold Z9
 generalize σ.e x=v
 cases v <;> simp [optX]
def evs (σ:St):List Operand→List AV
 | [] =>[]
 |x::xs=>σ.e x::evs σ xs
theorem U2 {xs}:evs σ xs=xs.map σ.e:=by induction xs with|nil=>rfl|cons x xs ih=>simp [evs,ih]
attribute [go_sem] evs
@[go_sem ↓] theorem iC {pos} {dst} {f} {first caps}:opX P pos dst (.makeFunc (.func f) (List.toArray first) caps.toArray) σ K=BL (.fn f (.agg (evs σ first)::evs σ caps)) fun v=>K (σ.put dst v):=by
 rw [JI (p:=fun v=>v= .fn f (.agg (evs σ first)::evs σ caps)) (fun _=>by rfl) (fun r=>by simp [Ev,U2])]
 simp [BL]
def WZ (P:Program) (t:TypeId) (x:AV) (σ:St) (K:AV→Prop):Prop:=∃v,Rb P σ.T σ.B t x v∧K v
theorem lG {pos} {dst} {x} {t}:opX P pos dst (.call ⟨.builtin .len,List.toArray [x],List.toArray [t]⟩) σ K=WZ P t (σ.e x) σ fun v=>K (σ.put dst v):=
 JI (p:=fun v=>Rb P σ.T σ.B t (σ.e x) v) (fun _=>by rfl) (fun r=>by rfl)
end
attribute [go_sem ↓] bf bg bh bi dq dr dt du dv dw dx dy d7 d8 d9 bq bt bn bp eD Z8 eE eF eH eG eI hU iB eK eL bv
end Go.Proofs.YtclmbjbbojdojaaGreat.Ab
