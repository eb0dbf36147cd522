/-
  The abstract walk as rules, second part: the other operations.
-/
import Derived.Test.YtckcfdggbbabfaaGreatAbT
namespace Go.Proofs.YtckcfdggbbabfaaGreat.Ab
set_option linter.unusedVariables false
open Go.RowKit
section
variable {P:Program} {σ:St} {K:St→Prop} {Q:AE→St→Prop}
theorem Nk {pos:Nat} {dst:Option Tmp} {op:Op} (h:∀K',aop P pos ⟨dst,op,0, "",#[],none⟩ σ K'=∃r,Ev P pos ⟨dst,op,0, "",#[],none⟩ σ.e σ.T σ.B r∧Cd σ r.t∧Dl σ r.b∧K' (σ.add dst r)):
  opX P pos dst op σ K=∃r,Ev P pos ⟨dst,op,0, "",#[],none⟩ σ.e σ.T σ.B r∧Cd σ r.t∧Dl σ r.b∧K (σ.add dst r):=h K
def Rv (v:AV) (K:AV→Prop):Prop:=match v with
 | .box b off=>K (.box b off)
 | .rop ds off=>K (.rop ds off)
 | .elt t sz i off=>K (.elt t sz i off)
 | .els t g p sz i off=>K (.els t g p sz i off)
 |_=>False
@[go_sem] theorem YY {b off:Nat} {K:AV→Prop}:Rv (.box b off) K=K (.box b off):=rfl
@[go_sem] theorem YZ {ds:List AV} {off:Nat} {K:AV→Prop}:Rv (.rop ds off) K=K (.rop ds off):=rfl
@[go_sem] theorem Ya {t sz i off:Nat} {K:AV→Prop}:Rv (.elt t sz i off) K=K (.elt t sz i off):=rfl
@[go_sem] theorem Yb {t g:Nat} {p:Pth} {sz i off:Nat} {K:AV→Prop}:Rv (.els t g p sz i off) K=K (.els t g p sz i off):=rfl
theorem Uo {pos:Nat} {dst:Option Tmp} {x:Operand}:opX P pos dst (.nilCheck x) σ K=Rv (σ.e x) fun v=>K (σ.put dst v):=by
 rw [HJ (p:=fun v=>Rv (σ.e x) fun u=>v=u) (fun _=>by simp only [aop]) (fun r=>by
  simp only [Ev,Rv]
  generalize σ.e x=v
  cases v <;> simp)]
 unfold Rv
 generalize σ.e x=v
 cases v <;> simp
def FV (P:Program) (op:BinOp) (t:TypeId) (x y:AV) (K:AV→Prop):Prop:=∃v,Bin P op t x y v∧K v
def Up (op:BinOp) (y:Operand):Bool:=match op,y with
 | .eql,.const (.slice none 0 0)=>false
 | .neq,.const (.slice none 0 0)=>false
 |_,_=>true
theorem bn {pos:Nat} {dst:Option Tmp} {op:BinOp} {t t':TypeId} {x y:Operand} (hn:Up op y=true):opX P pos dst (.binOp op t x y t') σ K=FV P op t (σ.e x) (σ.e y) fun v=>K (σ.put dst v):=
 HJ (p:=fun v=>Bin P op t (σ.e x) (σ.e y) v) (fun _=>by
  unfold aop
  dsimp only
  split
  ·rename_i h; simp only [Op.binOp.injEq] at h; obtain⟨rfl,rfl,rfl,rfl,rfl⟩:=h; simp [Up] at hn
  ·rename_i h; simp only [Op.binOp.injEq] at h; obtain⟨rfl,rfl,rfl,rfl,rfl⟩:=h; simp [Up] at hn
  ·rename_i h; cases h
  ·rename_i h; cases h
  ·rename_i h; cases h
  ·rfl) (fun r=>by simp only [Ev])
section
variable {pos:Nat} {dst:Option Tmp} {op:BinOp} {t t':TypeId} {x:Operand}
theorem W3 {y:Tmp}:opX P pos dst (.binOp op t x (.tmp y) t') σ K=FV P op t (σ.e x) (σ.g y) fun v=>K (σ.put dst v):=bn (by cases op <;> rfl)
theorem W4 {k:IntKind} {n:Int}:opX P pos dst (.binOp op t x (.const (.int k n)) t') σ K=FV P op t (σ.e x) (.int k n) fun v=>K (σ.put dst v):=bn (by cases op <;> rfl)
def Zy (P:Program) (t:TypeId) (v:AV) (σ:St) (K:Bool→Prop):Prop:=(∃e,ti P t= .sl e)∧MX v=true∧∀b,Zf σ.T v b→K b
def slP (t:TI):Prop:=∃e,t= .sl e
@[go_sem] theorem i6 {e:TypeId}:slP (.sl e)=True:=by simp [slP]
theorem Zz {rows:List (List D)} {K:Bool→Prop} (h:slP (ti P t)) (h0:rows=[] →K true) (h1:K false):Zy P t (.ro rows) σ K:=
 ⟨h,rfl,fun b hb=>by
  cases b with
  |false=>exact h1
  |true=>
   refine h0 ?_
   by_cases hr:rows=[]
   ·exact hr
   ·exact absurd (hb hr) (by simp)⟩
theorem Yc:opX P pos dst (.binOp .eql t x (.const (.slice none 0 0)) t') σ K=Zy P t (σ.e x) σ fun b=>K (σ.put dst (.bool b)):=by
 unfold opX; simp only [aop,Zy]
end
section
variable {t:TypeId} {k:IntKind} {a b:Int} {K:AV→Prop}
@[go_sem] theorem Z0:FV P .add t (.int k a) (.int k b) K=K (.int k (k.wrap (a+b))):=by simp [FV,Bin,Jw]
@[go_sem] theorem Z1:FV P .sub t (.int k a) (.int k b) K=K (.int k (k.wrap (a - b))):=by simp [FV,Bin,Jw]
@[go_sem] theorem Z2:FV P .mul t (.int k a) (.int k b) K=K (.int k (k.wrap (a*b))):=by simp [FV,Bin,Jw]
@[go_sem] theorem Z3:FV P .eql t (.int k a) (.int k b) K=K (.bool (decide (a=b))):=by simp [FV,Bin,Jw]
@[go_sem] theorem Z4:FV P .neq t (.int k a) (.int k b) K=K (.bool (!decide (a=b))):=by simp [FV,Bin,Jw]
@[go_sem] theorem Z5:FV P .lss t (.int k a) (.int k b) K=K (.bool (decide (a<b))):=by simp [FV,Bin,Jw]
@[go_sem] theorem Z6:FV P .leq t (.int k a) (.int k b) K=K (.bool (decide (a≤b))):=by simp [FV,Bin,Jw]
@[go_sem] theorem Z7:FV P .gtr t (.int k a) (.int k b) K=K (.bool (decide (b<a))):=by simp [FV,Bin,Jw]
@[go_sem] theorem Z8:FV P .geq t (.int k a) (.int k b) K=K (.bool (decide (b≤a))):=by simp [FV,Bin,Jw]
@[go_sem] theorem Z9:FV P .quo t (.int k a) (.int k b) K=Aa (b≠0) (K (.int k (k.wrap (a.tdiv b)))):=by
 simp only [FV,Bin,Aa,true_and]
 exact propext ⟨fun ⟨v,⟨h1,h2⟩,h3⟩=>⟨h1,h2 ▸ h3⟩,fun ⟨h1,h2⟩=>⟨_,⟨h1,rfl⟩,h2⟩⟩
end
section
variable {t:TypeId} {a b:ByteArray} {c d:Bool} {K:AV→Prop}
def Vr (a b:ByteArray):Bool:=a.toList == b.toList
def W5 (o:Option (List KK)) (xs ys:List AV) (K:Bool→Prop):Prop:=∃ks b,o=some ks∧Cn ks xs ys=some b∧K b
def aA (o:Option Bool) (K:Bool→Prop):Prop:=∃b,o=some b∧K b
@[go_sem] theorem dq {ks:List KK} {xs ys:List AV} {K:Bool→Prop}:W5 (some ks) xs ys K=aA (Cn ks xs ys) K:=by
 simp [W5,aA]
@[go_sem] theorem dr {b:Bool} {K:Bool→Prop}:aA (some b) K=K b:=by simp [aA]
@[go_sem] theorem dt {k:IntKind} {ks:List KK} {a b:Int} {xs ys:List AV}:Cn (.int k::ks) (.int k a::xs) (.int k b::ys)=(Cn ks xs ys).map (decide (a=b)&& ·):=by
 rw [Cn]; simp
@[go_sem] theorem fD:Cn [] [] [] =some true:=by
 rw [Cn]
@[go_sem] theorem du {α β:Type} {f:α→β} {a:α}:Option.map f (some a)=some (f a):=rfl
@[go_sem] theorem Yd {xs ys:List AV}:FV P .eql t (.agg xs) (.agg ys) K=W5 (Gt P t) xs ys fun b=>K (.bool b):=by
 unfold FV Bin W5
 exact propext ⟨fun ⟨v,⟨ks,b,h1,h2,h3⟩,h⟩=>⟨ks,b,h1,h2,by simp only at h3; subst h3; exact h⟩,fun ⟨ks,b,h1,h2,h⟩=>⟨_,⟨ks,b,h1,h2,rfl⟩,h⟩⟩
@[go_sem] theorem Ye {xs ys:List AV}:FV P .neq t (.agg xs) (.agg ys) K=W5 (Gt P t) xs ys fun b=>K (.bool !b):=by
 unfold FV Bin W5
 exact propext ⟨fun ⟨v,⟨ks,b,h1,h2,h3⟩,h⟩=>⟨ks,b,h1,h2,by simp only at h3; subst h3; exact h⟩,fun ⟨ks,b,h1,h2,h⟩=>⟨_,⟨ks,b,h1,h2,rfl⟩,h⟩⟩
def Yf (P:Program) (t:TypeId):Prop:=match ti P t with| .bool =>True|_=>False
@[go_sem] theorem Yg:FV P .neq t (.bool c) (.bool d) K=Aa (Yf P t) (K (.bool (!(c == d)))):=by
 simp only [FV,Bin,Aa,Yf]
 split <;> simp_all
def i7 (P:Program) (t:TypeId):Prop:=match ti P t with| .ptr _=>True|_=>False
attribute [go_sem] Yf i7
end
def aB (op:UnOp) (x:AV) (K:AV→Prop):Prop:=∃v,Uno op x v∧K v
theorem cm {pos:Nat} {dst:Option Tmp} {op:UnOp} {t:TypeId} {x:Operand}:opX P pos dst (.unOp op t x) σ K=aB op (σ.e x) fun v=>K (σ.put dst v):=
 HJ (p:=fun v=>Uno op (σ.e x) v) (fun _=>by simp only [aop]) (fun r=>by simp only [Ev])
@[go_sem] theorem aC {b:Bool} {K:AV→Prop}:aB .not (.bool b) K=K (.bool (!b)):=by simp [aB,Uno]
def TN (P:Program) (s d:TypeId) (x:AV) (σ:St) (K:AV→Prop):Prop:=match ti P d,x with
 | .int k,.int _ n=>(ti P s).sc =true∧K (.int k (k.wrap n))
 | .str,y=>∃el ns,ti P s= .sl el∧ti P el= .int .u8 ∧ns.length≤maxLen∧cl σ.T σ.B y=some (.ro (HC ns))∧K (.str (strOfNums ns))
 |_,_=>False
def Yh (P:Program) (s d:TypeId) (x:AV) (σ:St) (v:AV):Prop:=match ti P d,x with
 | .int k,.int _ n=>(ti P s).sc =true∧v= .int k (k.wrap n)
 | .str,y=>∃el ns,ti P s= .sl el∧ti P el= .int .u8 ∧ns.length≤maxLen∧cl σ.T σ.B y=some (.ro (HC ns))∧v= .str (strOfNums ns)
 |_,_=>False
theorem W6 {pos:Nat} {dst:Option Tmp} {s d:TypeId} {x:Operand}:opX P pos dst (.convert s d x) σ K=TN P s d (σ.e x) σ fun v=>K (σ.put dst v):=by
 rw [HJ (p:=fun v=>Yh P s d (σ.e x) σ v) (fun _=>by simp only [aop]) (fun r=>by
  simp only [Ev,Yh]
  generalize σ.e x=v
  generalize ti P d=q
  cases q <;> cases v <;> first
   |(
    refine propext ⟨?_,?_⟩
    ·intro h; obtain⟨el,ns,h1,h2,h3,h4,rfl⟩:=h; exact⟨_,⟨el,ns,h1,h2,h3,h4,rfl⟩,rfl⟩
    ·intro h; obtain⟨_,⟨el,ns,h1,h2,h3,h4,rfl⟩,rfl⟩:=h; exact⟨el,ns,h1,h2,h3,h4,rfl⟩)
   |simp [and_assoc])]
 unfold TN Yh
 generalize σ.e x=v
 generalize ti P d=q
 have key:∀y:AV,(∃v,(∃el ns,ti P s= .sl el∧ti P el= .int .u8 ∧ns.length≤maxLen∧cl σ.T σ.B y=some (.ro (HC ns))∧v= .str (strOfNums ns))∧K (σ.put dst v))=∃el ns,ti P s= .sl el∧ti P el= .int .u8 ∧ns.length≤maxLen∧cl σ.T σ.B y=some (.ro (HC ns))∧K (σ.put dst (.str (strOfNums ns))):=fun y=>by
  refine propext ⟨?_,?_⟩
  ·rintro ⟨v,⟨el,ns,h1,h2,h3,h4,rfl⟩,h5⟩; exact⟨el,ns,h1,h2,h3,h4,h5⟩
  ·rintro ⟨el,ns,h1,h2,h3,h4,h5⟩; exact⟨_,⟨el,ns,h1,h2,h3,h4,rfl⟩,h5⟩
 cases q <;> cases v <;> first|exact key _|simp [and_assoc]
def TO (t:TI) (K:IntKind→Prop):Prop:=match t with| .int k=>K k|_=>False
@[go_sem] theorem W7 {k:IntKind} {K:IntKind→Prop}:TO (.int k) K=K k:=rfl
@[go_sem] theorem W8 {s d:TypeId} {k':IntKind} {n:Int} {K:AV→Prop}:TN P s d (.int k' n) σ K=TO (ti P d) fun k=>Aa ((ti P s).sc =true) (K (.int k (k.wrap n))):=by
 unfold TN TO Aa
 generalize ti P d=q
 cases q <;> simp [cl,HC]
def faX (P:Program) (s:TypeId) (v:AV) (f:Nat) (K:AV→Prop):Prop:=match v with
 | .box b off=>∃q,fOff P s f=some q∧0<tsz P q.2 ∧K (.box b (off+q.1))
 | .rop ds off=>∃q,fOff P s f=some q∧0<tsz P q.2 ∧K (.rop ds (off+q.1))
 | .elt t sz i off=>∃q,fOff P s f=some q∧0<tsz P q.2 ∧K (.elt t sz i (off+q.1))
 | .els t g p sz i off=>∃q,fOff P s f=some q∧0<tsz P q.2 ∧K (.els t g p sz i (off+q.1))
 |_=>False
theorem TP {pos:Nat} {dst:Option Tmp} {s:TypeId} {x:Operand} {f:Nat}:opX P pos dst (.fieldAddr s x f) σ K=faX P s (σ.e x) f fun v=>K (σ.put dst v):=by
 rw [HJ (p:=fun v=>faX P s (σ.e x) f fun u=>v=u) (fun _=>by simp only [aop]) (fun r=>by
  simp only [Ev,faX]
  generalize σ.e x=v
  split
  ·exact propext ⟨fun ⟨q,h1,h2,h3⟩=>⟨_,⟨q,h1,h2,rfl⟩,h3⟩,fun ⟨v,⟨q,h1,h2,h4⟩,h3⟩=>⟨q,h1,h2,h4 ▸ h3⟩⟩
  ·exact propext ⟨fun ⟨q,h1,h2,h3⟩=>⟨_,⟨q,h1,h2,rfl⟩,h3⟩,fun ⟨v,⟨q,h1,h2,h4⟩,h3⟩=>⟨q,h1,h2,h4 ▸ h3⟩⟩
  ·exact propext ⟨fun ⟨q,h1,h2,h3⟩=>⟨_,⟨q,h1,h2,rfl⟩,h3⟩,fun ⟨v,⟨q,h1,h2,h4⟩,h3⟩=>⟨q,h1,h2,h4 ▸ h3⟩⟩
  ·exact propext ⟨fun ⟨q,h1,h2,h3⟩=>⟨_,⟨q,h1,h2,rfl⟩,h3⟩,fun ⟨v,⟨q,h1,h2,h4⟩,h3⟩=>⟨q,h1,h2,h4 ▸ h3⟩⟩
  ·simp)]
 unfold faX
 split
 ·exact propext ⟨fun ⟨v,⟨q,h1,h2,h4⟩,h3⟩=>⟨q,h1,h2,h4 ▸ h3⟩,fun ⟨q,h1,h2,h3⟩=>⟨_,⟨q,h1,h2,rfl⟩,h3⟩⟩
 ·exact propext ⟨fun ⟨v,⟨q,h1,h2,h4⟩,h3⟩=>⟨q,h1,h2,h4 ▸ h3⟩,fun ⟨q,h1,h2,h3⟩=>⟨_,⟨q,h1,h2,rfl⟩,h3⟩⟩
 ·exact propext ⟨fun ⟨v,⟨q,h1,h2,h4⟩,h3⟩=>⟨q,h1,h2,h4 ▸ h3⟩,fun ⟨q,h1,h2,h3⟩=>⟨_,⟨q,h1,h2,rfl⟩,h3⟩⟩
 ·exact propext ⟨fun ⟨v,⟨q,h1,h2,h4⟩,h3⟩=>⟨q,h1,h2,h4 ▸ h3⟩,fun ⟨q,h1,h2,h3⟩=>⟨_,⟨q,h1,h2,rfl⟩,h3⟩⟩
 ·simp
@[go_sem] theorem aD {s:TypeId} {b off f:Nat} {K:AV→Prop}:faX P s (.box b off) f K=optX (fOff P s f) fun q=>Aa (0<tsz P q.2) (BK (off+q.1) fun o=>K (.box b o)):=rfl
@[go_sem] theorem aE {s:TypeId} {ds:List AV} {off f:Nat} {K:AV→Prop}:faX P s (.rop ds off) f K=optX (fOff P s f) fun q=>Aa (0<tsz P q.2) (BK (off+q.1) fun o=>K (.rop ds o)):=rfl
@[go_sem] theorem aF {s:TypeId} {t g:Nat} {p:Pth} {sz i off f:Nat} {K:AV→Prop}:faX P s (.els t g p sz i off) f K=optX (fOff P s f) fun q=>Aa (0<tsz P q.2) (BK (off+q.1) fun o=>K (.els t g p sz i o)):=rfl
@[go_sem] theorem aG {s:TypeId} {t sz i off f:Nat} {K:AV→Prop}:faX P s (.elt t sz i off) f K=optX (fOff P s f) fun q=>Aa (0<tsz P q.2) (BK (off+q.1) fun o=>K (.elt t sz i o)):=rfl
def fdX (P:Program) (s:TypeId) (v:AV) (f:Nat) (K:AV→Prop):Prop:=match v with
 | .agg vs=>optX (fOff P s f) fun q=>Nj (ti P q.2).isAgg (Aa (q.1 +tsz P q.2 ≤vs.length) (BK (.agg (FC vs q.1 (tsz P q.2))) K)) (Aa ((ti P q.2).sc =true) (optX vs[q.1]? K))
 |_=>False
@[go_sem] theorem aH {s:TypeId} {vs:List AV} {f:Nat} {K:AV→Prop}:fdX P s (.agg vs) f K=optX (fOff P s f) fun q=>Nj (ti P q.2).isAgg (Aa (q.1 +tsz P q.2 ≤vs.length) (BK (.agg (FC vs q.1 (tsz P q.2))) K)) (Aa ((ti P q.2).sc =true) (optX vs[q.1]? K)):=rfl
attribute [go_sem] fOff
def TQ (rows:List (List D)) (n:Int) (sz:Nat) (K:List D→Prop):Prop:=∃row,VS rows n sz row∧K row
def iaX (P:Program) (t:TypeId) (x i:AV) (σ:St) (K:AV→Prop):Prop:=∃v,Oy P σ.T t x i v∧K v
def slX (t:TI) (K:TypeId→Prop):Prop:=match t with| .sl e=>K e|_=>False
@[go_sem] theorem cn {e:TypeId} {K:TypeId→Prop}:slX (.sl e) K=K e:=rfl
def elX (P:Program) (t:TypeId) (x i:AV) (K:AV→Prop):Prop:=∃v,Qt P t x i v∧K v
def arX (t:TI) (K:Nat→TypeId→Prop):Prop:=match t with| .arr n e=>K n e|_=>False
@[go_sem ↓] theorem gv {n:Nat} {e:TypeId} {K:Nat→TypeId→Prop}:arX (.arr n e) K=K n e:=rfl
def inX (t:TI) (K:IntKind→Prop):Prop:=match t with| .int k=>K k|_=>False
@[go_sem ↓] theorem gw {k:IntKind} {K:IntKind→Prop}:inX (.int k) K=K k:=rfl
@[go_sem] theorem dv {k:IntKind}:La k [] =some [] :=rfl
@[go_sem] theorem cp {k:IntKind} {n:Int} {vs:List AV}:La k (.int k n::vs)=(La k vs).map (n:: ·):=by rw [La,if_pos rfl]
theorem aI {pos:Nat} {dst:Option Tmp} {t:TypeId} {x i:Operand}:opX P pos dst (.index t x i) σ K=elX P t (σ.e x) (σ.e i) fun v=>K (σ.put dst v):=
 HJ (p:=fun v=>Qt P t (σ.e x) (σ.e i) v) (fun _=>by simp only [aop]) (fun r=>by simp only [Ev])
@[go_sem ↓] theorem gy {t:TypeId} {vs:List AV} {k:IntKind} {n:Int} {K:AV→Prop}:elX P t (.agg vs) (.int k n) K=arX (ti P t) fun l e=>inX (ti P e) fun kd=>Aa (tsz P e=1) (optX (La kd vs) fun ns=>Aa (l=ns.length) (optX (atI ns n) fun m=>K (.int kd m))):=by
 simp only [elX,Qt,arX,inX,Aa,optX]
 generalize ti P t=q
 cases q with
 |arr l e=>
  simp only
  generalize ti P e=q
  cases q with
  |int kd=>exact propext ⟨fun ⟨v,⟨h1,ns,h2,h3,m,h4,h5⟩,h⟩=>⟨h1,ns,h2,h3,m,h4,h5 ▸ h⟩,fun ⟨h1,ns,h2,h3,m,h4,h⟩=>⟨_,⟨h1,ns,h2,h3,m,h4,rfl⟩,h⟩⟩
  |_=>simp
 |_=>simp
@[go_sem] theorem fE {d:Int}:bndI none d=some d:=rfl
@[go_sem] theorem fF {k:IntKind} {n d:Int}:bndI (some (.int k n)) d=some n:=rfl
theorem TR {pos:Nat} {dst:Option Tmp} {t:TypeId} {x i:Operand}:opX P pos dst (.indexAddr t x i) σ K=iaX P t (σ.e x) (σ.e i) σ fun v=>K (σ.put dst v):=
 HJ (p:=fun v=>Oy P σ.T t (σ.e x) (σ.e i) v) (fun _=>by simp only [aop]) (fun r=>by simp only [Ev])
@[go_sem] theorem cq {t:TypeId} {rows:List (List D)} {k:IntKind} {n:Int} {K:AV→Prop}:iaX P t (.ro rows) (.int k n) σ K=slX (ti P t) fun e=>Aa (0<tsz P e) (TQ rows n (tsz P e) fun row=>K (.rop (row.map ofD) 0)):=by
 simp only [iaX,Oy,slX,Aa,TQ]
 generalize ti P t=q
 cases q with
 |sl e=>exact propext ⟨fun ⟨v,⟨h1,row,h2,h3⟩,h4⟩=>⟨h1,row,h2,h3 ▸ h4⟩,fun ⟨h1,row,h2,h3⟩=>⟨_,⟨h1,row,h2,rfl⟩,h3⟩⟩
 |_=>simp
@[go_sem] theorem aJ {t:TypeId} {t':Nat} {k:IntKind} {n:Int} {K:AV→Prop}:iaX P t (.own t') (.int k n) σ K=slX (ti P t) fun e=>Aa (0<tsz P e) (optX (σ.T t') fun tk=>TQ tk.rows n (tsz P e) fun _=>K (.elt t' (tsz P e) n.toNat 0)):=by
 simp only [iaX,Oy,slX,Aa,TQ,optX]
 generalize ti P t=q
 cases q with
 |sl e=>exact propext ⟨fun ⟨v,⟨h1,tk,row,h0,h2,h3⟩,h4⟩=>⟨h1,tk,h0,row,h2,h3 ▸ h4⟩,fun ⟨h1,tk,h0,row,h2,h3⟩=>⟨_,⟨h1,tk,row,h0,h2,rfl⟩,h3⟩⟩
 |_=>simp
@[go_sem] theorem aK {t:TypeId} {t' g:Nat} {p:Pth} {k:IntKind} {n:Int} {K:AV→Prop}:iaX P t (.sub t' g p) (.int k n) σ K=slX (ti P t) fun e=>Aa (0<tsz P e) (optX (subR σ.T t' g p) fun rows=>TQ rows n (tsz P e) fun _=>K (.els t' g p (tsz P e) n.toNat 0)):=by
 simp only [iaX,Oy,slX,Aa,TQ,optX]
 generalize ti P t=q
 cases q with
 |sl e=>exact propext ⟨fun ⟨v,⟨h1,tk,row,h0,h2,h3⟩,h4⟩=>⟨h1,tk,h0,row,h2,h3 ▸ h4⟩,fun ⟨h1,tk,h0,row,h2,h3⟩=>⟨_,⟨h1,tk,row,h0,h2,rfl⟩,h3⟩⟩
 |_=>simp
def W9 (v:AV) (i:Nat) (K:AV→Prop):Prop:=match v with| .tup vs=>optX vs[i]? K|_=>False
@[go_sem] theorem Yi {vs:List AV} {i:Nat} {K:AV→Prop}:W9 (.tup vs) i K=optX vs[i]? K:=rfl
theorem XA {pos:Nat} {dst:Option Tmp} {x:Operand} {i:Nat}:opX P pos dst (.extract x i) σ K=W9 (σ.e x) i fun v=>K (σ.put dst v):=by
 rw [HJ (p:=fun v=>W9 (σ.e x) i fun u=>v=u) (fun _=>by simp only [aop]) (fun r=>by
  simp only [Ev,W9]
  generalize σ.e x=v
  cases v <;> simp [optX])]
 unfold W9
 generalize σ.e x=v
 cases v <;> simp [optX]
def evs (σ:St):List Operand→List AV
 | [] =>[]
 |x::xs=>σ.e x::evs σ xs
theorem Rw {xs:List Operand}:evs σ xs=xs.map σ.e:=by induction xs with|nil=>rfl|cons x xs ih=>simp [evs,ih]
attribute [go_sem] evs
@[go_sem ↓] theorem cr {pos:Nat} {dst:Option Tmp} {f:FuncId} {caps:List Operand}:opX P pos dst (.makeFunc (.func f) (List.toArray []) caps.toArray) σ K=BK (.fn f (evs σ caps)) fun v=>K (σ.put dst v):=by
 rw [HJ (p:=fun v=>v= .fn f (evs σ caps)) (fun _=>by simp only [aop]) (fun r=>by simp [Ev,Rw])]
 simp [BK]
def QW (P:Program) (t:TypeId) (x:AV) (σ:St) (K:AV→Prop):Prop:=∃v,ON P σ.T σ.B t x v∧K v
theorem fG {pos:Nat} {dst:Option Tmp} {x:Operand} {t:TypeId}:opX P pos dst (.call ⟨.builtin .len,List.toArray [x],List.toArray [t]⟩) σ K=QW P t (σ.e x) σ fun v=>K (σ.put dst v):=
 HJ (p:=fun v=>ON P σ.T σ.B t (σ.e x) v) (fun _=>by simp only [aop]) (fun r=>by simp only [Ev])
end
attribute [go_sem ↓] YY YZ Ya Yb Z0 Z1 Z2 Z3 Z4 Z5 Z6 Z7 Z8 Z9 Yg Yd Ye aC W7 W8 aD aE aG aF aH cn cq aJ aK Yi
end Go.Proofs.YtckcfdggbbabfaaGreat.Ab
