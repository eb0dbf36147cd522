/-
  The abstract walk as rules, second part: the other operations.
-/
import Derived.Test.YtckcfdggbbabfaaGreatAbT
namespace Go.Proofs.YtckcfdggbbabfaaGreat.Ab
set_option linter.unusedVariables false
open Go.RowKit
section
variable {P:Program} {σ:St} {K:St→Prop} {Q:AE→St→Prop}
theorem Nj {pos:Nat} {dst:Option Tmp} {op:Op} (h:∀K',aop P pos ⟨dst,op,0, "",#[],none⟩ σ K'=∃r,Ev P pos ⟨dst,op,0, "",#[],none⟩ σ.e σ.T σ.B r∧CV σ r.t∧Dd σ r.b∧K' (σ.add dst r)):
  opX P pos dst op σ K=∃r,Ev P pos ⟨dst,op,0, "",#[],none⟩ σ.e σ.T σ.B r∧CV σ r.t∧Dd σ r.b∧K (σ.add dst r):=h K
def Rz (v:AV) (K:AV→Prop):Prop:=match v with
 | .box b off=>K (.box b off)
 | .rop ds off=>K (.rop ds off)
 | .elt t sz i off=>K (.elt t sz i off)
 | .els t g p sz i off=>K (.els t g p sz i off)
 |_=>False
@[go_sem] theorem Yc {b off:Nat} {K:AV→Prop}:Rz (.box b off) K=K (.box b off):=rfl
@[go_sem] theorem Yd {ds:List AV} {off:Nat} {K:AV→Prop}:Rz (.rop ds off) K=K (.rop ds off):=rfl
@[go_sem] theorem Ye {t sz i off:Nat} {K:AV→Prop}:Rz (.elt t sz i off) K=K (.elt t sz i off):=rfl
@[go_sem] theorem Yf {t g:Nat} {p:Pth} {sz i off:Nat} {K:AV→Prop}:Rz (.els t g p sz i off) K=K (.els t g p sz i off):=rfl
theorem Uz {pos:Nat} {dst:Option Tmp} {x:Operand}:opX P pos dst (.nilCheck x) σ K=Rz (σ.e x) fun v=>K (σ.put dst v):=by
 rw [Fw (p:=fun v=>Rz (σ.e x) fun u=>v=u) (fun _=>by simp only [aop]) (fun r=>by
  simp only [Ev,Rz]
  generalize σ.e x=v
  cases v <;> simp)]
 unfold Rz
 generalize σ.e x=v
 cases v <;> simp
def FU (P:Program) (op:BinOp) (t:TypeId) (x y:AV) (K:AV→Prop):Prop:=∃v,Bin P op t x y v∧K v
def U0 (op:BinOp) (y:Operand):Bool:=match op,y with
 | .eql,.const (.slice none 0 0)=>false
 | .neq,.const (.slice none 0 0)=>false
 |_,_=>true
theorem bv {pos:Nat} {dst:Option Tmp} {op:BinOp} {t t':TypeId} {x y:Operand} (hn:U0 op y=true):opX P pos dst (.binOp op t x y t') σ K=FU P op t (σ.e x) (σ.e y) fun v=>K (σ.put dst v):=
 Fw (p:=fun v=>Bin P op t (σ.e x) (σ.e y) v) (fun _=>by
  unfold aop
  dsimp only
  split
  ·rename_i h; simp only [Op.binOp.injEq] at h; obtain⟨rfl,rfl,rfl,rfl,rfl⟩:=h; simp [U0] at hn
  ·rename_i h; simp only [Op.binOp.injEq] at h; obtain⟨rfl,rfl,rfl,rfl,rfl⟩:=h; simp [U0] at hn
  ·rename_i h; cases h
  ·rename_i h; cases h
  ·rename_i h; cases h
  ·rfl) (fun r=>by simp only [Ev])
section
variable {pos:Nat} {dst:Option Tmp} {op:BinOp} {t t':TypeId} {x:Operand}
theorem W7 {y:Tmp}:opX P pos dst (.binOp op t x (.tmp y) t') σ K=FU P op t (σ.e x) (σ.g y) fun v=>K (σ.put dst v):=bv (by cases op <;> rfl)
theorem W8 {k:IntKind} {n:Int}:opX P pos dst (.binOp op t x (.const (.int k n)) t') σ K=FU P op t (σ.e x) (.int k n) fun v=>K (σ.put dst v):=bv (by cases op <;> rfl)
def Zz (P:Program) (t:TypeId) (v:AV) (σ:St) (K:Bool→Prop):Prop:=(∃e,ti P t= .sl e)∧Mc v=true∧∀b,Zg σ.T v b→K b
def slP (t:TI):Prop:=∃e,t= .sl e
@[go_sem] theorem jV {e:TypeId}:slP (.sl e)=True:=by simp [slP]
theorem Z0 {rows:List (List D)} {K:Bool→Prop} (h:slP (ti P t)) (h0:rows=[] →K true) (h1:K false):Zz P t (.ro rows) σ K:=
 ⟨h,rfl,fun b hb=>by
  cases b with
  |false=>exact h1
  |true=>
   refine h0 ?_
   by_cases hr:rows=[]
   ·exact hr
   ·exact absurd (hb hr) (by simp)⟩
theorem Yg:opX P pos dst (.binOp .eql t x (.const (.slice none 0 0)) t') σ K=Zz P t (σ.e x) σ fun b=>K (σ.put dst (.bool b)):=by
 unfold opX; simp only [aop,Zz]
end
section
variable {t:TypeId} {k:IntKind} {a b:Int} {K:AV→Prop}
@[go_sem] theorem Z1:FU P .add t (.int k a) (.int k b) K=K (.int k (k.wrap (a+b))):=by simp [FU,Bin,J0]
@[go_sem] theorem Z2:FU P .sub t (.int k a) (.int k b) K=K (.int k (k.wrap (a - b))):=by simp [FU,Bin,J0]
@[go_sem] theorem Z3:FU P .mul t (.int k a) (.int k b) K=K (.int k (k.wrap (a*b))):=by simp [FU,Bin,J0]
@[go_sem] theorem Z4:FU P .eql t (.int k a) (.int k b) K=K (.bool (decide (a=b))):=by simp [FU,Bin,J0]
@[go_sem] theorem Z5:FU P .neq t (.int k a) (.int k b) K=K (.bool (!decide (a=b))):=by simp [FU,Bin,J0]
@[go_sem] theorem Z6:FU P .lss t (.int k a) (.int k b) K=K (.bool (decide (a<b))):=by simp [FU,Bin,J0]
@[go_sem] theorem Z7:FU P .leq t (.int k a) (.int k b) K=K (.bool (decide (a≤b))):=by simp [FU,Bin,J0]
@[go_sem] theorem Z8:FU P .gtr t (.int k a) (.int k b) K=K (.bool (decide (b<a))):=by simp [FU,Bin,J0]
@[go_sem] theorem Z9:FU P .geq t (.int k a) (.int k b) K=K (.bool (decide (b≤a))):=by simp [FU,Bin,J0]
@[go_sem] theorem aA:FU P .quo t (.int k a) (.int k b) K=AU (b≠0) (K (.int k (k.wrap (a.tdiv b)))):=by
 simp only [FU,Bin,AU,true_and]
 exact propext ⟨fun ⟨v,⟨h1,h2⟩,h3⟩=>⟨h1,h2 ▸ h3⟩,fun ⟨h1,h2⟩=>⟨_,⟨h1,rfl⟩,h2⟩⟩
end
section
variable {t:TypeId} {a b:ByteArray} {c d:Bool} {K:AV→Prop}
def Vy (a b:ByteArray):Bool:=a.toList == b.toList
def W9 (o:Option (List KK)) (xs ys:List AV) (K:Bool→Prop):Prop:=∃ks b,o=some ks∧Ce ks xs ys=some b∧K b
def aB (o:Option Bool) (K:Bool→Prop):Prop:=∃b,o=some b∧K b
@[go_sem] theorem eC {ks:List KK} {xs ys:List AV} {K:Bool→Prop}:W9 (some ks) xs ys K=aB (Ce ks xs ys) K:=by
 simp [W9,aB]
@[go_sem] theorem eD {b:Bool} {K:Bool→Prop}:aB (some b) K=K b:=by simp [aB]
@[go_sem] theorem eE {k:IntKind} {ks:List KK} {a b:Int} {xs ys:List AV}:Ce (.int k::ks) (.int k a::xs) (.int k b::ys)=(Ce ks xs ys).map (decide (a=b)&& ·):=by
 rw [Ce]; simp
@[go_sem] theorem fP:Ce [] [] [] =some true:=by
 rw [Ce]
@[go_sem] theorem eF {α β:Type} {f:α→β} {a:α}:Option.map f (some a)=some (f a):=rfl
@[go_sem] theorem Yh {xs ys:List AV}:FU P .eql t (.agg xs) (.agg ys) K=W9 (Gm P t) xs ys fun b=>K (.bool b):=by
 unfold FU Bin W9
 exact propext ⟨fun ⟨v,⟨ks,b,h1,h2,h3⟩,h⟩=>⟨ks,b,h1,h2,by simp only at h3; subst h3; exact h⟩,fun ⟨ks,b,h1,h2,h⟩=>⟨_,⟨ks,b,h1,h2,rfl⟩,h⟩⟩
@[go_sem] theorem Yi {xs ys:List AV}:FU P .neq t (.agg xs) (.agg ys) K=W9 (Gm P t) xs ys fun b=>K (.bool !b):=by
 unfold FU Bin W9
 exact propext ⟨fun ⟨v,⟨ks,b,h1,h2,h3⟩,h⟩=>⟨ks,b,h1,h2,by simp only at h3; subst h3; exact h⟩,fun ⟨ks,b,h1,h2,h⟩=>⟨_,⟨ks,b,h1,h2,rfl⟩,h⟩⟩
def Yj (P:Program) (t:TypeId):Prop:=match ti P t with| .bool =>True|_=>False
@[go_sem] theorem Yk:FU P .neq t (.bool c) (.bool d) K=AU (Yj P t) (K (.bool (!(c == d)))):=by
 simp only [FU,Bin,AU,Yj]
 split <;> simp_all
def jW (P:Program) (t:TypeId):Prop:=match ti P t with| .ptr _=>True|_=>False
attribute [go_sem] Yj jW
end
def aC (op:UnOp) (x:AV) (K:AV→Prop):Prop:=∃v,Uno op x v∧K v
theorem cw {pos:Nat} {dst:Option Tmp} {op:UnOp} {t:TypeId} {x:Operand}:opX P pos dst (.unOp op t x) σ K=aC op (σ.e x) fun v=>K (σ.put dst v):=
 Fw (p:=fun v=>Uno op (σ.e x) v) (fun _=>by simp only [aop]) (fun r=>by simp only [Ev])
@[go_sem] theorem aD {b:Bool} {K:AV→Prop}:aC .not (.bool b) K=K (.bool (!b)):=by simp [aC,Uno]
def TX (P:Program) (s d:TypeId) (x:AV) (σ:St) (K:AV→Prop):Prop:=match ti P d,x with
 | .int k,.int _ n=>(ti P s).sc =true∧K (.int k (k.wrap n))
 | .str,y=>∃el ns,ti P s= .sl el∧ti P el= .int .u8 ∧ns.length≤maxLen∧cl σ.T σ.B y=some (.ro (HB ns))∧K (.str (strOfNums ns))
 |_,_=>False
def Yl (P:Program) (s d:TypeId) (x:AV) (σ:St) (v:AV):Prop:=match ti P d,x with
 | .int k,.int _ n=>(ti P s).sc =true∧v= .int k (k.wrap n)
 | .str,y=>∃el ns,ti P s= .sl el∧ti P el= .int .u8 ∧ns.length≤maxLen∧cl σ.T σ.B y=some (.ro (HB ns))∧v= .str (strOfNums ns)
 |_,_=>False
theorem XA {pos:Nat} {dst:Option Tmp} {s d:TypeId} {x:Operand}:opX P pos dst (.convert s d x) σ K=TX P s d (σ.e x) σ fun v=>K (σ.put dst v):=by
 rw [Fw (p:=fun v=>Yl P s d (σ.e x) σ v) (fun _=>by simp only [aop]) (fun r=>by
  simp only [Ev,Yl]
  generalize σ.e x=v
  generalize ti P d=q
  cases q <;> cases v <;> first
   |(
    refine propext ⟨?_,?_⟩
    ·intro h; obtain⟨el,ns,h1,h2,h3,h4,rfl⟩:=h; exact⟨_,⟨el,ns,h1,h2,h3,h4,rfl⟩,rfl⟩
    ·intro h; obtain⟨_,⟨el,ns,h1,h2,h3,h4,rfl⟩,rfl⟩:=h; exact⟨el,ns,h1,h2,h3,h4,rfl⟩)
   |simp [and_assoc])]
 unfold TX Yl
 generalize σ.e x=v
 generalize ti P d=q
 have key:∀y:AV,(∃v,(∃el ns,ti P s= .sl el∧ti P el= .int .u8 ∧ns.length≤maxLen∧cl σ.T σ.B y=some (.ro (HB ns))∧v= .str (strOfNums ns))∧K (σ.put dst v))=∃el ns,ti P s= .sl el∧ti P el= .int .u8 ∧ns.length≤maxLen∧cl σ.T σ.B y=some (.ro (HB ns))∧K (σ.put dst (.str (strOfNums ns))):=fun y=>by
  refine propext ⟨?_,?_⟩
  ·rintro ⟨v,⟨el,ns,h1,h2,h3,h4,rfl⟩,h5⟩; exact⟨el,ns,h1,h2,h3,h4,h5⟩
  ·rintro ⟨el,ns,h1,h2,h3,h4,h5⟩; exact⟨_,⟨el,ns,h1,h2,h3,h4,rfl⟩,h5⟩
 cases q <;> cases v <;> first|exact key _|simp [and_assoc]
def TY (t:TI) (K:IntKind→Prop):Prop:=match t with| .int k=>K k|_=>False
@[go_sem] theorem XB {k:IntKind} {K:IntKind→Prop}:TY (.int k) K=K k:=rfl
@[go_sem] theorem XC {s d:TypeId} {k':IntKind} {n:Int} {K:AV→Prop}:TX P s d (.int k' n) σ K=TY (ti P d) fun k=>AU ((ti P s).sc =true) (K (.int k (k.wrap n))):=by
 unfold TX TY AU
 generalize ti P d=q
 cases q <;> simp [cl,HB]
def faX (P:Program) (s:TypeId) (v:AV) (f:Nat) (K:AV→Prop):Prop:=match v with
 | .box b off=>∃q,fOff P s f=some q∧0<tsz P q.2 ∧K (.box b (off+q.1))
 | .rop ds off=>∃q,fOff P s f=some q∧0<tsz P q.2 ∧K (.rop ds (off+q.1))
 | .elt t sz i off=>∃q,fOff P s f=some q∧0<tsz P q.2 ∧K (.elt t sz i (off+q.1))
 | .els t g p sz i off=>∃q,fOff P s f=some q∧0<tsz P q.2 ∧K (.els t g p sz i (off+q.1))
 |_=>False
theorem TZ {pos:Nat} {dst:Option Tmp} {s:TypeId} {x:Operand} {f:Nat}:opX P pos dst (.fieldAddr s x f) σ K=faX P s (σ.e x) f fun v=>K (σ.put dst v):=by
 rw [Fw (p:=fun v=>faX P s (σ.e x) f fun u=>v=u) (fun _=>by simp only [aop]) (fun r=>by
  simp only [Ev,faX]
  generalize σ.e x=v
  split
  ·exact propext ⟨fun ⟨q,h1,h2,h3⟩=>⟨_,⟨q,h1,h2,rfl⟩,h3⟩,fun ⟨v,⟨q,h1,h2,h4⟩,h3⟩=>⟨q,h1,h2,h4 ▸ h3⟩⟩
  ·exact propext ⟨fun ⟨q,h1,h2,h3⟩=>⟨_,⟨q,h1,h2,rfl⟩,h3⟩,fun ⟨v,⟨q,h1,h2,h4⟩,h3⟩=>⟨q,h1,h2,h4 ▸ h3⟩⟩
  ·exact propext ⟨fun ⟨q,h1,h2,h3⟩=>⟨_,⟨q,h1,h2,rfl⟩,h3⟩,fun ⟨v,⟨q,h1,h2,h4⟩,h3⟩=>⟨q,h1,h2,h4 ▸ h3⟩⟩
  ·exact propext ⟨fun ⟨q,h1,h2,h3⟩=>⟨_,⟨q,h1,h2,rfl⟩,h3⟩,fun ⟨v,⟨q,h1,h2,h4⟩,h3⟩=>⟨q,h1,h2,h4 ▸ h3⟩⟩
  ·simp)]
 unfold faX
 split
 ·exact propext ⟨fun ⟨v,⟨q,h1,h2,h4⟩,h3⟩=>⟨q,h1,h2,h4 ▸ h3⟩,fun ⟨q,h1,h2,h3⟩=>⟨_,⟨q,h1,h2,rfl⟩,h3⟩⟩
 ·exact propext ⟨fun ⟨v,⟨q,h1,h2,h4⟩,h3⟩=>⟨q,h1,h2,h4 ▸ h3⟩,fun ⟨q,h1,h2,h3⟩=>⟨_,⟨q,h1,h2,rfl⟩,h3⟩⟩
 ·exact propext ⟨fun ⟨v,⟨q,h1,h2,h4⟩,h3⟩=>⟨q,h1,h2,h4 ▸ h3⟩,fun ⟨q,h1,h2,h3⟩=>⟨_,⟨q,h1,h2,rfl⟩,h3⟩⟩
 ·exact propext ⟨fun ⟨v,⟨q,h1,h2,h4⟩,h3⟩=>⟨q,h1,h2,h4 ▸ h3⟩,fun ⟨q,h1,h2,h3⟩=>⟨_,⟨q,h1,h2,rfl⟩,h3⟩⟩
 ·simp
@[go_sem] theorem aE {s:TypeId} {b off f:Nat} {K:AV→Prop}:faX P s (.box b off) f K=optX (fOff P s f) fun q=>AU (0<tsz P q.2) (Az (off+q.1) fun o=>K (.box b o)):=rfl
@[go_sem] theorem aF {s:TypeId} {ds:List AV} {off f:Nat} {K:AV→Prop}:faX P s (.rop ds off) f K=optX (fOff P s f) fun q=>AU (0<tsz P q.2) (Az (off+q.1) fun o=>K (.rop ds o)):=rfl
@[go_sem] theorem aG {s:TypeId} {t g:Nat} {p:Pth} {sz i off f:Nat} {K:AV→Prop}:faX P s (.els t g p sz i off) f K=optX (fOff P s f) fun q=>AU (0<tsz P q.2) (Az (off+q.1) fun o=>K (.els t g p sz i o)):=rfl
@[go_sem] theorem aH {s:TypeId} {t sz i off f:Nat} {K:AV→Prop}:faX P s (.elt t sz i off) f K=optX (fOff P s f) fun q=>AU (0<tsz P q.2) (Az (off+q.1) fun o=>K (.elt t sz i o)):=rfl
def fdX (P:Program) (s:TypeId) (v:AV) (f:Nat) (K:AV→Prop):Prop:=match v with
 | .agg vs=>optX (fOff P s f) fun q=>Ni (ti P q.2).isAgg (AU (q.1 +tsz P q.2 ≤vs.length) (Az (.agg (FB vs q.1 (tsz P q.2))) K)) (AU ((ti P q.2).sc =true) (optX vs[q.1]? K))
 |_=>False
@[go_sem] theorem aI {s:TypeId} {vs:List AV} {f:Nat} {K:AV→Prop}:fdX P s (.agg vs) f K=optX (fOff P s f) fun q=>Ni (ti P q.2).isAgg (AU (q.1 +tsz P q.2 ≤vs.length) (Az (.agg (FB vs q.1 (tsz P q.2))) K)) (AU ((ti P q.2).sc =true) (optX vs[q.1]? K)):=rfl
attribute [go_sem] fOff
def Ta (rows:List (List D)) (n:Int) (sz:Nat) (K:List D→Prop):Prop:=∃row,VZ rows n sz row∧K row
def iaX (P:Program) (t:TypeId) (x i:AV) (σ:St) (K:AV→Prop):Prop:=∃v,Ov P σ.T t x i v∧K v
def slX (t:TI) (K:TypeId→Prop):Prop:=match t with| .sl e=>K e|_=>False
@[go_sem] theorem cy {e:TypeId} {K:TypeId→Prop}:slX (.sl e) K=K e:=rfl
def elX (P:Program) (t:TypeId) (x i:AV) (K:AV→Prop):Prop:=∃v,Qt P t x i v∧K v
def arX (t:TI) (K:Nat→TypeId→Prop):Prop:=match t with| .arr n e=>K n e|_=>False
@[go_sem ↓] theorem iK {n:Nat} {e:TypeId} {K:Nat→TypeId→Prop}:arX (.arr n e) K=K n e:=rfl
def inX (t:TI) (K:IntKind→Prop):Prop:=match t with| .int k=>K k|_=>False
@[go_sem ↓] theorem iL {k:IntKind} {K:IntKind→Prop}:inX (.int k) K=K k:=rfl
@[go_sem] theorem eG {k:IntKind}:Lk k [] =some [] :=rfl
@[go_sem] theorem cz {k:IntKind} {n:Int} {vs:List AV}:Lk k (.int k n::vs)=(Lk k vs).map (n:: ·):=by rw [Lk,if_pos rfl]
theorem aJ {pos:Nat} {dst:Option Tmp} {t:TypeId} {x i:Operand}:opX P pos dst (.index t x i) σ K=elX P t (σ.e x) (σ.e i) fun v=>K (σ.put dst v):=
 Fw (p:=fun v=>Qt P t (σ.e x) (σ.e i) v) (fun _=>by simp only [aop]) (fun r=>by simp only [Ev])
@[go_sem ↓] theorem iM {t:TypeId} {vs:List AV} {k:IntKind} {n:Int} {K:AV→Prop}:elX P t (.agg vs) (.int k n) K=arX (ti P t) fun l e=>inX (ti P e) fun kd=>AU (tsz P e=1) (optX (Lk kd vs) fun ns=>AU (l=ns.length) (optX (atI ns n) fun m=>K (.int kd m))):=by
 simp only [elX,Qt,arX,inX,AU,optX]
 generalize ti P t=q
 cases q with
 |arr l e=>
  simp only
  generalize ti P e=q
  cases q with
  |int kd=>exact propext ⟨fun ⟨v,⟨h1,ns,h2,h3,m,h4,h5⟩,h⟩=>⟨h1,ns,h2,h3,m,h4,h5 ▸ h⟩,fun ⟨h1,ns,h2,h3,m,h4,h⟩=>⟨_,⟨h1,ns,h2,h3,m,h4,rfl⟩,h⟩⟩
  |_=>simp
 |_=>simp
def XD (P:Program) (T:Nat→Option Tok) (t:TypeId) (x:AV) (l h:Option AV) (K:AV→Prop):Prop:=∃v,(Lx P t x l h v∨QT P T t x l h v)∧K v
theorem Vz {pos:Nat} {dst:Option Tmp} {t:TypeId} {x:Operand} {l h:Option Operand}:opX P pos dst (.slice t x l h none) σ K=XD P σ.T t (σ.e x) (l.map σ.e) (h.map σ.e) fun v=>K (σ.put dst v):=
 Fw (p:=fun v=>Lx P t (σ.e x) (l.map σ.e) (h.map σ.e) v∨QT P σ.T t (σ.e x) (l.map σ.e) (h.map σ.e) v) (fun _=>by simp only [aop]) (fun r=>by simp only [Ev])
@[go_sem ↓] theorem iN {t:TypeId} {rows:List (List D)} {l h:Option AV} {T:Nat→Option Tok} {K:AV→Prop}:XD P T t (.ro rows) l h K=slX (ti P t) fun el=>AU (0<tsz P el) (AU (∀row ∈ rows,row.length=tsz P el) (optX (bndI l 0) fun i=>optX (bndI h rows.length) fun j=>optX (cutL rows i j) fun r=>K (.ro r))):=by
 simp only [XD,Lx,QT,or_false,slX,AU,optX]
 generalize ti P t=q
 cases q with
 |sl el=>exact propext ⟨fun ⟨v,⟨el',h0,⟨h1,h2⟩,i,h3,j,h4,r,h5,h6⟩,h7⟩=>by cases h0; exact⟨h1,h2,i,h3,j,h4,r,h5,h6 ▸ h7⟩,fun ⟨h1,h2,i,h3,j,h4,r,h5,h7⟩=>⟨_,⟨_,rfl,⟨h1,h2⟩,i,h3,j,h4,r,h5,rfl⟩,h7⟩⟩
 |_=>simp
@[go_sem ↓] theorem fQ {t:TypeId} {s:ByteArray} {l h:Option AV} {T:Nat→Option Tok} {K:AV→Prop}:XD P T t (.str s) l h K=AU (ti P t= .str) (optX (bndI l 0) fun i=>optX (bndI h s.size) fun j=>optX (cG s i j) fun r=>K (.str r)):=by
 simp only [XD,Lx,QT,or_false,AU,optX]
 exact propext ⟨fun ⟨v,⟨h0,i,h3,j,h4,r,h5,h6⟩,h7⟩=>⟨h0,i,h3,j,h4,r,h5,h6 ▸ h7⟩,fun ⟨h0,i,h3,j,h4,r,h5,h7⟩=>⟨_,⟨h0,i,h3,j,h4,r,h5,rfl⟩,h7⟩⟩
@[go_sem] theorem fR {d:Int}:bndI none d=some d:=rfl
@[go_sem] theorem fS {k:IntKind} {n d:Int}:bndI (some (.int k n)) d=some n:=rfl
theorem Tb {pos:Nat} {dst:Option Tmp} {t:TypeId} {x i:Operand}:opX P pos dst (.indexAddr t x i) σ K=iaX P t (σ.e x) (σ.e i) σ fun v=>K (σ.put dst v):=
 Fw (p:=fun v=>Ov P σ.T t (σ.e x) (σ.e i) v) (fun _=>by simp only [aop]) (fun r=>by simp only [Ev])
@[go_sem] theorem c8 {t:TypeId} {rows:List (List D)} {k:IntKind} {n:Int} {K:AV→Prop}:iaX P t (.ro rows) (.int k n) σ K=slX (ti P t) fun e=>AU (0<tsz P e) (Ta rows n (tsz P e) fun row=>K (.rop (row.map ofD) 0)):=by
 simp only [iaX,Ov,slX,AU,Ta]
 generalize ti P t=q
 cases q with
 |sl e=>exact propext ⟨fun ⟨v,⟨h1,row,h2,h3⟩,h4⟩=>⟨h1,row,h2,h3 ▸ h4⟩,fun ⟨h1,row,h2,h3⟩=>⟨_,⟨h1,row,h2,rfl⟩,h3⟩⟩
 |_=>simp
@[go_sem] theorem aK {t:TypeId} {t':Nat} {k:IntKind} {n:Int} {K:AV→Prop}:iaX P t (.own t') (.int k n) σ K=slX (ti P t) fun e=>AU (0<tsz P e) (optX (σ.T t') fun tk=>Ta tk.rows n (tsz P e) fun _=>K (.elt t' (tsz P e) n.toNat 0)):=by
 simp only [iaX,Ov,slX,AU,Ta,optX]
 generalize ti P t=q
 cases q with
 |sl e=>exact propext ⟨fun ⟨v,⟨h1,tk,row,h0,h2,h3⟩,h4⟩=>⟨h1,tk,h0,row,h2,h3 ▸ h4⟩,fun ⟨h1,tk,h0,row,h2,h3⟩=>⟨_,⟨h1,tk,row,h0,h2,rfl⟩,h3⟩⟩
 |_=>simp
@[go_sem] theorem aL {t:TypeId} {t' g:Nat} {p:Pth} {k:IntKind} {n:Int} {K:AV→Prop}:iaX P t (.sub t' g p) (.int k n) σ K=slX (ti P t) fun e=>AU (0<tsz P e) (optX (subR σ.T t' g p) fun rows=>Ta rows n (tsz P e) fun _=>K (.els t' g p (tsz P e) n.toNat 0)):=by
 simp only [iaX,Ov,slX,AU,Ta,optX]
 generalize ti P t=q
 cases q with
 |sl e=>exact propext ⟨fun ⟨v,⟨h1,tk,row,h0,h2,h3⟩,h4⟩=>⟨h1,tk,h0,row,h2,h3 ▸ h4⟩,fun ⟨h1,tk,h0,row,h2,h3⟩=>⟨_,⟨h1,tk,row,h0,h2,rfl⟩,h3⟩⟩
 |_=>simp
def XE (v:AV) (i:Nat) (K:AV→Prop):Prop:=match v with| .tup vs=>optX vs[i]? K|_=>False
@[go_sem] theorem Ym {vs:List AV} {i:Nat} {K:AV→Prop}:XE (.tup vs) i K=optX vs[i]? K:=rfl
theorem XF {pos:Nat} {dst:Option Tmp} {x:Operand} {i:Nat}:opX P pos dst (.extract x i) σ K=XE (σ.e x) i fun v=>K (σ.put dst v):=by
 rw [Fw (p:=fun v=>XE (σ.e x) i fun u=>v=u) (fun _=>by simp only [aop]) (fun r=>by
  simp only [Ev,XE]
  generalize σ.e x=v
  cases v <;> simp [optX])]
 unfold XE
 generalize σ.e x=v
 cases v <;> simp [optX]
def evs (σ:St):List Operand→List AV
 | [] =>[]
 |x::xs=>σ.e x::evs σ xs
theorem R0 {xs:List Operand}:evs σ xs=xs.map σ.e:=by induction xs with|nil=>rfl|cons x xs ih=>simp [evs,ih]
attribute [go_sem] evs
@[go_sem ↓] theorem c9 {pos:Nat} {dst:Option Tmp} {f:FuncId} {caps:List Operand}:opX P pos dst (.makeFunc (.func f) (List.toArray []) caps.toArray) σ K=Az (.fn f (evs σ caps)) fun v=>K (σ.put dst v):=by
 rw [Fw (p:=fun v=>v= .fn f (evs σ caps)) (fun _=>by simp only [aop]) (fun r=>by simp [Ev,R0])]
 simp [Az]
def QX (P:Program) (t:TypeId) (x:AV) (σ:St) (K:AV→Prop):Prop:=∃v,OM P σ.T σ.B t x v∧K v
theorem fT {pos:Nat} {dst:Option Tmp} {x:Operand} {t:TypeId}:opX P pos dst (.call ⟨.builtin .len,List.toArray [x],List.toArray [t]⟩) σ K=QX P t (σ.e x) σ fun v=>K (σ.put dst v):=
 Fw (p:=fun v=>OM P σ.T σ.B t (σ.e x) v) (fun _=>by simp only [aop]) (fun r=>by simp only [Ev])
def OP (f:Int→Int→Int) (x y:AV) (K:AV→Prop):Prop:=match x,y with
 | .int k n,.int k' m=>k=k'∧K (.int k (f n m))
 |_,_=>False
@[go_sem] theorem Yn {f:Int→Int→Int} {k:IntKind} {n m:Int} {K:AV→Prop}:OP f (.int k n) (.int k m) K=Az (f n m) fun r=>K (.int k r):=by simp [OP,Az]
theorem fU {pos:Nat} {dst:Option Tmp} {x y:Operand} {ts:Array TypeId}:opX P pos dst (.call ⟨.builtin .max,List.toArray [x,y],ts⟩) σ K=OP (fun n m=>if n<m then m else n) (σ.e x) (σ.e y) fun v=>K (σ.put dst v):=by
 rw [Fw (p:=fun v=>OP (fun n m=>if n<m then m else n) (σ.e x) (σ.e y) fun u=>v=u) (fun _=>by simp only [aop]) (fun r=>by
  simp only [Ev,OP]
  generalize σ.e x=u
  generalize σ.e y=v
  cases u <;> cases v <;> simp [and_assoc])]
 unfold OP
 generalize σ.e x=u
 generalize σ.e y=v
 cases u <;> cases v <;> simp [and_assoc]
theorem fV {pos:Nat} {dst:Option Tmp} {x y:Operand} {ts:Array TypeId}:opX P pos dst (.call ⟨.builtin .min,List.toArray [x,y],ts⟩) σ K=OP (fun n m=>if m<n then m else n) (σ.e x) (σ.e y) fun v=>K (σ.put dst v):=by
 rw [Fw (p:=fun v=>OP (fun n m=>if m<n then m else n) (σ.e x) (σ.e y) fun u=>v=u) (fun _=>by simp only [aop]) (fun r=>by
  simp only [Ev,OP]
  generalize σ.e x=u
  generalize σ.e y=v
  cases u <;> cases v <;> simp [and_assoc])]
 unfold OP
 generalize σ.e x=u
 generalize σ.e y=v
 cases u <;> cases v <;> simp [and_assoc]
end
attribute [go_sem ↓] Yc Yd Ye Yf Z1 Z2 Z3 Z4 Z5 Z6 Z7 Z8 Z9 aA Yk Yh Yi aD XB XC aE aF aH aG aI cy c8 aK aL Ym Yn
end Go.Proofs.YtckcfdggbbabfaaGreat.Ab
