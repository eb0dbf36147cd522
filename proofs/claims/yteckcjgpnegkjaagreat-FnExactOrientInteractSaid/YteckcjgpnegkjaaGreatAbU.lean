/-
  The abstract walk as rules, second part: the other operations.
-/
import Derived.Test.YteckcjgpnegkjaaGreatAbT
namespace Go.Proofs.YteckcjgpnegkjaaGreat.Ab
set_option linter.unusedVariables false
set_option maxHeartbeats 1000000
open Go.RowKit
section
variable {P:Program} {σ:St} {K:St→Prop} {Q:AE→St→Prop}
theorem P7 {pos} {dst} {op} (h:∀K',aop P pos ⟨dst,op,0, "",#[],none⟩ σ K'=∃r,Ev P pos ⟨dst,op,0, "",#[],none⟩ σ.e σ.T σ.B r∧DA σ r.t∧EI σ r.b∧K' (σ.add dst r)):
  opX P pos dst op σ K=∃r,Ev P pos ⟨dst,op,0, "",#[],none⟩ σ.e σ.T σ.B r∧DA σ r.t∧EI σ r.b∧K (σ.add dst r):=h K
def Uu (v:AV) (K:AV→Prop):Prop:=match v with
 | .box b off=>K (.box b off)
 | .rop ds off=>K (.rop ds off)
 | .elt t sz i off=>K (.elt t sz i off)
 | .els t g p sz i off=>K (.els t g p sz i off)
 |_=>False
@[go_sem] theorem cr {b off} {K}:Uu (.box b off) K=K (.box b off):=rfl
@[go_sem] theorem ct {ds} {off} {K}:Uu (.rop ds off) K=K (.rop ds off):=rfl
@[go_sem] theorem cu {t sz i off} {K}:Uu (.elt t sz i off) K=K (.elt t sz i off):=rfl
@[go_sem] theorem cw {t g} {p} {sz i off} {K}:Uu (.els t g p sz i off) K=K (.els t g p sz i off):=rfl
theorem YI {pos} {dst} {x}:opX P pos dst (.nilCheck x) σ K=Uu (σ.e x) fun v=>K (σ.put dst v):=by
 rw [Gs (p:=fun v=>Uu (σ.e x) fun u=>v=u) (fun _=>by rfl) (fun r=>by
  simp only [Ev,Uu]
  generalize σ.e x=v
  cases v <;> simp)]
 unfold Uu
 generalize σ.e x=v
 cases v <;> simp
def Br (P:Program) (op:BinOp) (t:TypeId) (x y:AV) (K:AV→Prop):Prop:=∃v,Bin P op t x y v∧K v
def cy (op:BinOp) (y:Operand):Bool:=match op,y with
 | .eql,.const (.slice none 0 0)=>false
 | .neq,.const (.slice none 0 0)=>false
 |_,_=>true
theorem WW {pos} {dst} {op} {t t'} {x y} (hn:cy op y=true):opX P pos dst (.binOp op t x y t') σ K=Br P op t (σ.e x) (σ.e y) fun v=>K (σ.put dst v):=
 Gs (p:=fun v=>Bin P op t (σ.e x) (σ.e y) v) (fun _=>by
  grind [aop,cy]) (fun r=>by rfl)
section
variable {pos:Nat} {dst:Option Tmp} {op:BinOp} {t t':TypeId} {x:Operand}
theorem aW {y}:opX P pos dst (.binOp op t x (.tmp y) t') σ K=Br P op t (σ.e x) (σ.g y) fun v=>K (σ.put dst v):=WW (by cases op <;> rfl)
theorem aX {k} {n}:opX P pos dst (.binOp op t x (.const (.int k n)) t') σ K=Br P op t (σ.e x) (.int k n) fun v=>K (σ.put dst v):=WW (by cases op <;> rfl)
theorem YJ {b}:opX P pos dst (.binOp op t x (.const (.bool b)) t') σ K=Br P op t (σ.e x) (.bool b) fun v=>K (σ.put dst v):=WW (by cases op <;> rfl)
theorem aY {s}:opX P pos dst (.binOp op t x (.const (.string s)) t') σ K=Br P op t (σ.e x) (.str s) fun v=>K (σ.put dst v):=WW (by cases op <;> rfl)
theorem YK:opX P pos dst (.binOp op t x (.const (.pointer none)) t') σ K=Br P op t (σ.e x) .nilp fun v=>K (σ.put dst v):=WW (by cases op <;> rfl)
def WX (P:Program) (t:TypeId) (v:AV) (σ:St) (K:Bool→Prop):Prop:=(∃e,ti P t= .sl e)∧LB v=true∧∀b,Zn σ.T v b→K b
def slP (t:TI):Prop:=∃e,t= .sl e
@[go_sem] theorem qk {e}:slP (.sl e)=True:=by simp [slP]
@[go_sem] theorem UF {K}:WX P t .nils σ K=AP (slP (ti P t)) (K true):=by simp [WX,LB,Zn,AP,slP]
@[go_sem] theorem WY {b n sz} {K}:WX P t (.bsl b n sz) σ K=AP (slP (ti P t)) (K false):=by simp [WX,LB,Zn,AP,slP]
theorem fJ {rows} {K} (h:slP (ti P t)) (h0:rows=[] →K true) (h1:K false):WX P t (.ro rows) σ K:=
 ⟨h,rfl,fun b hb=>by
  cases b with
  |false=>exact h1
  |true=>
   refine h0 ?_
   by_cases hr:rows=[]
   ·exact hr
   ·exact absurd (hb hr) (by simp)⟩
theorem cz:opX P pos dst (.binOp .eql t x (.const (.slice none 0 0)) t') σ K=WX P t (σ.e x) σ fun b=>K (σ.put dst (.bool b)):=by
 rfl
theorem c0:opX P pos dst (.binOp .neq t x (.const (.slice none 0 0)) t') σ K=WX P t (σ.e x) σ fun b=>K (σ.put dst (.bool !b)):=by
 rfl
end
section
variable {t:TypeId} {k:IntKind} {a b:Int} {K:AV→Prop}
@[go_sem] theorem fK:Br P .add t (.int k a) (.int k b) K=K (.int k (k.wrap (a+b))):=by simp [Br,Bin,Lk]
@[go_sem] theorem fL:Br P .sub t (.int k a) (.int k b) K=K (.int k (k.wrap (a - b))):=by simp [Br,Bin,Lk]
@[go_sem] theorem fM:Br P .mul t (.int k a) (.int k b) K=K (.int k (k.wrap (a*b))):=by simp [Br,Bin,Lk]
@[go_sem] theorem fN:Br P .eql t (.int k a) (.int k b) K=K (.bool (decide (a=b))):=by simp [Br,Bin,Lk]
@[go_sem] theorem fO:Br P .neq t (.int k a) (.int k b) K=K (.bool (!decide (a=b))):=by simp [Br,Bin,Lk]
@[go_sem] theorem fP:Br P .lss t (.int k a) (.int k b) K=K (.bool (decide (a<b))):=by simp [Br,Bin,Lk]
@[go_sem] theorem fQ:Br P .leq t (.int k a) (.int k b) K=K (.bool (decide (a≤b))):=by simp [Br,Bin,Lk]
@[go_sem] theorem fR:Br P .gtr t (.int k a) (.int k b) K=K (.bool (decide (b<a))):=by simp [Br,Bin,Lk]
@[go_sem] theorem fS:Br P .geq t (.int k a) (.int k b) K=K (.bool (decide (b≤a))):=by simp [Br,Bin,Lk]
@[go_sem] theorem fT {k'}:Br P .shl t (.int k a) (.int k' b) K=AP (0≤b) (K (.int k (k.wrap (a*2 ^ min b.toNat k.bits)))):=by
 simp only [Br,Bin,AP]
 grind
@[go_sem] theorem fU {k'}:Br P .shr t (.int k a) (.int k' b) K=AP (0≤b) (K (.int k (a / 2 ^ min b.toNat k.bits))):=by
 simp only [Br,Bin,AP]
 grind
@[go_sem] theorem fV:Br P .and t (.int k a) (.int k b) K=K (.int k (bits .and k a b)):=by simp [Br,Bin]
@[go_sem] theorem jV:Br P .or t (.int k a) (.int k b) K=K (.int k (bits .or k a b)):=by simp [Br,Bin]
@[go_sem] theorem fW:Br P .xor t (.int k a) (.int k b) K=K (.int k (bits .xor k a b)):=by simp [Br,Bin]
@[go_sem] theorem YL:Br P .andNot t (.int k a) (.int k b) K=K (.int k (bits .andNot k a b)):=by simp [Br,Bin]
@[go_sem] theorem fX:Br P .quo t (.int k a) (.int k b) K=AP (b≠0) (K (.int k (k.wrap (a.tdiv b)))):=by
 simp only [Br,Bin,AP,true_and]
 grind
@[go_sem] theorem fY:Br P .rem t (.int k a) (.int k b) K=AP (b≠0) (K (.int k (a.tmod b))):=by
 simp only [Br,Bin,AP,true_and]
 grind
end
section
variable {t:TypeId} {a b:ByteArray} {c d:Bool} {K:AV→Prop}
def In (a b:ByteArray):Bool:=a.toList == b.toList
@[go_sem] theorem c8:Br P .eql t (.str a) (.str b) K=K (.bool (In a b)):=by simp [Br,Bin,In]
@[go_sem] theorem c9:Br P .neq t (.str a) (.str b) K=K (.bool (!In a b)):=by simp [Br,Bin,In]
@[go_sem] theorem dA:Br P .add t (.str a) (.str b) K=AP (a.size+b.size≤maxLen) (K (.str (a++b))):=by
 simp only [Br,Bin,AP]
 grind
def aZ (o:Option (List KK)) (xs ys:List AV) (K:Bool→Prop):Prop:=∃ks b,o=some ks∧B8 ks xs ys=some b∧K b
def fZ (o:Option Bool) (K:Bool→Prop):Prop:=∃b,o=some b∧K b
@[go_sem] theorem lE {ks} {xs ys} {K}:aZ (some ks) xs ys K=fZ (B8 ks xs ys) K:=by
 simp [aZ,fZ]
@[go_sem] theorem lF {b} {K}:fZ (some b) K=K b:=by simp [fZ]
@[go_sem] theorem lG {k} {ks} {a b} {xs ys}:B8 (.int k::ks) (.int k a::xs) (.int k b::ys)=(B8 ks xs ys).map (decide (a=b)&& ·):=by
 rw [B8]; simp
@[go_sem] theorem lH {ks} {a b} {xs ys}:B8 (.bool ::ks) (.bool a::xs) (.bool b::ys)=(B8 ks xs ys).map (a == b&& ·):=by
 rw [B8]
@[go_sem] theorem mc {ks} {a b} {xs ys}:B8 (.str ::ks) (.str a::xs) (.str b::ys)=(B8 ks xs ys).map (In a b&& ·):=by
 rw [B8]; rfl
@[go_sem] theorem me:B8 [] [] [] =some true:=by
 rw [B8]
@[go_sem] theorem lI {α β:Type} {f:α→β} {a:α}:Option.map f (some a)=some (f a):=rfl
@[go_sem] theorem dB {xs ys}:Br P .eql t (.agg xs) (.agg ys) K=aZ (G4 P t) xs ys fun b=>K (.bool b):=by
 unfold Br Bin aZ
 grind
@[go_sem] theorem dC {xs ys}:Br P .neq t (.agg xs) (.agg ys) K=aZ (G4 P t) xs ys fun b=>K (.bool !b):=by
 unfold Br Bin aZ
 grind
def WZ (P:Program) (t:TypeId):Prop:=match ti P t with| .bool =>True|_=>False
@[go_sem] theorem dD:Br P .eql t (.bool c) (.bool d) K=AP (WZ P t) (K (.bool (c == d))):=by
 simp only [Br,Bin,AP,WZ]
 split <;> simp_all
@[go_sem] theorem dE:Br P .neq t (.bool c) (.bool d) K=AP (WZ P t) (K (.bool (!(c == d)))):=by
 simp only [Br,Bin,AP,WZ]
 split <;> simp_all
def P8 (P:Program) (t:TypeId):Prop:=match ti P t with| .ptr _=>True|_=>False
@[go_sem] theorem jW:Br P .eql t .nilp .nilp K=AP (P8 P t) (K (.bool true)):=by
 simp only [Br,Bin,AP,P8]
 split <;> simp_all
@[go_sem] theorem fc:Br P .neq t .nilp .nilp K=AP (P8 P t) (K (.bool false)):=by
 simp only [Br,Bin,AP,P8]
 split <;> simp_all
@[go_sem] theorem jX {x off}:Br P .eql t (.box x off) .nilp K=AP (P8 P t) (K (.bool false)):=by
 simp only [Br,Bin,AP,P8]
 split <;> simp_all
@[go_sem] theorem fe {x off}:Br P .neq t (.box x off) .nilp K=AP (P8 P t) (K (.bool true)):=by
 simp only [Br,Bin,AP,P8]
 split <;> simp_all
@[go_sem] theorem jY {ds} {off}:Br P .eql t (.rop ds off) .nilp K=AP (P8 P t) (K (.bool false)):=by
 simp only [Br,Bin,AP,P8]
 split <;> simp_all
@[go_sem] theorem ff {ds} {off}:Br P .neq t (.rop ds off) .nilp K=AP (P8 P t) (K (.bool true)):=by
 simp only [Br,Bin,AP,P8]
 split <;> simp_all
attribute [go_sem] WZ P8
end
def Wa (op:UnOp) (x:AV) (K:AV→Prop):Prop:=∃v,Uno op x v∧K v
theorem jZ {pos} {dst} {op} {t} {x}:opX P pos dst (.unOp op t x) σ K=Wa op (σ.e x) fun v=>K (σ.put dst v):=
 Gs (p:=fun v=>Uno op (σ.e x) v) (fun _=>by rfl) (fun r=>by rfl)
@[go_sem] theorem fg {b} {K}:Wa .not (.bool b) K=K (.bool (!b)):=by simp [Wa,Uno]
@[go_sem] theorem fh {k} {n} {K}:Wa .xor (.int k n) K=K (.int k (bits .xor k (if k.signed then -1 else k.max) n)):=by simp [Wa,Uno]
@[go_sem] theorem fj {k} {n} {K}:Wa .neg (.int k n) K=K (.int k (k.wrap (0 - n))):=by simp [Wa,Uno]
def MS (P:Program) (s d:TypeId) (x:AV) (σ:St) (K:AV→Prop):Prop:=match ti P d,x with
 | .int k,.int _ n=>(ti P s).sc =true∧K (.int k (k.wrap n))
 | .str,y=>∃el ns,ti P s= .sl el∧ti P el= .int .u8 ∧ns.length≤maxLen∧cl σ.T σ.B y=some (.ro (Hf ns))∧K (.str (strOfNums ns))
 |_,_=>False
def dF (P:Program) (s d:TypeId) (x:AV) (σ:St) (v:AV):Prop:=match ti P d,x with
 | .int k,.int _ n=>(ti P s).sc =true∧v= .int k (k.wrap n)
 | .str,y=>∃el ns,ti P s= .sl el∧ti P el= .int .u8 ∧ns.length≤maxLen∧cl σ.T σ.B y=some (.ro (Hf ns))∧v= .str (strOfNums ns)
 |_,_=>False
theorem aa {pos} {dst} {s d} {x}:opX P pos dst (.convert s d x) σ K=MS P s d (σ.e x) σ fun v=>K (σ.put dst v):=by
 rw [Gs (p:=fun v=>dF P s d (σ.e x) σ v) (fun _=>by rfl) (fun r=>by
  simp only [Ev,dF]
  generalize σ.e x=v
  generalize ti P d=q
  cases q <;> cases v <;> first
   |(
    refine propext ⟨?_,?_⟩
    ·intro h; obtain⟨el,ns,h1,h2,h3,h4,rfl⟩:=h; exact⟨_,⟨el,ns,h1,h2,h3,h4,rfl⟩,rfl⟩
    ·intro h; obtain⟨_,⟨el,ns,h1,h2,h3,h4,rfl⟩,rfl⟩:=h; exact⟨el,ns,h1,h2,h3,h4,rfl⟩)
   |simp [and_assoc])]
 unfold MS dF
 generalize σ.e x=v
 generalize ti P d=q
 have key:∀y:AV,(∃v,(∃el ns,ti P s= .sl el∧ti P el= .int .u8 ∧ns.length≤maxLen∧cl σ.T σ.B y=some (.ro (Hf ns))∧v= .str (strOfNums ns))∧K (σ.put dst v))=∃el ns,ti P s= .sl el∧ti P el= .int .u8 ∧ns.length≤maxLen∧cl σ.T σ.B y=some (.ro (Hf ns))∧K (σ.put dst (.str (strOfNums ns))):=fun y=>by
  grind
 cases q <;> cases v <;> first|exact key _|simp [and_assoc]
def Wb (t:TI) (K:IntKind→Prop):Prop:=match t with| .int k=>K k|_=>False
@[go_sem] theorem ae {k} {K}:Wb (.int k) K=K k:=rfl
@[go_sem] theorem ah {s d} {k'} {n} {K}:MS P s d (.int k' n) σ K=Wb (ti P d) fun k=>AP ((ti P s).sc =true) (K (.int k (k.wrap n))):=by
 unfold MS Wb AP
 generalize ti P d=q
 cases q <;> simp [cl,Hf]
def dG (P:Program) (q:TI):Prop:=∃el,q= .sl el∧ti P el= .int .u8
def fk (q:TI):Prop:=q= .int .u8
@[go_sem] theorem mf:fk (.int .u8)=True:=by simp [fk]
@[go_sem] theorem pC {el}:dG P (.sl el)=fk (ti P el):=by simp [dG,fk]
def Wc (P:Program) (q qs:TI) (o:Option AV) (K:AV→Prop):Prop:=q= .str ∧dG P qs∧∃ns,ns.length≤maxLen∧o=some (.ro (Hf ns))∧K (.str (strOfNums ns))
def mg (o:Option AV) (K:AV→Prop) (_:Wrap K):Prop:=∃ns,ns.length≤maxLen∧o=some (.ro (Hf ns))∧K (.str (strOfNums ns))
@[go_sem] theorem mh {qs} {o} {K}:Wc P .str qs o K=AP (dG P qs) (mg o K ⟨⟩):=by simp [Wc,AP,mg]
theorem O8 {s d} {x} {K} (hx:∀k n,x≠ .int k n):MS P s d x σ K=Ap (cl σ.T σ.B x) fun o=>Wc P (ti P d) (ti P s) o K:=by
 unfold MS Wc Ap dG
 grind
@[go_sem] theorem lJ {s d} {t} {K}:MS P s d (.own t) σ K=Ap (cl σ.T σ.B (.own t)) fun o=>Wc P (ti P d) (ti P s) o K:=O8 (by simp)
@[go_sem] theorem mi {s d} {r} {K}:MS P s d (.ro r) σ K=Ap (cl σ.T σ.B (.ro r)) fun o=>Wc P (ti P d) (ti P s) o K:=O8 (by simp)
@[go_sem] theorem lK {s d} {b n z} {K}:MS P s d (.bsl b n z) σ K=Ap (cl σ.T σ.B (.bsl b n z)) fun o=>Wc P (ti P d) (ti P s) o K:=O8 (by simp)
@[go_sem] theorem ja {s d} {K}:MS P s d .nils σ K=Ap (cl σ.T σ.B .nils) fun o=>Wc P (ti P d) (ti P s) o K:=O8 (by simp)
def faX (P:Program) (s:TypeId) (v:AV) (f:Nat) (K:AV→Prop):Prop:=match v with
 | .box b off=>∃q,fOff P s f=some q∧0<tsz P q.2 ∧K (.box b (off+q.1))
 | .rop ds off=>∃q,fOff P s f=some q∧0<tsz P q.2 ∧K (.rop ds (off+q.1))
 | .elt t sz i off=>∃q,fOff P s f=some q∧0<tsz P q.2 ∧K (.elt t sz i (off+q.1))
 | .els t g p sz i off=>∃q,fOff P s f=some q∧0<tsz P q.2 ∧K (.els t g p sz i (off+q.1))
 |_=>False
theorem Wd {pos} {dst} {s} {x} {f}:opX P pos dst (.fieldAddr s x f) σ K=faX P s (σ.e x) f fun v=>K (σ.put dst v):=by
 rw [Gs (p:=fun v=>faX P s (σ.e x) f fun u=>v=u) (fun _=>by rfl) (fun r=>by
  simp only [Ev,faX]
  generalize σ.e x=v
  grind)]
 unfold faX
 split
 ·grind
 ·grind
 ·grind
 ·grind
 ·simp
@[go_sem] theorem fl {s} {b off f} {K}:faX P s (.box b off) f K=optX (fOff P s f) fun q=>AP (0<tsz P q.2) (Ap (off+q.1) fun o=>K (.box b o)):=rfl
@[go_sem] theorem fo {s} {ds} {off f} {K}:faX P s (.rop ds off) f K=optX (fOff P s f) fun q=>AP (0<tsz P q.2) (Ap (off+q.1) fun o=>K (.rop ds o)):=rfl
@[go_sem] theorem fu {s} {t g} {p} {sz i off f} {K}:faX P s (.els t g p sz i off) f K=optX (fOff P s f) fun q=>AP (0<tsz P q.2) (Ap (off+q.1) fun o=>K (.els t g p sz i o)):=rfl
@[go_sem] theorem fv {s} {t sz i off f} {K}:faX P s (.elt t sz i off) f K=optX (fOff P s f) fun q=>AP (0<tsz P q.2) (Ap (off+q.1) fun o=>K (.elt t sz i o)):=rfl
def fdX (P:Program) (s:TypeId) (v:AV) (f:Nat) (K:AV→Prop):Prop:=match v with
 | .agg vs=>optX (fOff P s f) fun q=>MQ (ti P q.2).isAgg (AP (q.1 +tsz P q.2 ≤vs.length) (Ap (.agg (FX vs q.1 (tsz P q.2))) K)) (AP ((ti P q.2).sc =true) (optX vs[q.1]? K))
 |_=>False
@[go_sem] theorem fw {s} {vs} {f} {K}:fdX P s (.agg vs) f K=optX (fOff P s f) fun q=>MQ (ti P q.2).isAgg (AP (q.1 +tsz P q.2 ≤vs.length) (Ap (.agg (FX vs q.1 (tsz P q.2))) K)) (AP ((ti P q.2).sc =true) (optX vs[q.1]? K)):=rfl
theorem fx {pos} {dst} {s} {x} {f}:opX P pos dst (.field s x f) σ K=fdX P s (σ.e x) f fun v=>K (σ.put dst v):=by
 rw [Gs (p:=fun v=>fdX P s (σ.e x) f fun u=>v=u) (fun _=>by rfl) (fun r=>by
  grind [Ev,fdX,optX,MQ,AP,Ap])]
 unfold fdX
 split
 ·grind [optX,MQ,AP,Ap]
 ·simp
attribute [go_sem] fOff
def We (rows:List (List D)) (n:Int) (sz:Nat) (K:List D→Prop):Prop:=∃row,Yz rows n sz row∧K row
def iaX (P:Program) (t:TypeId) (x i:AV) (σ:St) (K:AV→Prop):Prop:=∃v,RP P σ.T t x i v∧K v
def slX (t:TI) (K:TypeId→Prop):Prop:=match t with| .sl e=>K e|_=>False
@[go_sem] theorem jb {e} {K}:slX (.sl e) K=K e:=rfl
def elX (P:Program) (t:TypeId) (x i:AV) (K:AV→Prop):Prop:=∃v,RQ P t x i v∧K v
def arX (t:TI) (K:Nat→TypeId→Prop):Prop:=match t with| .arr n e=>K n e|_=>False
@[go_sem ↓] theorem pE {n} {e} {K}:arX (.arr n e) K=K n e:=rfl
def inX (t:TI) (K:IntKind→Prop):Prop:=match t with| .int k=>K k|_=>False
@[go_sem ↓] theorem pF {k} {K}:inX (.int k) K=K k:=rfl
@[go_sem] theorem lL {k}:Nl k [] =some [] :=rfl
@[go_sem] theorem jc {k} {n} {vs}:Nl k (.int k n::vs)=(Nl k vs).map (n:: ·):=by rw [Nl,if_pos rfl]
theorem fy {pos} {dst} {t} {x i}:opX P pos dst (.index t x i) σ K=elX P t (σ.e x) (σ.e i) fun v=>K (σ.put dst v):=
 Gs (p:=fun v=>RQ P t (σ.e x) (σ.e i) v) (fun _=>by rfl) (fun r=>by rfl)
@[go_sem ↓] theorem pG {t} {vs} {k} {n} {K}:elX P t (.agg vs) (.int k n) K=arX (ti P t) fun l e=>inX (ti P e) fun kd=>AP (tsz P e=1) (optX (Nl kd vs) fun ns=>AP (l=ns.length) (optX (atI ns n) fun m=>K (.int kd m))):=by
 simp only [elX,RQ,arX,inX,AP,optX]
 grind
@[go_sem ↓] theorem pH {t} {s} {k} {n} {K}:elX P t (.str s) (.int k n) K=AP (ti P t= .str) (optX (atB s n) fun m=>K (.int .u8 m)):=by
 grind [elX,RQ,AP,optX]
def ai (P:Program) (T:Nat→Option Tok) (t:TypeId) (x:AV) (l h:Option AV) (K:AV→Prop):Prop:=∃v,(N1 P t x l h v∨TB P T t x l h v)∧K v
theorem f5 {pos} {dst} {t} {x} {l h}:opX P pos dst (.slice t x l h none) σ K=ai P σ.T t (σ.e x) (l.map σ.e) (h.map σ.e) fun v=>K (σ.put dst v):=
 Gs (p:=fun v=>N1 P t (σ.e x) (l.map σ.e) (h.map σ.e) v∨TB P σ.T t (σ.e x) (l.map σ.e) (h.map σ.e) v) (fun _=>by rfl) (fun r=>by rfl)
@[go_sem ↓] theorem pI {t} {rows} {l h} {T} {K}:ai P T t (.ro rows) l h K=slX (ti P t) fun el=>AP (0<tsz P el) (AP (∀row ∈ rows,row.length=tsz P el) (optX (bndI l 0) fun i=>optX (bndI h rows.length) fun j=>optX (cutL rows i j) fun r=>K (.ro r))):=by
 simp only [ai,N1,TB,or_false,slX,AP,optX]
 grind
@[go_sem ↓] theorem mj {t} {s} {l h} {T} {K}:ai P T t (.str s) l h K=AP (ti P t= .str) (optX (bndI l 0) fun i=>optX (bndI h s.size) fun j=>optX (ip s i j) fun r=>K (.str r)):=by
 grind [ai,N1,TB,AP,optX]
@[go_sem] theorem ml {d}:bndI none d=some d:=rfl
@[go_sem] theorem mm {k} {n d}:bndI (some (.int k n)) d=some n:=rfl
theorem Wf {pos} {dst} {t} {x i}:opX P pos dst (.indexAddr t x i) σ K=iaX P t (σ.e x) (σ.e i) σ fun v=>K (σ.put dst v):=
 Gs (p:=fun v=>RP P σ.T t (σ.e x) (σ.e i) v) (fun _=>by rfl) (fun r=>by rfl)
@[go_sem] theorem jd {t} {rows} {k} {n} {K}:iaX P t (.ro rows) (.int k n) σ K=slX (ti P t) fun e=>AP (0<tsz P e) (We rows n (tsz P e) fun row=>K (.rop (row.map ofD) 0)):=by
 simp only [iaX,RP,slX,AP,We]
 grind
@[go_sem] theorem f8 {t} {t'} {k} {n} {K}:iaX P t (.own t') (.int k n) σ K=slX (ti P t) fun e=>AP (0<tsz P e) (optX (σ.T t') fun tk=>We tk.rows n (tsz P e) fun _=>K (.elt t' (tsz P e) n.toNat 0)):=by
 simp only [iaX,RP,slX,AP,We,optX]
 grind
@[go_sem] theorem gA {t} {t' g} {p} {k} {n} {K}:iaX P t (.sub t' g p) (.int k n) σ K=slX (ti P t) fun e=>AP (0<tsz P e) (optX (subR σ.T t' g p) fun rows=>We rows n (tsz P e) fun _=>K (.els t' g p (tsz P e) n.toNat 0)):=by
 simp only [iaX,RP,slX,AP,We,optX]
 grind
def aj (v:AV) (i:Nat) (K:AV→Prop):Prop:=match v with| .tup vs=>optX vs[i]? K|_=>False
@[go_sem] theorem dH {vs} {i} {K}:aj (.tup vs) i K=optX vs[i]? K:=rfl
theorem ak {pos} {dst} {x} {i}:opX P pos dst (.extract x i) σ K=aj (σ.e x) i fun v=>K (σ.put dst v):=by
 rw [Gs (p:=fun v=>aj (σ.e x) i fun u=>v=u) (fun _=>by rfl) (fun r=>by
  simp only [Ev,aj]
  generalize σ.e x=v
  cases v <;> simp [optX])]
 unfold aj
 generalize σ.e x=v
 cases v <;> simp [optX]
def evs (σ:St):List Operand→List AV
 | [] =>[]
 |x::xs=>σ.e x::evs σ xs
theorem Uv {xs}:evs σ xs=xs.map σ.e:=by induction xs with|nil=>rfl|cons x xs ih=>simp [evs,ih]
attribute [go_sem] evs
@[go_sem ↓] theorem je {pos} {dst} {f} {first caps}:opX P pos dst (.makeFunc (.func f) (List.toArray first) caps.toArray) σ K=Ap (.fn f (.agg (evs σ first)::evs σ caps)) fun v=>K (σ.put dst v):=by
 rw [Gs (p:=fun v=>v= .fn f (.agg (evs σ first)::evs σ caps)) (fun _=>by rfl) (fun r=>by simp [Ev,Uv])]
 simp [Ap]
def NX (P:Program) (t:TypeId) (x:AV) (σ:St) (K:AV→Prop):Prop:=∃v,N0 P σ.T σ.B t x v∧K v
theorem mn {pos} {dst} {x} {t}:opX P pos dst (.call ⟨.builtin .len,List.toArray [x],List.toArray [t]⟩) σ K=NX P t (σ.e x) σ fun v=>K (σ.put dst v):=
 Gs (p:=fun v=>N0 P σ.T σ.B t (σ.e x) v) (fun _=>by rfl) (fun r=>by rfl)
def Qv (f:Int→Int→Int) (x y:AV) (K:AV→Prop):Prop:=match x,y with
 | .int k n,.int k' m=>k=k'∧K (.int k (f n m))
 |_,_=>False
@[go_sem] theorem dI {f} {k} {n m} {K}:Qv f (.int k n) (.int k m) K=Ap (f n m) fun r=>K (.int k r):=by simp [Qv,Ap]
theorem mo {pos} {dst} {x y} {ts}:opX P pos dst (.call ⟨.builtin .max,List.toArray [x,y],ts⟩) σ K=Qv (fun n m=>if n<m then m else n) (σ.e x) (σ.e y) fun v=>K (σ.put dst v):=by
 rw [Gs (p:=fun v=>Qv (fun n m=>if n<m then m else n) (σ.e x) (σ.e y) fun u=>v=u) (fun _=>by rfl) (fun r=>by
  simp only [Ev,Qv]
  generalize σ.e x=u
  generalize σ.e y=v
  cases u <;> cases v <;> simp [and_assoc])]
 unfold Qv
 generalize σ.e x=u
 generalize σ.e y=v
 cases u <;> cases v <;> simp [and_assoc]
theorem mq {pos} {dst} {x y} {ts}:opX P pos dst (.call ⟨.builtin .min,List.toArray [x,y],ts⟩) σ K=Qv (fun n m=>if m<n then m else n) (σ.e x) (σ.e y) fun v=>K (σ.put dst v):=by
 rw [Gs (p:=fun v=>Qv (fun n m=>if m<n then m else n) (σ.e x) (σ.e y) fun u=>v=u) (fun _=>by rfl) (fun r=>by
  simp only [Ev,Qv]
  generalize σ.e x=u
  generalize σ.e y=v
  cases u <;> cases v <;> simp [and_assoc])]
 unfold Qv
 generalize σ.e x=u
 generalize σ.e y=v
 cases u <;> cases v <;> simp [and_assoc]
end
attribute [go_sem ↓] cr ct cu cw UF WY fK fL fM fN fO fP fQ fR fS fT fU fV jV fW YL fX fY c8 c9 dA dD dE jW fc jX fe jY ff dB dC fg fj fh ae ah fl fo fv fu fw jb jd f8 gA dH dI
end Go.Proofs.YteckcjgpnegkjaaGreat.Ab
