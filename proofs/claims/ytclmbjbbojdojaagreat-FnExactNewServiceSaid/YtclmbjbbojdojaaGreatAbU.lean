/-
  The abstract walk as rules, second part: the other operations.
-/
import Derived.Test.YtclmbjbbojdojaaGreatAbT
namespace Go.Proofs.YtclmbjbbojdojaaGreat.Ab
set_option linter.unusedVariables false
set_option maxHeartbeats 1000000
open Go.RowKit
section
variable {P:Program} {σ:St} {K:St→Prop} {Q:AE→St→Prop}
theorem Ni {pos} {dst} {op} (h:∀K',aop P pos ⟨dst,op,0, "",#[],none⟩ σ K'=∃r,Ev P pos ⟨dst,op,0, "",#[],none⟩ σ.e σ.T σ.B r∧Cq σ r.t∧D0 σ r.b∧K' (σ.add dst r)):
  opX P pos dst op σ K=∃r,Ev P pos ⟨dst,op,0, "",#[],none⟩ σ.e σ.T σ.B r∧Cq σ r.t∧D0 σ r.b∧K (σ.add dst r):=h K
def SB (v:AV) (K:AV→Prop):Prop:=match v with
 | .box b off=>K (.box b off)
 | .rop ds off=>K (.rop ds off)
 | .elt t sz i off=>K (.elt t sz i off)
 | .els t g p sz i off=>K (.els t g p sz i off)
 |_=>False
@[go_sem] theorem X7 {b off} {K}:SB (.box b off) K=K (.box b off):=rfl
@[go_sem] theorem X8 {ds} {off} {K}:SB (.rop ds off) K=K (.rop ds off):=rfl
@[go_sem] theorem X9 {t sz i off} {K}:SB (.elt t sz i off) K=K (.elt t sz i off):=rfl
@[go_sem] theorem YA {t g} {p} {sz i off} {K}:SB (.els t g p sz i off) K=K (.els t g p sz i off):=rfl
theorem Ux {pos} {dst} {x}:opX P pos dst (.nilCheck x) σ K=SB (σ.e x) fun v=>K (σ.put dst v):=by
 rw [Fo (p:=fun v=>SB (σ.e x) fun u=>v=u) (fun _=>by rfl) (fun r=>by
  simp only [Ev,SB]
  generalize σ.e x=v
  cases v <;> simp)]
 unfold SB
 generalize σ.e x=v
 cases v <;> simp
def BM (P:Program) (op:BinOp) (t:TypeId) (x y:AV) (K:AV→Prop):Prop:=∃v,Bin P op t x y v∧K v
def YB (op:BinOp) (y:Operand):Bool:=match op,y with
 | .eql,.const (.slice none 0 0)=>false
 | .neq,.const (.slice none 0 0)=>false
 |_,_=>true
theorem Td {pos} {dst} {op} {t t'} {x y} (hn:YB op y=true):opX P pos dst (.binOp op t x y t') σ K=BM P op t (σ.e x) (σ.e y) fun v=>K (σ.put dst v):=
 Fo (p:=fun v=>Bin P op t (σ.e x) (σ.e y) v) (fun _=>by
  grind [aop,YB]) (fun r=>by rfl)
section
variable {pos:Nat} {dst:Option Tmp} {op:BinOp} {t t':TypeId} {x:Operand}
theorem Wy {y}:opX P pos dst (.binOp op t x (.tmp y) t') σ K=BM P op t (σ.e x) (σ.g y) fun v=>K (σ.put dst v):=Td (by cases op <;> rfl)
theorem Wz {k} {n}:opX P pos dst (.binOp op t x (.const (.int k n)) t') σ K=BM P op t (σ.e x) (.int k n) fun v=>K (σ.put dst v):=Td (by cases op <;> rfl)
theorem Uy {b}:opX P pos dst (.binOp op t x (.const (.bool b)) t') σ K=BM P op t (σ.e x) (.bool b) fun v=>K (σ.put dst v):=Td (by cases op <;> rfl)
theorem W0 {s}:opX P pos dst (.binOp op t x (.const (.string s)) t') σ K=BM P op t (σ.e x) (.str s) fun v=>K (σ.put dst v):=Td (by cases op <;> rfl)
theorem Uz:opX P pos dst (.binOp op t x (.const (.pointer none)) t') σ K=BM P op t (σ.e x) .nilp fun v=>K (σ.put dst v):=Td (by cases op <;> rfl)
def Te (P:Program) (t:TypeId) (v:AV) (σ:St) (K:Bool→Prop):Prop:=(∃e,ti P t= .sl e)∧JD v=true∧∀b,WD σ.T v b→K b
def slP (t:TI):Prop:=∃e,t= .sl e
@[go_sem] theorem kQ {e}:slP (.sl e)=True:=by simp [slP]
@[go_sem] theorem Re {K}:Te P t .nils σ K=AP (slP (ti P t)) (K true):=by simp [Te,JD,WD,AP,slP]
@[go_sem] theorem Tf {b n sz} {K}:Te P t (.bsl b n sz) σ K=AP (slP (ti P t)) (K false):=by simp [Te,JD,WD,AP,slP]
theorem Ze {rows} {K} (h:slP (ti P t)) (h0:rows=[] →K true) (h1:K false):Te P t (.ro rows) σ K:=
 ⟨h,rfl,fun b hb=>by
  cases b with
  |false=>exact h1
  |true=>
   refine h0 ?_
   by_cases hr:rows=[]
   ·exact hr
   ·exact absurd (hb hr) (by simp)⟩
theorem YC:opX P pos dst (.binOp .eql t x (.const (.slice none 0 0)) t') σ K=Te P t (σ.e x) σ fun b=>K (σ.put dst (.bool b)):=by
 rfl
theorem YD:opX P pos dst (.binOp .neq t x (.const (.slice none 0 0)) t') σ K=Te P t (σ.e x) σ fun b=>K (σ.put dst (.bool !b)):=by
 rfl
end
section
variable {t:TypeId} {k:IntKind} {a b:Int} {K:AV→Prop}
@[go_sem] theorem Zf:BM P .add t (.int k a) (.int k b) K=K (.int k (k.wrap (a+b))):=by simp [BM,Bin,Jj]
@[go_sem] theorem Zg:BM P .sub t (.int k a) (.int k b) K=K (.int k (k.wrap (a - b))):=by simp [BM,Bin,Jj]
@[go_sem] theorem Zh:BM P .mul t (.int k a) (.int k b) K=K (.int k (k.wrap (a*b))):=by simp [BM,Bin,Jj]
@[go_sem] theorem Zi:BM P .eql t (.int k a) (.int k b) K=K (.bool (decide (a=b))):=by simp [BM,Bin,Jj]
@[go_sem] theorem Zj:BM P .neq t (.int k a) (.int k b) K=K (.bool (!decide (a=b))):=by simp [BM,Bin,Jj]
@[go_sem] theorem Zk:BM P .lss t (.int k a) (.int k b) K=K (.bool (decide (a<b))):=by simp [BM,Bin,Jj]
@[go_sem] theorem Zl:BM P .leq t (.int k a) (.int k b) K=K (.bool (decide (a≤b))):=by simp [BM,Bin,Jj]
@[go_sem] theorem Zm:BM P .gtr t (.int k a) (.int k b) K=K (.bool (decide (b<a))):=by simp [BM,Bin,Jj]
@[go_sem] theorem Zn:BM P .geq t (.int k a) (.int k b) K=K (.bool (decide (b≤a))):=by simp [BM,Bin,Jj]
@[go_sem] theorem Zo {k'}:BM P .shl t (.int k a) (.int k' b) K=AP (0≤b) (K (.int k (k.wrap (a*2 ^ min b.toNat k.bits)))):=by
 simp only [BM,Bin,AP]
 grind
@[go_sem] theorem Zp {k'}:BM P .shr t (.int k a) (.int k' b) K=AP (0≤b) (K (.int k (a / 2 ^ min b.toNat k.bits))):=by
 simp only [BM,Bin,AP]
 grind
@[go_sem] theorem Zq:BM P .and t (.int k a) (.int k b) K=K (.int k (bits .and k a b)):=by simp [BM,Bin]
@[go_sem] theorem ci:BM P .or t (.int k a) (.int k b) K=K (.int k (bits .or k a b)):=by simp [BM,Bin]
@[go_sem] theorem Zr:BM P .xor t (.int k a) (.int k b) K=K (.int k (bits .xor k a b)):=by simp [BM,Bin]
@[go_sem] theorem U0:BM P .andNot t (.int k a) (.int k b) K=K (.int k (bits .andNot k a b)):=by simp [BM,Bin]
@[go_sem] theorem Zs:BM P .quo t (.int k a) (.int k b) K=AP (b≠0) (K (.int k (k.wrap (a.tdiv b)))):=by
 simp only [BM,Bin,AP,true_and]
 grind
@[go_sem] theorem Zt:BM P .rem t (.int k a) (.int k b) K=AP (b≠0) (K (.int k (a.tmod b))):=by
 simp only [BM,Bin,AP,true_and]
 grind
end
section
variable {t:TypeId} {a b:ByteArray} {c d:Bool} {K:AV→Prop}
def HC (a b:ByteArray):Bool:=a.toList == b.toList
@[go_sem] theorem YE:BM P .eql t (.str a) (.str b) K=K (.bool (HC a b)):=by simp [BM,Bin,HC]
@[go_sem] theorem YF:BM P .neq t (.str a) (.str b) K=K (.bool (!HC a b)):=by simp [BM,Bin,HC]
@[go_sem] theorem YG:BM P .add t (.str a) (.str b) K=AP (a.size+b.size≤maxLen) (K (.str (a++b))):=by
 simp only [BM,Bin,AP]
 grind
def W1 (o:Option (List KK)) (xs ys:List AV) (K:Bool→Prop):Prop:=∃ks b,o=some ks∧BZ ks xs ys=some b∧K b
def Zu (o:Option Bool) (K:Bool→Prop):Prop:=∃b,o=some b∧K b
@[go_sem] theorem eE {ks} {xs ys} {K}:W1 (some ks) xs ys K=Zu (BZ ks xs ys) K:=by
 simp [W1,Zu]
@[go_sem] theorem eF {b} {K}:Zu (some b) K=K b:=by simp [Zu]
@[go_sem] theorem eG {k} {ks} {a b} {xs ys}:BZ (.int k::ks) (.int k a::xs) (.int k b::ys)=(BZ ks xs ys).map (decide (a=b)&& ·):=by
 rw [BZ]; simp
@[go_sem] theorem eH {ks} {a b} {xs ys}:BZ (.bool ::ks) (.bool a::xs) (.bool b::ys)=(BZ ks xs ys).map (a == b&& ·):=by
 rw [BZ]
@[go_sem] theorem fo {ks} {a b} {xs ys}:BZ (.str ::ks) (.str a::xs) (.str b::ys)=(BZ ks xs ys).map (HC a b&& ·):=by
 rw [BZ]; rfl
@[go_sem] theorem ft:BZ [] [] [] =some true:=by
 rw [BZ]
@[go_sem] theorem eI {α β:Type} {f:α→β} {a:α}:Option.map f (some a)=some (f a):=rfl
@[go_sem] theorem YH {xs ys}:BM P .eql t (.agg xs) (.agg ys) K=W1 (C0 P t) xs ys fun b=>K (.bool b):=by
 unfold BM Bin W1
 grind
@[go_sem] theorem YI {xs ys}:BM P .neq t (.agg xs) (.agg ys) K=W1 (C0 P t) xs ys fun b=>K (.bool !b):=by
 unfold BM Bin W1
 grind
def Tg (P:Program) (t:TypeId):Prop:=match ti P t with| .bool =>True|_=>False
@[go_sem] theorem YJ:BM P .eql t (.bool c) (.bool d) K=AP (Tg P t) (K (.bool (c == d))):=by
 simp only [BM,Bin,AP,Tg]
 split <;> simp_all
@[go_sem] theorem YK:BM P .neq t (.bool c) (.bool d) K=AP (Tg P t) (K (.bool (!(c == d)))):=by
 simp only [BM,Bin,AP,Tg]
 split <;> simp_all
def Nj (P:Program) (t:TypeId):Prop:=match ti P t with| .ptr _=>True|_=>False
@[go_sem] theorem cj:BM P .eql t .nilp .nilp K=AP (Nj P t) (K (.bool true)):=by
 simp only [BM,Bin,AP,Nj]
 split <;> simp_all
@[go_sem] theorem Zv:BM P .neq t .nilp .nilp K=AP (Nj P t) (K (.bool false)):=by
 simp only [BM,Bin,AP,Nj]
 split <;> simp_all
@[go_sem] theorem ck {x off}:BM P .eql t (.box x off) .nilp K=AP (Nj P t) (K (.bool false)):=by
 simp only [BM,Bin,AP,Nj]
 split <;> simp_all
@[go_sem] theorem Zw {x off}:BM P .neq t (.box x off) .nilp K=AP (Nj P t) (K (.bool true)):=by
 simp only [BM,Bin,AP,Nj]
 split <;> simp_all
@[go_sem] theorem cm {ds} {off}:BM P .eql t (.rop ds off) .nilp K=AP (Nj P t) (K (.bool false)):=by
 simp only [BM,Bin,AP,Nj]
 split <;> simp_all
@[go_sem] theorem Zx {ds} {off}:BM P .neq t (.rop ds off) .nilp K=AP (Nj P t) (K (.bool true)):=by
 simp only [BM,Bin,AP,Nj]
 split <;> simp_all
attribute [go_sem] Tg Nj
end
def Th (op:UnOp) (x:AV) (K:AV→Prop):Prop:=∃v,Uno op x v∧K v
theorem cn {pos} {dst} {op} {t} {x}:opX P pos dst (.unOp op t x) σ K=Th op (σ.e x) fun v=>K (σ.put dst v):=
 Fo (p:=fun v=>Uno op (σ.e x) v) (fun _=>by rfl) (fun r=>by rfl)
@[go_sem] theorem Zy {b} {K}:Th .not (.bool b) K=K (.bool (!b)):=by simp [Th,Uno]
@[go_sem] theorem Zz {k} {n} {K}:Th .xor (.int k n) K=K (.int k (bits .xor k (if k.signed then -1 else k.max) n)):=by simp [Th,Uno]
@[go_sem] theorem Z0 {k} {n} {K}:Th .neg (.int k n) K=K (.int k (k.wrap (0 - n))):=by simp [Th,Uno]
def KQ (P:Program) (s d:TypeId) (x:AV) (σ:St) (K:AV→Prop):Prop:=match ti P d,x with
 | .int k,.int _ n=>(ti P s).sc =true∧K (.int k (k.wrap n))
 | .str,y=>∃el ns,ti P s= .sl el∧ti P el= .int .u8 ∧ns.length≤maxLen∧cl σ.T σ.B y=some (.ro (GL ns))∧K (.str (strOfNums ns))
 |_,_=>False
def YL (P:Program) (s d:TypeId) (x:AV) (σ:St) (v:AV):Prop:=match ti P d,x with
 | .int k,.int _ n=>(ti P s).sc =true∧v= .int k (k.wrap n)
 | .str,y=>∃el ns,ti P s= .sl el∧ti P el= .int .u8 ∧ns.length≤maxLen∧cl σ.T σ.B y=some (.ro (GL ns))∧v= .str (strOfNums ns)
 |_,_=>False
theorem W2 {pos} {dst} {s d} {x}:opX P pos dst (.convert s d x) σ K=KQ P s d (σ.e x) σ fun v=>K (σ.put dst v):=by
 rw [Fo (p:=fun v=>YL P s d (σ.e x) σ v) (fun _=>by rfl) (fun r=>by
  simp only [Ev,YL]
  generalize σ.e x=v
  generalize ti P d=q
  cases q <;> cases v <;> first
   |(
    refine propext ⟨?_,?_⟩
    ·intro h; obtain⟨el,ns,h1,h2,h3,h4,rfl⟩:=h; exact⟨_,⟨el,ns,h1,h2,h3,h4,rfl⟩,rfl⟩
    ·intro h; obtain⟨_,⟨el,ns,h1,h2,h3,h4,rfl⟩,rfl⟩:=h; exact⟨el,ns,h1,h2,h3,h4,rfl⟩)
   |simp [and_assoc])]
 unfold KQ YL
 generalize σ.e x=v
 generalize ti P d=q
 have key:∀y:AV,(∃v,(∃el ns,ti P s= .sl el∧ti P el= .int .u8 ∧ns.length≤maxLen∧cl σ.T σ.B y=some (.ro (GL ns))∧v= .str (strOfNums ns))∧K (σ.put dst v))=∃el ns,ti P s= .sl el∧ti P el= .int .u8 ∧ns.length≤maxLen∧cl σ.T σ.B y=some (.ro (GL ns))∧K (σ.put dst (.str (strOfNums ns))):=fun y=>by
  grind
 cases q <;> cases v <;> first|exact key _|simp [and_assoc]
def Ti (t:TI) (K:IntKind→Prop):Prop:=match t with| .int k=>K k|_=>False
@[go_sem] theorem W3 {k} {K}:Ti (.int k) K=K k:=rfl
@[go_sem] theorem W4 {s d} {k'} {n} {K}:KQ P s d (.int k' n) σ K=Ti (ti P d) fun k=>AP ((ti P s).sc =true) (K (.int k (k.wrap n))):=by
 unfold KQ Ti AP
 generalize ti P d=q
 cases q <;> simp [cl,GL]
def YM (P:Program) (q:TI):Prop:=∃el,q= .sl el∧ti P el= .int .u8
def Z1 (q:TI):Prop:=q= .int .u8
@[go_sem] theorem fu:Z1 (.int .u8)=True:=by simp [Z1]
@[go_sem] theorem ik {el}:YM P (.sl el)=Z1 (ti P el):=by simp [YM,Z1]
def Tj (P:Program) (q qs:TI) (o:Option AV) (K:AV→Prop):Prop:=q= .str ∧YM P qs∧∃ns,ns.length≤maxLen∧o=some (.ro (GL ns))∧K (.str (strOfNums ns))
def fv (o:Option AV) (K:AV→Prop) (_:Wrap K):Prop:=∃ns,ns.length≤maxLen∧o=some (.ro (GL ns))∧K (.str (strOfNums ns))
@[go_sem] theorem fw {qs} {o} {K}:Tj P .str qs o K=AP (YM P qs) (fv o K ⟨⟩):=by simp [Tj,AP,fv]
theorem Mv {s d} {x} {K} (hx:∀k n,x≠ .int k n):KQ P s d x σ K=Ag (cl σ.T σ.B x) fun o=>Tj P (ti P d) (ti P s) o K:=by
 unfold KQ Tj Ag YM
 grind
@[go_sem] theorem eJ {s d} {t} {K}:KQ P s d (.own t) σ K=Ag (cl σ.T σ.B (.own t)) fun o=>Tj P (ti P d) (ti P s) o K:=Mv (by simp)
@[go_sem] theorem fx {s d} {r} {K}:KQ P s d (.ro r) σ K=Ag (cl σ.T σ.B (.ro r)) fun o=>Tj P (ti P d) (ti P s) o K:=Mv (by simp)
@[go_sem] theorem eK {s d} {b n z} {K}:KQ P s d (.bsl b n z) σ K=Ag (cl σ.T σ.B (.bsl b n z)) fun o=>Tj P (ti P d) (ti P s) o K:=Mv (by simp)
@[go_sem] theorem cp {s d} {K}:KQ P s d .nils σ K=Ag (cl σ.T σ.B .nils) fun o=>Tj P (ti P d) (ti P s) o K:=Mv (by simp)
def faX (P:Program) (s:TypeId) (v:AV) (f:Nat) (K:AV→Prop):Prop:=match v with
 | .box b off=>∃q,fOff P s f=some q∧0<tsz P q.2 ∧K (.box b (off+q.1))
 | .rop ds off=>∃q,fOff P s f=some q∧0<tsz P q.2 ∧K (.rop ds (off+q.1))
 | .elt t sz i off=>∃q,fOff P s f=some q∧0<tsz P q.2 ∧K (.elt t sz i (off+q.1))
 | .els t g p sz i off=>∃q,fOff P s f=some q∧0<tsz P q.2 ∧K (.els t g p sz i (off+q.1))
 |_=>False
theorem Tk {pos} {dst} {s} {x} {f}:opX P pos dst (.fieldAddr s x f) σ K=faX P s (σ.e x) f fun v=>K (σ.put dst v):=by
 rw [Fo (p:=fun v=>faX P s (σ.e x) f fun u=>v=u) (fun _=>by rfl) (fun r=>by
  simp only [Ev,faX]
  generalize σ.e x=v
  grind)]
 unfold faX
 split
 ·grind
 ·grind
 ·grind
 ·grind
 ·simp
@[go_sem] theorem Z2 {s} {b off f} {K}:faX P s (.box b off) f K=optX (fOff P s f) fun q=>AP (0<tsz P q.2) (Ag (off+q.1) fun o=>K (.box b o)):=rfl
@[go_sem] theorem Z3 {s} {ds} {off f} {K}:faX P s (.rop ds off) f K=optX (fOff P s f) fun q=>AP (0<tsz P q.2) (Ag (off+q.1) fun o=>K (.rop ds o)):=rfl
@[go_sem] theorem Z4 {s} {t g} {p} {sz i off f} {K}:faX P s (.els t g p sz i off) f K=optX (fOff P s f) fun q=>AP (0<tsz P q.2) (Ag (off+q.1) fun o=>K (.els t g p sz i o)):=rfl
@[go_sem] theorem Z5 {s} {t sz i off f} {K}:faX P s (.elt t sz i off) f K=optX (fOff P s f) fun q=>AP (0<tsz P q.2) (Ag (off+q.1) fun o=>K (.elt t sz i o)):=rfl
def fdX (P:Program) (s:TypeId) (v:AV) (f:Nat) (K:AV→Prop):Prop:=match v with
 | .agg vs=>optX (fOff P s f) fun q=>KO (ti P q.2).isAgg (AP (q.1 +tsz P q.2 ≤vs.length) (Ag (.agg (Ek vs q.1 (tsz P q.2))) K)) (AP ((ti P q.2).sc =true) (optX vs[q.1]? K))
 |_=>False
@[go_sem] theorem Z6 {s} {vs} {f} {K}:fdX P s (.agg vs) f K=optX (fOff P s f) fun q=>KO (ti P q.2).isAgg (AP (q.1 +tsz P q.2 ≤vs.length) (Ag (.agg (Ek vs q.1 (tsz P q.2))) K)) (AP ((ti P q.2).sc =true) (optX vs[q.1]? K)):=rfl
theorem Z7 {pos} {dst} {s} {x} {f}:opX P pos dst (.field s x f) σ K=fdX P s (σ.e x) f fun v=>K (σ.put dst v):=by
 rw [Fo (p:=fun v=>fdX P s (σ.e x) f fun u=>v=u) (fun _=>by rfl) (fun r=>by
  grind [Ev,fdX,optX,KO,AP,Ag])]
 unfold fdX
 split
 ·grind [optX,KO,AP,Ag]
 ·simp
attribute [go_sem] fOff
def Tl (rows:List (List D)) (n:Int) (sz:Nat) (K:List D→Prop):Prop:=∃row,VQ rows n sz row∧K row
def iaX (P:Program) (t:TypeId) (x i:AV) (σ:St) (K:AV→Prop):Prop:=∃v,OZ P σ.T t x i v∧K v
def slX (t:TI) (K:TypeId→Prop):Prop:=match t with| .sl e=>K e|_=>False
@[go_sem] theorem cq {e} {K}:slX (.sl e) K=K e:=rfl
def elX (P:Program) (t:TypeId) (x i:AV) (K:AV→Prop):Prop:=∃v,PB P t x i v∧K v
def arX (t:TI) (K:Nat→TypeId→Prop):Prop:=match t with| .arr n e=>K n e|_=>False
@[go_sem ↓] theorem il {n} {e} {K}:arX (.arr n e) K=K n e:=rfl
def inX (t:TI) (K:IntKind→Prop):Prop:=match t with| .int k=>K k|_=>False
@[go_sem ↓] theorem im {k} {K}:inX (.int k) K=K k:=rfl
@[go_sem] theorem eL {k}:LR k [] =some [] :=rfl
@[go_sem] theorem cr {k} {n} {vs}:LR k (.int k n::vs)=(LR k vs).map (n:: ·):=by rw [LR,if_pos rfl]
theorem Z8 {pos} {dst} {t} {x i}:opX P pos dst (.index t x i) σ K=elX P t (σ.e x) (σ.e i) fun v=>K (σ.put dst v):=
 Fo (p:=fun v=>PB P t (σ.e x) (σ.e i) v) (fun _=>by rfl) (fun r=>by rfl)
def isX (t:TI) (K:IntKind→Prop) (K':Prop):Prop:=match t with| .int k=>K k| .str =>K'|_=>False
@[go_sem ↓] theorem io {k} {K K'}:isX (.int k) K K'=K k:=rfl
@[go_sem ↓] theorem ip {K K'}:isX .str K K'=K':=rfl
@[go_sem] theorem eM:MX [] =some [] :=rfl
@[go_sem] theorem ct {s} {vs}:MX (.str s::vs)=(MX vs).map (s:: ·):=rfl
@[go_sem ↓] theorem iq {t} {vs} {k} {n} {K}:elX P t (.agg vs) (.int k n) K=arX (ti P t) fun l e=>isX (ti P e) (fun kd=>AP (tsz P e=1) (optX (LR kd vs) fun ns=>AP (l=ns.length) (optX (atI ns n) fun m=>K (.int kd m)))) (AP (tsz P e=1) (optX (MX vs) fun ns=>AP (l=ns.length) (optX (atS ns n) fun m=>K (.str m)))):=by
 simp only [elX,PB,arX,isX,AP,optX]
 generalize ti P t=q
 cases q <;> grind
@[go_sem ↓] theorem ir {t} {s} {k} {n} {K}:elX P t (.str s) (.int k n) K=AP (ti P t= .str) (optX (atB s n) fun m=>K (.int .u8 m)):=by
 grind [elX,PB,AP,optX]
def W5 (P:Program) (T:Nat→Option Tok) (t:TypeId) (x:AV) (l h:Option AV) (K:AV→Prop):Prop:=∃v,(Lf P t x l h v∨QU P T t x l h v)∧K v
theorem Z9 {pos} {dst} {t} {x} {l h}:opX P pos dst (.slice t x l h none) σ K=W5 P σ.T t (σ.e x) (l.map σ.e) (h.map σ.e) fun v=>K (σ.put dst v):=
 Fo (p:=fun v=>Lf P t (σ.e x) (l.map σ.e) (h.map σ.e) v∨QU P σ.T t (σ.e x) (l.map σ.e) (h.map σ.e) v) (fun _=>by rfl) (fun r=>by rfl)
@[go_sem ↓] theorem it {t} {rows} {l h} {T} {K}:W5 P T t (.ro rows) l h K=slX (ti P t) fun el=>AP (0<tsz P el) (AP (∀row ∈ rows,row.length=tsz P el) (optX (bndI l 0) fun i=>optX (bndI h rows.length) fun j=>optX (cutL rows i j) fun r=>K (.ro r))):=by
 simp only [W5,Lf,QU,or_false,slX,AP,optX]
 grind
@[go_sem ↓] theorem fy {t} {s} {l h} {T} {K}:W5 P T t (.str s) l h K=AP (ti P t= .str) (optX (bndI l 0) fun i=>optX (bndI h s.size) fun j=>optX (bt s i j) fun r=>K (.str r)):=by
 grind [W5,Lf,QU,AP,optX]
@[go_sem] theorem f4 {d}:bndI none d=some d:=rfl
@[go_sem] theorem f5 {k} {n d}:bndI (some (.int k n)) d=some n:=rfl
theorem Tm {pos} {dst} {t} {x i}:opX P pos dst (.indexAddr t x i) σ K=iaX P t (σ.e x) (σ.e i) σ fun v=>K (σ.put dst v):=
 Fo (p:=fun v=>OZ P σ.T t (σ.e x) (σ.e i) v) (fun _=>by rfl) (fun r=>by rfl)
@[go_sem] theorem cu {t} {rows} {k} {n} {K}:iaX P t (.ro rows) (.int k n) σ K=slX (ti P t) fun e=>AP (0<tsz P e) (Tl rows n (tsz P e) fun row=>K (.rop (row.map ofD) 0)):=by
 simp only [iaX,OZ,slX,AP,Tl]
 grind
def arI (t:TI) (K:Nat→TypeId→Prop):Prop:=match t with| .arr n e=>K n e|_=>False
@[go_sem ↓] theorem iu {n} {e} {K}:arI (.arr n e) K=K n e:=rfl
@[go_sem] theorem iw {t} {b off} {k} {n} {K}:iaX P t (.box b off) (.int k n) σ K=arI (ti P t) fun l e=>AP (0<tsz P e) (AP (0≤n∧n<(l:Int)) (K (.box b (off+n.toNat*tsz P e)))):=by
 simp only [iaX,OZ,arI,AP]
 grind
@[go_sem] theorem aA {t} {t'} {k} {n} {K}:iaX P t (.own t') (.int k n) σ K=slX (ti P t) fun e=>AP (0<tsz P e) (optX (σ.T t') fun tk=>Tl tk.rows n (tsz P e) fun _=>K (.elt t' (tsz P e) n.toNat 0)):=by
 simp only [iaX,OZ,slX,AP,Tl,optX]
 grind
@[go_sem] theorem aB {t} {t' g} {p} {k} {n} {K}:iaX P t (.sub t' g p) (.int k n) σ K=slX (ti P t) fun e=>AP (0<tsz P e) (optX (subR σ.T t' g p) fun rows=>Tl rows n (tsz P e) fun _=>K (.els t' g p (tsz P e) n.toNat 0)):=by
 simp only [iaX,OZ,slX,AP,Tl,optX]
 grind
def W6 (v:AV) (i:Nat) (K:AV→Prop):Prop:=match v with| .tup vs=>optX vs[i]? K|_=>False
@[go_sem] theorem YN {vs} {i} {K}:W6 (.tup vs) i K=optX vs[i]? K:=rfl
theorem W7 {pos} {dst} {x} {i}:opX P pos dst (.extract x i) σ K=W6 (σ.e x) i fun v=>K (σ.put dst v):=by
 rw [Fo (p:=fun v=>W6 (σ.e x) i fun u=>v=u) (fun _=>by rfl) (fun r=>by
  simp only [Ev,W6]
  generalize σ.e x=v
  cases v <;> simp [optX])]
 unfold W6
 generalize σ.e x=v
 cases v <;> simp [optX]
def evs (σ:St):List Operand→List AV
 | [] =>[]
 |x::xs=>σ.e x::evs σ xs
theorem SC {xs}:evs σ xs=xs.map σ.e:=by induction xs with|nil=>rfl|cons x xs ih=>simp [evs,ih]
attribute [go_sem] evs
@[go_sem ↓] theorem cw {pos} {dst} {f} {first caps}:opX P pos dst (.makeFunc (.func f) (List.toArray first) caps.toArray) σ K=Ag (.fn f (.agg (evs σ first)::evs σ caps)) fun v=>K (σ.put dst v):=by
 rw [Fo (p:=fun v=>v= .fn f (.agg (evs σ first)::evs σ caps)) (fun _=>by rfl) (fun r=>by simp [Ev,SC])]
 simp [Ag]
def LA (P:Program) (t:TypeId) (x:AV) (σ:St) (K:AV→Prop):Prop:=∃v,Ld P σ.T σ.B t x v∧K v
theorem f6 {pos} {dst} {x} {t}:opX P pos dst (.call ⟨.builtin .len,List.toArray [x],List.toArray [t]⟩) σ K=LA P t (σ.e x) σ fun v=>K (σ.put dst v):=
 Fo (p:=fun v=>Ld P σ.T σ.B t (σ.e x) v) (fun _=>by rfl) (fun r=>by rfl)
def Oa (f:Int→Int→Int) (x y:AV) (K:AV→Prop):Prop:=match x,y with
 | .int k n,.int k' m=>k=k'∧K (.int k (f n m))
 |_,_=>False
@[go_sem] theorem YO {f} {k} {n m} {K}:Oa f (.int k n) (.int k m) K=Ag (f n m) fun r=>K (.int k r):=by simp [Oa,Ag]
theorem f7 {pos} {dst} {x y} {ts}:opX P pos dst (.call ⟨.builtin .max,List.toArray [x,y],ts⟩) σ K=Oa (fun n m=>if n<m then m else n) (σ.e x) (σ.e y) fun v=>K (σ.put dst v):=by
 rw [Fo (p:=fun v=>Oa (fun n m=>if n<m then m else n) (σ.e x) (σ.e y) fun u=>v=u) (fun _=>by rfl) (fun r=>by
  simp only [Ev,Oa]
  generalize σ.e x=u
  generalize σ.e y=v
  cases u <;> cases v <;> simp [and_assoc])]
 unfold Oa
 generalize σ.e x=u
 generalize σ.e y=v
 cases u <;> cases v <;> simp [and_assoc]
theorem f8 {pos} {dst} {x y} {ts}:opX P pos dst (.call ⟨.builtin .min,List.toArray [x,y],ts⟩) σ K=Oa (fun n m=>if m<n then m else n) (σ.e x) (σ.e y) fun v=>K (σ.put dst v):=by
 rw [Fo (p:=fun v=>Oa (fun n m=>if m<n then m else n) (σ.e x) (σ.e y) fun u=>v=u) (fun _=>by rfl) (fun r=>by
  simp only [Ev,Oa]
  generalize σ.e x=u
  generalize σ.e y=v
  cases u <;> cases v <;> simp [and_assoc])]
 unfold Oa
 generalize σ.e x=u
 generalize σ.e y=v
 cases u <;> cases v <;> simp [and_assoc]
end
attribute [go_sem ↓] X7 X8 X9 YA Re Tf Zf Zg Zh Zi Zj Zk Zl Zm Zn Zo Zp Zq ci Zr U0 Zs Zt YE YF YG YJ YK cj Zv ck Zw cm Zx YH YI Zy Z0 Zz W3 W4 Z2 Z3 Z5 Z4 Z6 cq cu aA aB YN YO
end Go.Proofs.YtclmbjbbojdojaaGreat.Ab
