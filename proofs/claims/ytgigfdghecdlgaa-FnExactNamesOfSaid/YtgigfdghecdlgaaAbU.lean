/-
  The abstract walk as rules, second part: the other operations.
-/
import Derived.Test.YtgigfdghecdlgaaAbT
namespace Go.Proofs.Ytgigfdghecdlgaa.Ab
set_option linter.unusedVariables false
open Go.RowKit
section
variable {P:Program} {σ:St} {K:St→Prop} {Q:AE→St→Prop}
theorem Iv {pos} {dst} {op} (h:∀K',aop P pos ⟨dst,op,0, "",#[],none⟩ σ K'=∃r,Ev P pos ⟨dst,op,0, "",#[],none⟩ σ.e σ.T σ.B r∧BZ σ r.t∧CM σ r.b∧K' (σ.add dst r)):
  opX P pos dst op σ K=∃r,Ev P pos ⟨dst,op,0, "",#[],none⟩ σ.e σ.T σ.B r∧BZ σ r.t∧CM σ r.b∧K (σ.add dst r):=h K
def MV (v:AV) (K:AV→Prop):Prop:=match v with
 | .box b off=>K (.box b off)
 | .rop ds off=>K (.rop ds off)
 | .elt t sz i off=>K (.elt t sz i off)
 | .els t g p sz i off=>K (.els t g p sz i off)
 |_=>False
@[go_sem] theorem R8 {b off} {K}:MV (.box b off) K=K (.box b off):=rfl
@[go_sem] theorem R9 {ds} {off} {K}:MV (.rop ds off) K=K (.rop ds off):=rfl
@[go_sem] theorem SA {t sz i off} {K}:MV (.elt t sz i off) K=K (.elt t sz i off):=rfl
@[go_sem] theorem SB {t g} {p} {sz i off} {K}:MV (.els t g p sz i off) K=K (.els t g p sz i off):=rfl
theorem PA {pos} {dst} {x}:opX P pos dst (.nilCheck x) σ K=MV (σ.e x) fun v=>K (σ.put dst v):=by
 rw [DU (p:=fun v=>MV (σ.e x) fun u=>v=u) (fun _=>by simp only [aop]) (fun r=>by
  simp only [Ev,MV]
  generalize σ.e x=v
  cases v <;> simp)]
 unfold MV
 generalize σ.e x=v
 cases v <;> simp
def As (P:Program) (op:BinOp) (t:TypeId) (x y:AV) (K:AV→Prop):Prop:=∃v,Bin P op t x y v∧K v
def PB (op:BinOp) (y:Operand):Bool:=match op,y with
 | .eql,.const (.slice none 0 0)=>false
 | .neq,.const (.slice none 0 0)=>false
 |_,_=>true
theorem Np {pos} {dst} {op} {t t'} {x y} (hn:PB op y=true):opX P pos dst (.binOp op t x y t') σ K=As P op t (σ.e x) (σ.e y) fun v=>K (σ.put dst v):=
 DU (p:=fun v=>Bin P op t (σ.e x) (σ.e y) v) (fun _=>by
  unfold aop
  dsimp only
  split
  ·rename_i h; simp only [Op.binOp.injEq] at h; obtain⟨rfl,rfl,rfl,rfl,rfl⟩:=h; simp [PB] at hn
  ·rename_i h; simp only [Op.binOp.injEq] at h; obtain⟨rfl,rfl,rfl,rfl,rfl⟩:=h; simp [PB] at hn
  ·rename_i h; cases h
  ·rename_i h; cases h
  ·rename_i h; cases h
  ·rfl) (fun r=>by simp only [Ev])
section
variable {pos:Nat} {dst:Option Tmp} {op:BinOp} {t t':TypeId} {x:Operand}
theorem Q1 {y}:opX P pos dst (.binOp op t x (.tmp y) t') σ K=As P op t (σ.e x) (σ.g y) fun v=>K (σ.put dst v):=Np (by cases op <;> rfl)
theorem Q2 {k} {n}:opX P pos dst (.binOp op t x (.const (.int k n)) t') σ K=As P op t (σ.e x) (.int k n) fun v=>K (σ.put dst v):=Np (by cases op <;> rfl)
theorem PC {b}:opX P pos dst (.binOp op t x (.const (.bool b)) t') σ K=As P op t (σ.e x) (.bool b) fun v=>K (σ.put dst v):=Np (by cases op <;> rfl)
theorem Q3 {s}:opX P pos dst (.binOp op t x (.const (.string s)) t') σ K=As P op t (σ.e x) (.str s) fun v=>K (σ.put dst v):=Np (by cases op <;> rfl)
theorem PD:opX P pos dst (.binOp op t x (.const (.pointer none)) t') σ K=As P op t (σ.e x) .nilp fun v=>K (σ.put dst v):=Np (by cases op <;> rfl)
def MW (P:Program) (t:TypeId) (v:AV) (σ:St) (K:Bool→Prop):Prop:=(∃e,ti P t= .sl e)∧Ft v=true∧∀b,QI σ.T v b→K b
def slP (t:TI):Prop:=∃e,t= .sl e
@[go_sem] theorem aQ {e}:slP (.sl e)=True:=by simp [slP]
@[go_sem] theorem L6 {K}:MW P t .nils σ K=AJ (slP (ti P t)) (K true):=by simp [MW,Ft,QI,AJ,slP]
@[go_sem] theorem Nq {b n sz} {K}:MW P t (.bsl b n sz) σ K=AJ (slP (ti P t)) (K false):=by simp [MW,Ft,QI,AJ,slP]
theorem SC:opX P pos dst (.binOp .eql t x (.const (.slice none 0 0)) t') σ K=MW P t (σ.e x) σ fun b=>K (σ.put dst (.bool b)):=by
 unfold opX; simp only [aop,MW]
theorem SD:opX P pos dst (.binOp .neq t x (.const (.slice none 0 0)) t') σ K=MW P t (σ.e x) σ fun b=>K (σ.put dst (.bool !b)):=by
 unfold opX; simp only [aop,MW]
end
section
variable {t:TypeId} {k:IntKind} {a b:Int} {K:AV→Prop}
@[go_sem] theorem TW:As P .add t (.int k a) (.int k b) K=K (.int k (k.wrap (a+b))):=by simp [As,Bin,GD]
@[go_sem] theorem TX:As P .sub t (.int k a) (.int k b) K=K (.int k (k.wrap (a - b))):=by simp [As,Bin,GD]
@[go_sem] theorem TY:As P .mul t (.int k a) (.int k b) K=K (.int k (k.wrap (a*b))):=by simp [As,Bin,GD]
@[go_sem] theorem TZ:As P .eql t (.int k a) (.int k b) K=K (.bool (decide (a=b))):=by simp [As,Bin,GD]
@[go_sem] theorem Ta:As P .neq t (.int k a) (.int k b) K=K (.bool (!decide (a=b))):=by simp [As,Bin,GD]
@[go_sem] theorem Tb:As P .lss t (.int k a) (.int k b) K=K (.bool (decide (a<b))):=by simp [As,Bin,GD]
@[go_sem] theorem Tc:As P .leq t (.int k a) (.int k b) K=K (.bool (decide (a≤b))):=by simp [As,Bin,GD]
@[go_sem] theorem Td:As P .gtr t (.int k a) (.int k b) K=K (.bool (decide (b<a))):=by simp [As,Bin,GD]
@[go_sem] theorem Te:As P .geq t (.int k a) (.int k b) K=K (.bool (decide (b≤a))):=by simp [As,Bin,GD]
@[go_sem] theorem Tf {k'}:As P .shl t (.int k a) (.int k' b) K=AJ (0≤b) (K (.int k (k.wrap (a*2 ^ min b.toNat k.bits)))):=by
 simp only [As,Bin,AJ]
 exact propext ⟨fun ⟨v,⟨h1,h2⟩,h3⟩=>⟨h1,h2 ▸ h3⟩,fun ⟨h1,h2⟩=>⟨_,⟨h1,rfl⟩,h2⟩⟩
@[go_sem] theorem Tg {k'}:As P .shr t (.int k a) (.int k' b) K=AJ (0≤b) (K (.int k (a / 2 ^ min b.toNat k.bits))):=by
 simp only [As,Bin,AJ]
 exact propext ⟨fun ⟨v,⟨h1,h2⟩,h3⟩=>⟨h1,h2 ▸ h3⟩,fun ⟨h1,h2⟩=>⟨_,⟨h1,rfl⟩,h2⟩⟩
@[go_sem] theorem Th:As P .and t (.int k a) (.int k b) K=K (.int k (bits .and k a b)):=by simp [As,Bin]
@[go_sem] theorem Vj:As P .or t (.int k a) (.int k b) K=K (.int k (bits .or k a b)):=by simp [As,Bin]
@[go_sem] theorem Ti:As P .xor t (.int k a) (.int k b) K=K (.int k (bits .xor k a b)):=by simp [As,Bin]
@[go_sem] theorem PE:As P .andNot t (.int k a) (.int k b) K=K (.int k (bits .andNot k a b)):=by simp [As,Bin]
@[go_sem] theorem Tj:As P .quo t (.int k a) (.int k b) K=AJ (b≠0) (K (.int k (k.wrap (a.tdiv b)))):=by
 simp only [As,Bin,AJ,true_and]
 exact propext ⟨fun ⟨v,⟨h1,h2⟩,h3⟩=>⟨h1,h2 ▸ h3⟩,fun ⟨h1,h2⟩=>⟨_,⟨h1,rfl⟩,h2⟩⟩
@[go_sem] theorem Tk:As P .rem t (.int k a) (.int k b) K=AJ (b≠0) (K (.int k (a.tmod b))):=by
 simp only [As,Bin,AJ,true_and]
 exact propext ⟨fun ⟨v,⟨h1,h2⟩,h3⟩=>⟨h1,h2 ▸ h3⟩,fun ⟨h1,h2⟩=>⟨_,⟨h1,rfl⟩,h2⟩⟩
end
section
variable {t:TypeId} {a b:ByteArray} {c d:Bool} {K:AV→Prop}
def ET (a b:ByteArray):Bool:=a.toList == b.toList
@[go_sem] theorem SE:As P .eql t (.str a) (.str b) K=K (.bool (ET a b)):=by simp [As,Bin,ET]
@[go_sem] theorem SF:As P .neq t (.str a) (.str b) K=K (.bool (!ET a b)):=by simp [As,Bin,ET]
@[go_sem] theorem SG:As P .add t (.str a) (.str b) K=AJ (a.size+b.size≤maxLen) (K (.str (a++b))):=by
 simp only [As,Bin,AJ]
 exact propext ⟨fun ⟨v,⟨h1,h2⟩,h3⟩=>⟨h1,h2 ▸ h3⟩,fun ⟨h1,h2⟩=>⟨_,⟨h1,rfl⟩,h2⟩⟩
def Q4 (o:Option (List KK)) (xs ys:List AV) (K:Bool→Prop):Prop:=∃ks b,o=some ks∧Ax ks xs ys=some b∧K b
def Tl (o:Option Bool) (K:Bool→Prop):Prop:=∃b,o=some b∧K b
@[go_sem] theorem Wj {ks} {xs ys} {K}:Q4 (some ks) xs ys K=Tl (Ax ks xs ys) K:=by
 simp [Q4,Tl]
@[go_sem] theorem Wl {b} {K}:Tl (some b) K=K b:=by simp [Tl]
@[go_sem] theorem Wm {k} {ks} {a b} {xs ys}:Ax (.int k::ks) (.int k a::xs) (.int k b::ys)=(Ax ks xs ys).map (decide (a=b)&& ·):=by
 rw [Ax]; simp
@[go_sem] theorem Wn {ks} {a b} {xs ys}:Ax (.bool ::ks) (.bool a::xs) (.bool b::ys)=(Ax ks xs ys).map (a == b&& ·):=by
 rw [Ax]
@[go_sem] theorem Xn {ks} {a b} {xs ys}:Ax (.str ::ks) (.str a::xs) (.str b::ys)=(Ax ks xs ys).map (ET a b&& ·):=by
 rw [Ax]; rfl
@[go_sem] theorem Xo:Ax [] [] [] =some true:=by
 rw [Ax]
@[go_sem] theorem Wo {α β:Type} {f:α→β} {a:α}:Option.map f (some a)=some (f a):=rfl
@[go_sem] theorem SH {xs ys}:As P .eql t (.agg xs) (.agg ys) K=Q4 (GN P t) xs ys fun b=>K (.bool b):=by
 unfold As Bin Q4
 exact propext ⟨fun ⟨v,⟨ks,b,h1,h2,h3⟩,h⟩=>⟨ks,b,h1,h2,by simp only at h3; subst h3; exact h⟩,fun ⟨ks,b,h1,h2,h⟩=>⟨_,⟨ks,b,h1,h2,rfl⟩,h⟩⟩
@[go_sem] theorem SI {xs ys}:As P .neq t (.agg xs) (.agg ys) K=Q4 (GN P t) xs ys fun b=>K (.bool !b):=by
 unfold As Bin Q4
 exact propext ⟨fun ⟨v,⟨ks,b,h1,h2,h3⟩,h⟩=>⟨ks,b,h1,h2,by simp only at h3; subst h3; exact h⟩,fun ⟨ks,b,h1,h2,h⟩=>⟨_,⟨ks,b,h1,h2,rfl⟩,h⟩⟩
def Nr (P:Program) (t:TypeId):Prop:=match ti P t with| .bool =>True|_=>False
@[go_sem] theorem SJ:As P .eql t (.bool c) (.bool d) K=AJ (Nr P t) (K (.bool (c == d))):=by
 simp only [As,Bin,AJ,Nr]
 split <;> simp_all
@[go_sem] theorem SK:As P .neq t (.bool c) (.bool d) K=AJ (Nr P t) (K (.bool (!(c == d)))):=by
 simp only [As,Bin,AJ,Nr]
 split <;> simp_all
def Iw (P:Program) (t:TypeId):Prop:=match ti P t with| .ptr _=>True|_=>False
@[go_sem] theorem Vk:As P .eql t .nilp .nilp K=AJ (Iw P t) (K (.bool true)):=by
 simp only [As,Bin,AJ,Iw]
 split <;> simp_all
@[go_sem] theorem Tm:As P .neq t .nilp .nilp K=AJ (Iw P t) (K (.bool false)):=by
 simp only [As,Bin,AJ,Iw]
 split <;> simp_all
@[go_sem] theorem Vl {x off}:As P .eql t (.box x off) .nilp K=AJ (Iw P t) (K (.bool false)):=by
 simp only [As,Bin,AJ,Iw]
 split <;> simp_all
@[go_sem] theorem Tn {x off}:As P .neq t (.box x off) .nilp K=AJ (Iw P t) (K (.bool true)):=by
 simp only [As,Bin,AJ,Iw]
 split <;> simp_all
@[go_sem] theorem Vm {ds} {off}:As P .eql t (.rop ds off) .nilp K=AJ (Iw P t) (K (.bool false)):=by
 simp only [As,Bin,AJ,Iw]
 split <;> simp_all
@[go_sem] theorem To {ds} {off}:As P .neq t (.rop ds off) .nilp K=AJ (Iw P t) (K (.bool true)):=by
 simp only [As,Bin,AJ,Iw]
 split <;> simp_all
attribute [go_sem] Nr Iw
end
def Ns (op:UnOp) (x:AV) (K:AV→Prop):Prop:=∃v,Uno op x v∧K v
theorem Vn {pos} {dst} {op} {t} {x}:opX P pos dst (.unOp op t x) σ K=Ns op (σ.e x) fun v=>K (σ.put dst v):=
 DU (p:=fun v=>Uno op (σ.e x) v) (fun _=>by simp only [aop]) (fun r=>by simp only [Ev])
@[go_sem] theorem Tp {b} {K}:Ns .not (.bool b) K=K (.bool (!b)):=by simp [Ns,Uno]
@[go_sem] theorem Tq {k} {n} {K}:Ns .xor (.int k n) K=K (.int k (bits .xor k (if k.signed then -1 else k.max) n)):=by simp [Ns,Uno]
@[go_sem] theorem Ts {k} {n} {K}:Ns .neg (.int k n) K=K (.int k (k.wrap (0 - n))):=by simp [Ns,Uno]
def Gm (P:Program) (s d:TypeId) (x:AV) (σ:St) (K:AV→Prop):Prop:=match ti P d,x with
 | .int k,.int _ n=>(ti P s).sc =true∧K (.int k (k.wrap n))
 | .str,y=>∃el ns,ti P s= .sl el∧ti P el= .int .u8 ∧ns.length≤maxLen∧cl σ.T σ.B y=some (.ro (Dd ns))∧K (.str (strOfNums ns))
 |_,_=>False
def SL (P:Program) (s d:TypeId) (x:AV) (σ:St) (v:AV):Prop:=match ti P d,x with
 | .int k,.int _ n=>(ti P s).sc =true∧v= .int k (k.wrap n)
 | .str,y=>∃el ns,ti P s= .sl el∧ti P el= .int .u8 ∧ns.length≤maxLen∧cl σ.T σ.B y=some (.ro (Dd ns))∧v= .str (strOfNums ns)
 |_,_=>False
theorem Q5 {pos} {dst} {s d} {x}:opX P pos dst (.convert s d x) σ K=Gm P s d (σ.e x) σ fun v=>K (σ.put dst v):=by
 rw [DU (p:=fun v=>SL P s d (σ.e x) σ v) (fun _=>by simp only [aop]) (fun r=>by
  simp only [Ev,SL]
  generalize σ.e x=v
  generalize ti P d=q
  cases q <;> cases v <;> first
   |(
    refine propext ⟨?_,?_⟩
    ·intro h; obtain⟨el,ns,h1,h2,h3,h4,rfl⟩:=h; exact⟨_,⟨el,ns,h1,h2,h3,h4,rfl⟩,rfl⟩
    ·intro h; obtain⟨_,⟨el,ns,h1,h2,h3,h4,rfl⟩,rfl⟩:=h; exact⟨el,ns,h1,h2,h3,h4,rfl⟩)
   |simp [and_assoc])]
 unfold Gm SL
 generalize σ.e x=v
 generalize ti P d=q
 have key:∀y:AV,(∃v,(∃el ns,ti P s= .sl el∧ti P el= .int .u8 ∧ns.length≤maxLen∧cl σ.T σ.B y=some (.ro (Dd ns))∧v= .str (strOfNums ns))∧K (σ.put dst v))=∃el ns,ti P s= .sl el∧ti P el= .int .u8 ∧ns.length≤maxLen∧cl σ.T σ.B y=some (.ro (Dd ns))∧K (σ.put dst (.str (strOfNums ns))):=fun y=>by
  refine propext ⟨?_,?_⟩
  ·rintro ⟨v,⟨el,ns,h1,h2,h3,h4,rfl⟩,h5⟩; exact⟨el,ns,h1,h2,h3,h4,h5⟩
  ·rintro ⟨el,ns,h1,h2,h3,h4,h5⟩; exact⟨_,⟨el,ns,h1,h2,h3,h4,rfl⟩,h5⟩
 cases q <;> cases v <;> first|exact key _|simp [and_assoc]
def Nt (t:TI) (K:IntKind→Prop):Prop:=match t with| .int k=>K k|_=>False
@[go_sem] theorem Q6 {k} {K}:Nt (.int k) K=K k:=rfl
@[go_sem] theorem Q7 {s d} {k'} {n} {K}:Gm P s d (.int k' n) σ K=Nt (ti P d) fun k=>AJ ((ti P s).sc =true) (K (.int k (k.wrap n))):=by
 unfold Gm Nt AJ
 generalize ti P d=q
 cases q <;> simp [cl,Dd]
def SM (P:Program) (q:TI):Prop:=∃el,q= .sl el∧ti P el= .int .u8
def Tt (q:TI):Prop:=q= .int .u8
@[go_sem] theorem Xp:Tt (.int .u8)=True:=by simp [Tt]
@[go_sem] theorem ZD {el}:SM P (.sl el)=Tt (ti P el):=by simp [SM,Tt]
def Nu (P:Program) (q qs:TI) (o:Option AV) (K:AV→Prop):Prop:=q= .str ∧SM P qs∧∃ns,ns.length≤maxLen∧o=some (.ro (Dd ns))∧K (.str (strOfNums ns))
def Vo (o:Option AV) (K:AV→Prop) (_:Wrap K):Prop:=∃ns,ns.length≤maxLen∧o=some (.ro (Dd ns))∧K (.str (strOfNums ns))
@[go_sem] theorem Xq {qs} {o} {K}:Nu P .str qs o K=AJ (SM P qs) (Vo o K ⟨⟩):=by simp [Nu,AJ,Vo]
theorem IM {s d} {x} {K} (hx:∀k n,x≠ .int k n):Gm P s d x σ K=AS (cl σ.T σ.B x) fun o=>Nu P (ti P d) (ti P s) o K:=by
 unfold Gm Nu AS SM
 generalize ti P d=q
 cases q
 case str=>
  refine propext ⟨fun h=>?_,fun h=>?_⟩
  ·cases x <;> (obtain⟨el,ns,h1,h2,h3,h4,h5⟩:=h; exact⟨rfl,⟨el,h1,h2⟩,ns,h3,h4,h5⟩)
  ·cases x <;> (obtain⟨-,⟨el,h1,h2⟩,ns,h3,h4,h5⟩:=h; exact⟨el,ns,h1,h2,h3,h4,h5⟩)
 case int k=>cases x <;> first|exact absurd rfl (hx _ _)|simp
 all_goals simp
@[go_sem] theorem Wp {s d} {t} {K}:Gm P s d (.own t) σ K=AS (cl σ.T σ.B (.own t)) fun o=>Nu P (ti P d) (ti P s) o K:=IM (by simp)
@[go_sem] theorem Xr {s d} {r} {K}:Gm P s d (.ro r) σ K=AS (cl σ.T σ.B (.ro r)) fun o=>Nu P (ti P d) (ti P s) o K:=IM (by simp)
@[go_sem] theorem Wq {s d} {b n z} {K}:Gm P s d (.bsl b n z) σ K=AS (cl σ.T σ.B (.bsl b n z)) fun o=>Nu P (ti P d) (ti P s) o K:=IM (by simp)
@[go_sem] theorem Vp {s d} {K}:Gm P s d .nils σ K=AS (cl σ.T σ.B .nils) fun o=>Nu P (ti P d) (ti P s) o K:=IM (by simp)
theorem Xs {ns} {K} {w} (hl:ns.length≤maxLen) (hk:K (.str (strOfNums ns))):Vo (some (.ro (List.map (fun n=>[D.int .u8 n]) ns))) K w:=⟨ns,hl,rfl,hk⟩
def faX (P:Program) (s:TypeId) (v:AV) (f:Nat) (K:AV→Prop):Prop:=match v with
 | .box b off=>∃q,fOff P s f=some q∧0<tsz P q.2 ∧K (.box b (off+q.1))
 | .rop ds off=>∃q,fOff P s f=some q∧0<tsz P q.2 ∧K (.rop ds (off+q.1))
 | .elt t sz i off=>∃q,fOff P s f=some q∧0<tsz P q.2 ∧K (.elt t sz i (off+q.1))
 | .els t g p sz i off=>∃q,fOff P s f=some q∧0<tsz P q.2 ∧K (.els t g p sz i (off+q.1))
 |_=>False
theorem Nv {pos} {dst} {s} {x} {f}:opX P pos dst (.fieldAddr s x f) σ K=faX P s (σ.e x) f fun v=>K (σ.put dst v):=by
 rw [DU (p:=fun v=>faX P s (σ.e x) f fun u=>v=u) (fun _=>by simp only [aop]) (fun r=>by
  simp only [Ev,faX]
  generalize σ.e x=v
  split
  ·exact propext ⟨fun ⟨q,h1,h2,h3⟩=>⟨_,⟨q,h1,h2,rfl⟩,h3⟩,fun ⟨v,⟨q,h1,h2,h4⟩,h3⟩=>⟨q,h1,h2,h4 ▸ h3⟩⟩
  ·exact propext ⟨fun ⟨q,h1,h2,h3⟩=>⟨_,⟨q,h1,h2,rfl⟩,h3⟩,fun ⟨v,⟨q,h1,h2,h4⟩,h3⟩=>⟨q,h1,h2,h4 ▸ h3⟩⟩
  ·exact propext ⟨fun ⟨q,h1,h2,h3⟩=>⟨_,⟨q,h1,h2,rfl⟩,h3⟩,fun ⟨v,⟨q,h1,h2,h4⟩,h3⟩=>⟨q,h1,h2,h4 ▸ h3⟩⟩
  ·exact propext ⟨fun ⟨q,h1,h2,h3⟩=>⟨_,⟨q,h1,h2,rfl⟩,h3⟩,fun ⟨v,⟨q,h1,h2,h4⟩,h3⟩=>⟨q,h1,h2,h4 ▸ h3⟩⟩
  ·simp)]
 unfold faX
 split
 ·exact propext ⟨fun ⟨v,⟨q,h1,h2,h4⟩,h3⟩=>⟨q,h1,h2,h4 ▸ h3⟩,fun ⟨q,h1,h2,h3⟩=>⟨_,⟨q,h1,h2,rfl⟩,h3⟩⟩
 ·exact propext ⟨fun ⟨v,⟨q,h1,h2,h4⟩,h3⟩=>⟨q,h1,h2,h4 ▸ h3⟩,fun ⟨q,h1,h2,h3⟩=>⟨_,⟨q,h1,h2,rfl⟩,h3⟩⟩
 ·exact propext ⟨fun ⟨v,⟨q,h1,h2,h4⟩,h3⟩=>⟨q,h1,h2,h4 ▸ h3⟩,fun ⟨q,h1,h2,h3⟩=>⟨_,⟨q,h1,h2,rfl⟩,h3⟩⟩
 ·exact propext ⟨fun ⟨v,⟨q,h1,h2,h4⟩,h3⟩=>⟨q,h1,h2,h4 ▸ h3⟩,fun ⟨q,h1,h2,h3⟩=>⟨_,⟨q,h1,h2,rfl⟩,h3⟩⟩
 ·simp
@[go_sem] theorem Tu {s} {b off f} {K}:faX P s (.box b off) f K=optX (fOff P s f) fun q=>AJ (0<tsz P q.2) (AS (off+q.1) fun o=>K (.box b o)):=rfl
@[go_sem] theorem Tv {s} {ds} {off f} {K}:faX P s (.rop ds off) f K=optX (fOff P s f) fun q=>AJ (0<tsz P q.2) (AS (off+q.1) fun o=>K (.rop ds o)):=rfl
@[go_sem] theorem Tw {s} {t g} {p} {sz i off f} {K}:faX P s (.els t g p sz i off) f K=optX (fOff P s f) fun q=>AJ (0<tsz P q.2) (AS (off+q.1) fun o=>K (.els t g p sz i o)):=rfl
@[go_sem] theorem Tx {s} {t sz i off f} {K}:faX P s (.elt t sz i off) f K=optX (fOff P s f) fun q=>AJ (0<tsz P q.2) (AS (off+q.1) fun o=>K (.elt t sz i o)):=rfl
def fdX (P:Program) (s:TypeId) (v:AV) (f:Nat) (K:AV→Prop):Prop:=match v with
 | .agg vs=>optX (fOff P s f) fun q=>Gj (ti P q.2).isAgg (AJ (q.1 +tsz P q.2 ≤vs.length) (AS (.agg (Cl vs q.1 (tsz P q.2))) K)) (AJ ((ti P q.2).sc =true) (optX vs[q.1]? K))
 |_=>False
@[go_sem] theorem Ty {s} {vs} {f} {K}:fdX P s (.agg vs) f K=optX (fOff P s f) fun q=>Gj (ti P q.2).isAgg (AJ (q.1 +tsz P q.2 ≤vs.length) (AS (.agg (Cl vs q.1 (tsz P q.2))) K)) (AJ ((ti P q.2).sc =true) (optX vs[q.1]? K)):=rfl
theorem Tz {pos} {dst} {s} {x} {f}:opX P pos dst (.field s x f) σ K=fdX P s (σ.e x) f fun v=>K (σ.put dst v):=by
 rw [DU (p:=fun v=>fdX P s (σ.e x) f fun u=>v=u) (fun _=>by simp only [aop]) (fun r=>by
  simp only [Ev,fdX]
  generalize σ.e x=v
  split
  ·rename_i vs
   simp only [optX,Gj,AJ,AS]
   refine propext ⟨?_,?_⟩
   ·rintro ⟨q,h1,h2⟩
    split at h2
    ·rename_i hi; exact⟨_,⟨q,h1,.inl ⟨hi,h2.1,rfl⟩⟩,h2.2⟩
    ·rename_i hi; obtain⟨h3,v,h4,h5⟩:=h2; exact⟨v,⟨q,h1,.inr ⟨by simpa using hi,h3,v,h4,rfl⟩⟩,h5⟩
   ·rintro ⟨v,⟨q,h1,(⟨hi,h2,rfl⟩|⟨hi,h3,u,h4,rfl⟩)⟩,h5⟩
    ·exact⟨q,h1,by rw [if_pos hi]; exact⟨h2,h5⟩⟩
    ·exact⟨q,h1,by rw [if_neg (by simp [hi])]; exact⟨h3,v,h4,h5⟩⟩
  ·simp)]
 unfold fdX
 split
 ·simp only [optX,Gj,AJ,AS]
  refine propext ⟨?_,?_⟩
  ·rintro ⟨v,⟨q,h1,(⟨hi,h2,rfl⟩|⟨hi,h3,u,h4,rfl⟩)⟩,h5⟩
   ·exact⟨q,h1,.inl ⟨hi,h2,h5⟩⟩
   ·exact⟨q,h1,.inr ⟨hi,h3,v,h4,h5⟩⟩
  ·rintro ⟨q,h1,(⟨hi,h2,h5⟩|⟨hi,h3,u,h4,h5⟩)⟩
   ·exact⟨_,⟨q,h1,.inl ⟨hi,h2,rfl⟩⟩,h5⟩
   ·exact⟨u,⟨q,h1,.inr ⟨hi,h3,u,h4,rfl⟩⟩,h5⟩
 ·simp
attribute [go_sem] fOff
def Nw (rows:List (List D)) (n:Int) (sz:Nat) (K:List D→Prop):Prop:=∃row,Pd rows n sz row∧K row
def iaX (P:Program) (t:TypeId) (x i:AV) (σ:St) (K:AV→Prop):Prop:=∃v,Jp P σ.T t x i v∧K v
def slX (t:TI) (K:TypeId→Prop):Prop:=match t with| .sl e=>K e|_=>False
@[go_sem] theorem Vq {e} {K}:slX (.sl e) K=K e:=rfl
def elX (P:Program) (t:TypeId) (x i:AV) (K:AV→Prop):Prop:=∃v,Jq P t x i v∧K v
def arX (t:TI) (K:Nat→TypeId→Prop):Prop:=match t with| .arr n e=>K n e|_=>False
@[go_sem ↓] theorem ZE {n} {e} {K}:arX (.arr n e) K=K n e:=rfl
def inX (t:TI) (K:IntKind→Prop):Prop:=match t with| .int k=>K k|_=>False
@[go_sem ↓] theorem ZF {k} {K}:inX (.int k) K=K k:=rfl
@[go_sem] theorem Wr {k}:HQ k [] =some [] :=rfl
@[go_sem] theorem Vr {k} {n} {vs}:HQ k (.int k n::vs)=(HQ k vs).map (n:: ·):=by rw [HQ,if_pos rfl]
theorem T0 {pos} {dst} {t} {x i}:opX P pos dst (.index t x i) σ K=elX P t (σ.e x) (σ.e i) fun v=>K (σ.put dst v):=
 DU (p:=fun v=>Jq P t (σ.e x) (σ.e i) v) (fun _=>by simp only [aop]) (fun r=>by simp only [Ev])
@[go_sem ↓] theorem ZG {t} {vs} {k} {n} {K}:elX P t (.agg vs) (.int k n) K=arX (ti P t) fun l e=>inX (ti P e) fun kd=>AJ (tsz P e=1) (optX (HQ kd vs) fun ns=>AJ (l=ns.length) (optX (atI ns n) fun m=>K (.int kd m))):=by
 simp only [elX,Jq,arX,inX,AJ,optX]
 generalize ti P t=q
 cases q with
 |arr l e=>
  simp only
  generalize ti P e=q
  cases q with
  |int kd=>exact propext ⟨fun ⟨v,⟨h1,ns,h2,h3,m,h4,h5⟩,h⟩=>⟨h1,ns,h2,h3,m,h4,h5 ▸ h⟩,fun ⟨h1,ns,h2,h3,m,h4,h⟩=>⟨_,⟨h1,ns,h2,h3,m,h4,rfl⟩,h⟩⟩
  |_=>simp
 |_=>simp
@[go_sem ↓] theorem ZH {t} {s} {k} {n} {K}:elX P t (.str s) (.int k n) K=AJ (ti P t= .str) (optX (atB s n) fun m=>K (.int .u8 m)):=by
 simp only [elX,Jq,AJ,optX]
 exact propext ⟨fun ⟨v,⟨h1,m,h2,h3⟩,h⟩=>⟨h1,m,h2,h3 ▸ h⟩,fun ⟨h1,m,h2,h⟩=>⟨_,⟨h1,m,h2,rfl⟩,h⟩⟩
def Q8 (P:Program) (T:Nat→Option Tok) (t:TypeId) (x:AV) (l h:Option AV) (K:AV→Prop):Prop:=∃v,(Hf P t x l h v∨K4 P T t x l h v)∧K v
theorem T1 {pos} {dst} {t} {x} {l h}:opX P pos dst (.slice t x l h none) σ K=Q8 P σ.T t (σ.e x) (l.map σ.e) (h.map σ.e) fun v=>K (σ.put dst v):=
 DU (p:=fun v=>Hf P t (σ.e x) (l.map σ.e) (h.map σ.e) v∨K4 P σ.T t (σ.e x) (l.map σ.e) (h.map σ.e) v) (fun _=>by simp only [aop]) (fun r=>by simp only [Ev])
@[go_sem ↓] theorem ZI {t} {rows} {l h} {T} {K}:Q8 P T t (.ro rows) l h K=slX (ti P t) fun el=>AJ (0<tsz P el) (AJ (∀row ∈ rows,row.length=tsz P el) (optX (bndI l 0) fun i=>optX (bndI h rows.length) fun j=>optX (OX rows i j) fun r=>K (.ro r))):=by
 simp only [Q8,Hf,K4,or_false,slX,AJ,optX]
 generalize ti P t=q
 cases q with
 |sl el=>exact propext ⟨fun ⟨v,⟨el',h0,⟨h1,h2⟩,i,h3,j,h4,r,h5,h6⟩,h7⟩=>by cases h0; exact⟨h1,h2,i,h3,j,h4,r,h5,h6 ▸ h7⟩,fun ⟨h1,h2,i,h3,j,h4,r,h5,h7⟩=>⟨_,⟨_,rfl,⟨h1,h2⟩,i,h3,j,h4,r,h5,rfl⟩,h7⟩⟩
 |_=>simp
@[go_sem ↓] theorem Xt {t} {s} {l h} {T} {K}:Q8 P T t (.str s) l h K=AJ (ti P t= .str) (optX (bndI l 0) fun i=>optX (bndI h s.size) fun j=>optX (U9 s i j) fun r=>K (.str r)):=by
 simp only [Q8,Hf,K4,or_false,AJ,optX]
 exact propext ⟨fun ⟨v,⟨h0,i,h3,j,h4,r,h5,h6⟩,h7⟩=>⟨h0,i,h3,j,h4,r,h5,h6 ▸ h7⟩,fun ⟨h0,i,h3,j,h4,r,h5,h7⟩=>⟨_,⟨h0,i,h3,j,h4,r,h5,rfl⟩,h7⟩⟩
@[go_sem] theorem Xu {d}:bndI none d=some d:=rfl
@[go_sem] theorem Xv {k} {n d}:bndI (some (.int k n)) d=some n:=rfl
theorem Nx {pos} {dst} {t} {x i}:opX P pos dst (.indexAddr t x i) σ K=iaX P t (σ.e x) (σ.e i) σ fun v=>K (σ.put dst v):=
 DU (p:=fun v=>Jp P σ.T t (σ.e x) (σ.e i) v) (fun _=>by simp only [aop]) (fun r=>by simp only [Ev])
@[go_sem] theorem Vs {t} {rows} {k} {n} {K}:iaX P t (.ro rows) (.int k n) σ K=slX (ti P t) fun e=>AJ (0<tsz P e) (Nw rows n (tsz P e) fun row=>K (.rop (row.map ofD) 0)):=by
 simp only [iaX,Jp,slX,AJ,Nw]
 generalize ti P t=q
 cases q with
 |sl e=>exact propext ⟨fun ⟨v,⟨h1,row,h2,h3⟩,h4⟩=>⟨h1,row,h2,h3 ▸ h4⟩,fun ⟨h1,row,h2,h3⟩=>⟨_,⟨h1,row,h2,rfl⟩,h3⟩⟩
 |_=>simp
@[go_sem] theorem T2 {t} {t'} {k} {n} {K}:iaX P t (.own t') (.int k n) σ K=slX (ti P t) fun e=>AJ (0<tsz P e) (optX (σ.T t') fun tk=>Nw tk.rows n (tsz P e) fun _=>K (.elt t' (tsz P e) n.toNat 0)):=by
 simp only [iaX,Jp,slX,AJ,Nw,optX]
 generalize ti P t=q
 cases q with
 |sl e=>exact propext ⟨fun ⟨v,⟨h1,tk,row,h0,h2,h3⟩,h4⟩=>⟨h1,tk,h0,row,h2,h3 ▸ h4⟩,fun ⟨h1,tk,h0,row,h2,h3⟩=>⟨_,⟨h1,tk,row,h0,h2,rfl⟩,h3⟩⟩
 |_=>simp
@[go_sem] theorem T3 {t} {t' g} {p} {k} {n} {K}:iaX P t (.sub t' g p) (.int k n) σ K=slX (ti P t) fun e=>AJ (0<tsz P e) (optX (subR σ.T t' g p) fun rows=>Nw rows n (tsz P e) fun _=>K (.els t' g p (tsz P e) n.toNat 0)):=by
 simp only [iaX,Jp,slX,AJ,Nw,optX]
 generalize ti P t=q
 cases q with
 |sl e=>exact propext ⟨fun ⟨v,⟨h1,tk,row,h0,h2,h3⟩,h4⟩=>⟨h1,tk,h0,row,h2,h3 ▸ h4⟩,fun ⟨h1,tk,h0,row,h2,h3⟩=>⟨_,⟨h1,tk,row,h0,h2,rfl⟩,h3⟩⟩
 |_=>simp
def Q9 (v:AV) (i:Nat) (K:AV→Prop):Prop:=match v with| .tup vs=>optX vs[i]? K|_=>False
@[go_sem] theorem SN {vs} {i} {K}:Q9 (.tup vs) i K=optX vs[i]? K:=rfl
theorem RA {pos} {dst} {x} {i}:opX P pos dst (.extract x i) σ K=Q9 (σ.e x) i fun v=>K (σ.put dst v):=by
 rw [DU (p:=fun v=>Q9 (σ.e x) i fun u=>v=u) (fun _=>by simp only [aop]) (fun r=>by
  simp only [Ev,Q9]
  generalize σ.e x=v
  cases v <;> simp [optX])]
 unfold Q9
 generalize σ.e x=v
 cases v <;> simp [optX]
def evs (σ:St):List Operand→List AV
 | [] =>[]
 |x::xs=>σ.e x::evs σ xs
theorem MX {xs}:evs σ xs=xs.map σ.e:=by induction xs with|nil=>rfl|cons x xs ih=>simp [evs,ih]
attribute [go_sem] evs
@[go_sem ↓] theorem Vt {pos} {dst} {f} {caps}:opX P pos dst (.makeFunc (.func f) (List.toArray []) caps.toArray) σ K=AS (.fn f (evs σ caps)) fun v=>K (σ.put dst v):=by
 rw [DU (p:=fun v=>v= .fn f (evs σ caps)) (fun _=>by simp only [aop]) (fun r=>by simp [Ev,MX])]
 simp [AS]
def HK (P:Program) (t:TypeId) (x:AV) (σ:St) (K:AV→Prop):Prop:=∃v,He P σ.T σ.B t x v∧K v
theorem Xw {pos} {dst} {x} {t}:opX P pos dst (.call ⟨.builtin .len,List.toArray [x],List.toArray [t]⟩) σ K=HK P t (σ.e x) σ fun v=>K (σ.put dst v):=
 DU (p:=fun v=>He P σ.T σ.B t (σ.e x) v) (fun _=>by simp only [aop]) (fun r=>by simp only [Ev])
def JS (f:Int→Int→Int) (x y:AV) (K:AV→Prop):Prop:=match x,y with
 | .int k n,.int k' m=>k=k'∧K (.int k (f n m))
 |_,_=>False
@[go_sem] theorem SO {f} {k} {n m} {K}:JS f (.int k n) (.int k m) K=AS (f n m) fun r=>K (.int k r):=by simp [JS,AS]
theorem Xx {pos} {dst} {x y} {ts}:opX P pos dst (.call ⟨.builtin .max,List.toArray [x,y],ts⟩) σ K=JS (fun n m=>if n<m then m else n) (σ.e x) (σ.e y) fun v=>K (σ.put dst v):=by
 rw [DU (p:=fun v=>JS (fun n m=>if n<m then m else n) (σ.e x) (σ.e y) fun u=>v=u) (fun _=>by simp only [aop]) (fun r=>by
  simp only [Ev,JS]
  generalize σ.e x=u
  generalize σ.e y=v
  cases u <;> cases v <;> simp [and_assoc])]
 unfold JS
 generalize σ.e x=u
 generalize σ.e y=v
 cases u <;> cases v <;> simp [and_assoc]
theorem Xy {pos} {dst} {x y} {ts}:opX P pos dst (.call ⟨.builtin .min,List.toArray [x,y],ts⟩) σ K=JS (fun n m=>if m<n then m else n) (σ.e x) (σ.e y) fun v=>K (σ.put dst v):=by
 rw [DU (p:=fun v=>JS (fun n m=>if m<n then m else n) (σ.e x) (σ.e y) fun u=>v=u) (fun _=>by simp only [aop]) (fun r=>by
  simp only [Ev,JS]
  generalize σ.e x=u
  generalize σ.e y=v
  cases u <;> cases v <;> simp [and_assoc])]
 unfold JS
 generalize σ.e x=u
 generalize σ.e y=v
 cases u <;> cases v <;> simp [and_assoc]
end
attribute [go_sem ↓] R8 R9 SA SB L6 Nq TW TX TY TZ Ta Tb Tc Td Te Tf Tg Th Vj Ti PE Tj Tk SE SF SG SJ SK Vk Tm Vl Tn Vm To SH SI Tp Ts Tq Q6 Q7 Tu Tv Tx Tw Ty Vq Vs T2 T3 SN SO
end Go.Proofs.Ytgigfdghecdlgaa.Ab
