/-
  The abstract walk as rules, second part: the other operations.
-/
import Derived.Test.YtijdanbelnmmlaaAbT
namespace Go.Proofs.Ytijdanbelnmmlaa.Ab
set_option linter.unusedVariables false
open Go.RowKit
section
variable {P:Program} {σ:St} {K:St→Prop} {Q:AE→St→Prop}
theorem JN {pos} {dst} {op} (h:∀K',aop P pos ⟨dst,op,0, "",#[],none⟩ σ K'=∃r,Ev P pos ⟨dst,op,0, "",#[],none⟩ σ.e σ.T σ.B r∧B1 σ r.t∧Cv σ r.b∧K' (σ.add dst r)):
  opX P pos dst op σ K=∃r,Ev P pos ⟨dst,op,0, "",#[],none⟩ σ.e σ.T σ.B r∧B1 σ r.t∧Cv σ r.b∧K (σ.add dst r):=h K
def NA (v:AV) (K:AV→Prop):Prop:=match v with
 | .box b off=>K (.box b off)
 | .rop ds off=>K (.rop ds off)
 | .elt t sz i off=>K (.elt t sz i off)
 | .els t g p sz i off=>K (.els t g p sz i off)
 |_=>False
@[go_sem] theorem Sb {b off} {K}:NA (.box b off) K=K (.box b off):=rfl
@[go_sem] theorem Sc {ds} {off} {K}:NA (.rop ds off) K=K (.rop ds off):=rfl
@[go_sem] theorem Sd {t sz i off} {K}:NA (.elt t sz i off) K=K (.elt t sz i off):=rfl
@[go_sem] theorem Se {t g} {p} {sz i off} {K}:NA (.els t g p sz i off) K=K (.els t g p sz i off):=rfl
theorem Pe {pos} {dst} {x}:opX P pos dst (.nilCheck x) σ K=NA (σ.e x) fun v=>K (σ.put dst v):=by
 rw [D7 (p:=fun v=>NA (σ.e x) fun u=>v=u) (fun _=>by simp only [aop]) (fun r=>by
  simp only [Ev,NA]
  generalize σ.e x=v
  cases v <;> simp)]
 unfold NA
 generalize σ.e x=v
 cases v <;> simp
def A9 (P:Program) (op:BinOp) (t:TypeId) (x y:AV) (K:AV→Prop):Prop:=∃v,Bin P op t x y v∧K v
def Pf (op:BinOp) (y:Operand):Bool:=match op,y with
 | .eql,.const (.slice none 0 0)=>false
 | .neq,.const (.slice none 0 0)=>false
 |_,_=>true
theorem OS {pos} {dst} {op} {t t'} {x y} (hn:Pf op y=true):opX P pos dst (.binOp op t x y t') σ K=A9 P op t (σ.e x) (σ.e y) fun v=>K (σ.put dst v):=
 D7 (p:=fun v=>Bin P op t (σ.e x) (σ.e y) v) (fun _=>by
  unfold aop
  dsimp only
  split
  ·rename_i h; simp only [Op.binOp.injEq] at h; obtain⟨rfl,rfl,rfl,rfl,rfl⟩:=h; simp [Pf] at hn
  ·rename_i h; simp only [Op.binOp.injEq] at h; obtain⟨rfl,rfl,rfl,rfl,rfl⟩:=h; simp [Pf] at hn
  ·rename_i h; cases h
  ·rename_i h; cases h
  ·rename_i h; cases h
  ·rfl) (fun r=>by simp only [Ev])
section
variable {pos:Nat} {dst:Option Tmp} {op:BinOp} {t t':TypeId} {x:Operand}
theorem RP {y}:opX P pos dst (.binOp op t x (.tmp y) t') σ K=A9 P op t (σ.e x) (σ.g y) fun v=>K (σ.put dst v):=OS (by cases op <;> rfl)
theorem RQ {k} {n}:opX P pos dst (.binOp op t x (.const (.int k n)) t') σ K=A9 P op t (σ.e x) (.int k n) fun v=>K (σ.put dst v):=OS (by cases op <;> rfl)
theorem Pg {b}:opX P pos dst (.binOp op t x (.const (.bool b)) t') σ K=A9 P op t (σ.e x) (.bool b) fun v=>K (σ.put dst v):=OS (by cases op <;> rfl)
theorem RR {s}:opX P pos dst (.binOp op t x (.const (.string s)) t') σ K=A9 P op t (σ.e x) (.str s) fun v=>K (σ.put dst v):=OS (by cases op <;> rfl)
theorem Ph:opX P pos dst (.binOp op t x (.const (.pointer none)) t') σ K=A9 P op t (σ.e x) .nilp fun v=>K (σ.put dst v):=OS (by cases op <;> rfl)
def NB (P:Program) (t:TypeId) (v:AV) (σ:St) (K:Bool→Prop):Prop:=(∃e,ti P t= .sl e)∧GI v=true∧∀b,Qg σ.T v b→K b
def slP (t:TI):Prop:=∃e,t= .sl e
@[go_sem] theorem bV {e}:slP (.sl e)=True:=by simp [slP]
@[go_sem] theorem Mg {K}:NB P t .nils σ K=AJ (slP (ti P t)) (K true):=by simp [NB,GI,Qg,AJ,slP]
@[go_sem] theorem OT {b n sz} {K}:NB P t (.bsl b n sz) σ K=AJ (slP (ti P t)) (K false):=by simp [NB,GI,Qg,AJ,slP]
theorem Sf:opX P pos dst (.binOp .eql t x (.const (.slice none 0 0)) t') σ K=NB P t (σ.e x) σ fun b=>K (σ.put dst (.bool b)):=by
 unfold opX; simp only [aop,NB]
theorem Sg:opX P pos dst (.binOp .neq t x (.const (.slice none 0 0)) t') σ K=NB P t (σ.e x) σ fun b=>K (σ.put dst (.bool !b)):=by
 unfold opX; simp only [aop,NB]
end
section
variable {t:TypeId} {k:IntKind} {a b:Int} {K:AV→Prop}
@[go_sem] theorem T3:A9 P .add t (.int k a) (.int k b) K=K (.int k (k.wrap (a+b))):=by simp [A9,Bin,Gg]
@[go_sem] theorem T4:A9 P .sub t (.int k a) (.int k b) K=K (.int k (k.wrap (a - b))):=by simp [A9,Bin,Gg]
@[go_sem] theorem T5:A9 P .mul t (.int k a) (.int k b) K=K (.int k (k.wrap (a*b))):=by simp [A9,Bin,Gg]
@[go_sem] theorem T6:A9 P .eql t (.int k a) (.int k b) K=K (.bool (decide (a=b))):=by simp [A9,Bin,Gg]
@[go_sem] theorem T7:A9 P .neq t (.int k a) (.int k b) K=K (.bool (!decide (a=b))):=by simp [A9,Bin,Gg]
@[go_sem] theorem T8:A9 P .lss t (.int k a) (.int k b) K=K (.bool (decide (a<b))):=by simp [A9,Bin,Gg]
@[go_sem] theorem T9:A9 P .leq t (.int k a) (.int k b) K=K (.bool (decide (a≤b))):=by simp [A9,Bin,Gg]
@[go_sem] theorem UA:A9 P .gtr t (.int k a) (.int k b) K=K (.bool (decide (b<a))):=by simp [A9,Bin,Gg]
@[go_sem] theorem UB:A9 P .geq t (.int k a) (.int k b) K=K (.bool (decide (b≤a))):=by simp [A9,Bin,Gg]
@[go_sem] theorem UC {k'}:A9 P .shl t (.int k a) (.int k' b) K=AJ (0≤b) (K (.int k (k.wrap (a*2 ^ min b.toNat k.bits)))):=by
 simp only [A9,Bin,AJ]
 exact propext ⟨fun ⟨v,⟨h1,h2⟩,h3⟩=>⟨h1,h2 ▸ h3⟩,fun ⟨h1,h2⟩=>⟨_,⟨h1,rfl⟩,h2⟩⟩
@[go_sem] theorem UD {k'}:A9 P .shr t (.int k a) (.int k' b) K=AJ (0≤b) (K (.int k (a / 2 ^ min b.toNat k.bits))):=by
 simp only [A9,Bin,AJ]
 exact propext ⟨fun ⟨v,⟨h1,h2⟩,h3⟩=>⟨h1,h2 ▸ h3⟩,fun ⟨h1,h2⟩=>⟨_,⟨h1,rfl⟩,h2⟩⟩
@[go_sem] theorem UE:A9 P .and t (.int k a) (.int k b) K=K (.int k (bits .and k a b)):=by simp [A9,Bin]
@[go_sem] theorem WR:A9 P .or t (.int k a) (.int k b) K=K (.int k (bits .or k a b)):=by simp [A9,Bin]
@[go_sem] theorem UF:A9 P .xor t (.int k a) (.int k b) K=K (.int k (bits .xor k a b)):=by simp [A9,Bin]
@[go_sem] theorem Pi:A9 P .andNot t (.int k a) (.int k b) K=K (.int k (bits .andNot k a b)):=by simp [A9,Bin]
@[go_sem] theorem UG:A9 P .quo t (.int k a) (.int k b) K=AJ (b≠0) (K (.int k (k.wrap (a.tdiv b)))):=by
 simp only [A9,Bin,AJ,true_and]
 exact propext ⟨fun ⟨v,⟨h1,h2⟩,h3⟩=>⟨h1,h2 ▸ h3⟩,fun ⟨h1,h2⟩=>⟨_,⟨h1,rfl⟩,h2⟩⟩
@[go_sem] theorem UH:A9 P .rem t (.int k a) (.int k b) K=AJ (b≠0) (K (.int k (a.tmod b))):=by
 simp only [A9,Bin,AJ,true_and]
 exact propext ⟨fun ⟨v,⟨h1,h2⟩,h3⟩=>⟨h1,h2 ▸ h3⟩,fun ⟨h1,h2⟩=>⟨_,⟨h1,rfl⟩,h2⟩⟩
end
section
variable {t:TypeId} {a b:ByteArray} {c d:Bool} {K:AV→Prop}
def GW (a b:ByteArray):Bool:=a.toList == b.toList
@[go_sem] theorem Sh:A9 P .eql t (.str a) (.str b) K=K (.bool (GW a b)):=by simp [A9,Bin,GW]
@[go_sem] theorem Si:A9 P .neq t (.str a) (.str b) K=K (.bool (!GW a b)):=by simp [A9,Bin,GW]
@[go_sem] theorem Sj:A9 P .add t (.str a) (.str b) K=AJ (a.size+b.size≤maxLen) (K (.str (a++b))):=by
 simp only [A9,Bin,AJ]
 exact propext ⟨fun ⟨v,⟨h1,h2⟩,h3⟩=>⟨h1,h2 ▸ h3⟩,fun ⟨h1,h2⟩=>⟨_,⟨h1,rfl⟩,h2⟩⟩
def RS (o:Option (List KK)) (xs ys:List AV) (K:Bool→Prop):Prop:=∃ks b,o=some ks∧BH ks xs ys=some b∧K b
def UI (o:Option Bool) (K:Bool→Prop):Prop:=∃b,o=some b∧K b
@[go_sem] theorem XX {ks} {xs ys} {K}:RS (some ks) xs ys K=UI (BH ks xs ys) K:=by
 simp [RS,UI]
@[go_sem] theorem XY {b} {K}:UI (some b) K=K b:=by simp [UI]
@[go_sem] theorem XZ {k} {ks} {a b} {xs ys}:BH (.int k::ks) (.int k a::xs) (.int k b::ys)=(BH ks xs ys).map (decide (a=b)&& ·):=by
 rw [BH]; simp
@[go_sem] theorem Xa {ks} {a b} {xs ys}:BH (.bool ::ks) (.bool a::xs) (.bool b::ys)=(BH ks xs ys).map (a == b&& ·):=by
 rw [BH]
@[go_sem] theorem Ya {ks} {a b} {xs ys}:BH (.str ::ks) (.str a::xs) (.str b::ys)=(BH ks xs ys).map (GW a b&& ·):=by
 rw [BH]; rfl
@[go_sem] theorem Yb:BH [] [] [] =some true:=by
 rw [BH]
@[go_sem] theorem Xb {α β:Type} {f:α→β} {a:α}:Option.map f (some a)=some (f a):=rfl
@[go_sem] theorem Sk {xs ys}:A9 P .eql t (.agg xs) (.agg ys) K=RS (Gs P t) xs ys fun b=>K (.bool b):=by
 unfold A9 Bin RS
 exact propext ⟨fun ⟨v,⟨ks,b,h1,h2,h3⟩,h⟩=>⟨ks,b,h1,h2,by simp only at h3; subst h3; exact h⟩,fun ⟨ks,b,h1,h2,h⟩=>⟨_,⟨ks,b,h1,h2,rfl⟩,h⟩⟩
@[go_sem] theorem Sl {xs ys}:A9 P .neq t (.agg xs) (.agg ys) K=RS (Gs P t) xs ys fun b=>K (.bool !b):=by
 unfold A9 Bin RS
 exact propext ⟨fun ⟨v,⟨ks,b,h1,h2,h3⟩,h⟩=>⟨ks,b,h1,h2,by simp only at h3; subst h3; exact h⟩,fun ⟨ks,b,h1,h2,h⟩=>⟨_,⟨ks,b,h1,h2,rfl⟩,h⟩⟩
def OU (P:Program) (t:TypeId):Prop:=match ti P t with| .bool =>True|_=>False
@[go_sem] theorem Sm:A9 P .eql t (.bool c) (.bool d) K=AJ (OU P t) (K (.bool (c == d))):=by
 simp only [A9,Bin,AJ,OU]
 split <;> simp_all
@[go_sem] theorem Sn:A9 P .neq t (.bool c) (.bool d) K=AJ (OU P t) (K (.bool (!(c == d)))):=by
 simp only [A9,Bin,AJ,OU]
 split <;> simp_all
def JO (P:Program) (t:TypeId):Prop:=match ti P t with| .ptr _=>True|_=>False
@[go_sem] theorem WS:A9 P .eql t .nilp .nilp K=AJ (JO P t) (K (.bool true)):=by
 simp only [A9,Bin,AJ,JO]
 split <;> simp_all
@[go_sem] theorem UJ:A9 P .neq t .nilp .nilp K=AJ (JO P t) (K (.bool false)):=by
 simp only [A9,Bin,AJ,JO]
 split <;> simp_all
@[go_sem] theorem WT {x off}:A9 P .eql t (.box x off) .nilp K=AJ (JO P t) (K (.bool false)):=by
 simp only [A9,Bin,AJ,JO]
 split <;> simp_all
@[go_sem] theorem UK {x off}:A9 P .neq t (.box x off) .nilp K=AJ (JO P t) (K (.bool true)):=by
 simp only [A9,Bin,AJ,JO]
 split <;> simp_all
@[go_sem] theorem WU {ds} {off}:A9 P .eql t (.rop ds off) .nilp K=AJ (JO P t) (K (.bool false)):=by
 simp only [A9,Bin,AJ,JO]
 split <;> simp_all
@[go_sem] theorem UL {ds} {off}:A9 P .neq t (.rop ds off) .nilp K=AJ (JO P t) (K (.bool true)):=by
 simp only [A9,Bin,AJ,JO]
 split <;> simp_all
attribute [go_sem] OU JO
end
def OV (op:UnOp) (x:AV) (K:AV→Prop):Prop:=∃v,Uno op x v∧K v
theorem WV {pos} {dst} {op} {t} {x}:opX P pos dst (.unOp op t x) σ K=OV op (σ.e x) fun v=>K (σ.put dst v):=
 D7 (p:=fun v=>Uno op (σ.e x) v) (fun _=>by simp only [aop]) (fun r=>by simp only [Ev])
@[go_sem] theorem UM {b} {K}:OV .not (.bool b) K=K (.bool (!b)):=by simp [OV,Uno]
@[go_sem] theorem UN {k} {n} {K}:OV .xor (.int k n) K=K (.int k (bits .xor k (if k.signed then -1 else k.max) n)):=by simp [OV,Uno]
@[go_sem] theorem UO {k} {n} {K}:OV .neg (.int k n) K=K (.int k (k.wrap (0 - n))):=by simp [OV,Uno]
def HH (P:Program) (s d:TypeId) (x:AV) (σ:St) (K:AV→Prop):Prop:=match ti P d,x with
 | .int k,.int _ n=>(ti P s).sc =true∧K (.int k (k.wrap n))
 | .str,y=>∃el ns,ti P s= .sl el∧ti P el= .int .u8 ∧ns.length≤maxLen∧cl σ.T σ.B y=some (.ro (ED ns))∧K (.str (strOfNums ns))
 |_,_=>False
def So (P:Program) (s d:TypeId) (x:AV) (σ:St) (v:AV):Prop:=match ti P d,x with
 | .int k,.int _ n=>(ti P s).sc =true∧v= .int k (k.wrap n)
 | .str,y=>∃el ns,ti P s= .sl el∧ti P el= .int .u8 ∧ns.length≤maxLen∧cl σ.T σ.B y=some (.ro (ED ns))∧v= .str (strOfNums ns)
 |_,_=>False
theorem RT {pos} {dst} {s d} {x}:opX P pos dst (.convert s d x) σ K=HH P s d (σ.e x) σ fun v=>K (σ.put dst v):=by
 rw [D7 (p:=fun v=>So P s d (σ.e x) σ v) (fun _=>by simp only [aop]) (fun r=>by
  simp only [Ev,So]
  generalize σ.e x=v
  generalize ti P d=q
  cases q <;> cases v <;> first
   |(
    refine propext ⟨?_,?_⟩
    ·intro h; obtain⟨el,ns,h1,h2,h3,h4,rfl⟩:=h; exact⟨_,⟨el,ns,h1,h2,h3,h4,rfl⟩,rfl⟩
    ·intro h; obtain⟨_,⟨el,ns,h1,h2,h3,h4,rfl⟩,rfl⟩:=h; exact⟨el,ns,h1,h2,h3,h4,rfl⟩)
   |simp [and_assoc])]
 unfold HH So
 generalize σ.e x=v
 generalize ti P d=q
 have key:∀y:AV,(∃v,(∃el ns,ti P s= .sl el∧ti P el= .int .u8 ∧ns.length≤maxLen∧cl σ.T σ.B y=some (.ro (ED ns))∧v= .str (strOfNums ns))∧K (σ.put dst v))=∃el ns,ti P s= .sl el∧ti P el= .int .u8 ∧ns.length≤maxLen∧cl σ.T σ.B y=some (.ro (ED ns))∧K (σ.put dst (.str (strOfNums ns))):=fun y=>by
  refine propext ⟨?_,?_⟩
  ·rintro ⟨v,⟨el,ns,h1,h2,h3,h4,rfl⟩,h5⟩; exact⟨el,ns,h1,h2,h3,h4,h5⟩
  ·rintro ⟨el,ns,h1,h2,h3,h4,h5⟩; exact⟨_,⟨el,ns,h1,h2,h3,h4,rfl⟩,h5⟩
 cases q <;> cases v <;> first|exact key _|simp [and_assoc]
def OW (t:TI) (K:IntKind→Prop):Prop:=match t with| .int k=>K k|_=>False
@[go_sem] theorem RU {k} {K}:OW (.int k) K=K k:=rfl
@[go_sem] theorem RW {s d} {k'} {n} {K}:HH P s d (.int k' n) σ K=OW (ti P d) fun k=>AJ ((ti P s).sc =true) (K (.int k (k.wrap n))):=by
 unfold HH OW AJ
 generalize ti P d=q
 cases q <;> simp [cl,ED]
def Sp (P:Program) (q:TI):Prop:=∃el,q= .sl el∧ti P el= .int .u8
def UP (q:TI):Prop:=q= .int .u8
@[go_sem] theorem Yc:UP (.int .u8)=True:=by simp [UP]
@[go_sem] theorem Z4 {el}:Sp P (.sl el)=UP (ti P el):=by simp [Sp,UP]
def OX (P:Program) (q qs:TI) (o:Option AV) (K:AV→Prop):Prop:=q= .str ∧Sp P qs∧∃ns,ns.length≤maxLen∧o=some (.ro (ED ns))∧K (.str (strOfNums ns))
def Yd (o:Option AV) (K:AV→Prop) (_:Wrap K):Prop:=∃ns,ns.length≤maxLen∧o=some (.ro (ED ns))∧K (.str (strOfNums ns))
@[go_sem] theorem Ye {qs} {o} {K}:OX P .str qs o K=AJ (Sp P qs) (Yd o K ⟨⟩):=by simp [OX,AJ,Yd]
theorem Is {s d} {x} {K} (hx:∀k n,x≠ .int k n):HH P s d x σ K=AY (cl σ.T σ.B x) fun o=>OX P (ti P d) (ti P s) o K:=by
 unfold HH OX AY Sp
 generalize ti P d=q
 cases q
 case str=>
  refine propext ⟨fun h=>?_,fun h=>?_⟩
  ·cases x <;> (obtain⟨el,ns,h1,h2,h3,h4,h5⟩:=h; exact⟨rfl,⟨el,h1,h2⟩,ns,h3,h4,h5⟩)
  ·cases x <;> (obtain⟨-,⟨el,h1,h2⟩,ns,h3,h4,h5⟩:=h; exact⟨el,ns,h1,h2,h3,h4,h5⟩)
 case int k=>cases x <;> first|exact absurd rfl (hx _ _)|simp
 all_goals simp
@[go_sem] theorem Xc {s d} {t} {K}:HH P s d (.own t) σ K=AY (cl σ.T σ.B (.own t)) fun o=>OX P (ti P d) (ti P s) o K:=Is (by simp)
@[go_sem] theorem Yf {s d} {r} {K}:HH P s d (.ro r) σ K=AY (cl σ.T σ.B (.ro r)) fun o=>OX P (ti P d) (ti P s) o K:=Is (by simp)
@[go_sem] theorem Xd {s d} {b n z} {K}:HH P s d (.bsl b n z) σ K=AY (cl σ.T σ.B (.bsl b n z)) fun o=>OX P (ti P d) (ti P s) o K:=Is (by simp)
@[go_sem] theorem WW {s d} {K}:HH P s d .nils σ K=AY (cl σ.T σ.B .nils) fun o=>OX P (ti P d) (ti P s) o K:=Is (by simp)
def faX (P:Program) (s:TypeId) (v:AV) (f:Nat) (K:AV→Prop):Prop:=match v with
 | .box b off=>∃q,fOff P s f=some q∧0<tsz P q.2 ∧K (.box b (off+q.1))
 | .rop ds off=>∃q,fOff P s f=some q∧0<tsz P q.2 ∧K (.rop ds (off+q.1))
 | .elt t sz i off=>∃q,fOff P s f=some q∧0<tsz P q.2 ∧K (.elt t sz i (off+q.1))
 | .els t g p sz i off=>∃q,fOff P s f=some q∧0<tsz P q.2 ∧K (.els t g p sz i (off+q.1))
 |_=>False
theorem OY {pos} {dst} {s} {x} {f}:opX P pos dst (.fieldAddr s x f) σ K=faX P s (σ.e x) f fun v=>K (σ.put dst v):=by
 rw [D7 (p:=fun v=>faX P s (σ.e x) f fun u=>v=u) (fun _=>by simp only [aop]) (fun r=>by
  simp only [Ev,faX]
  generalize σ.e x=v
  split
  ·exact propext ⟨fun ⟨q,h1,h2,h3⟩=>⟨_,⟨q,h1,h2,rfl⟩,h3⟩,fun ⟨v,⟨q,h1,h2,h4⟩,h3⟩=>⟨q,h1,h2,h4 ▸ h3⟩⟩
  ·exact propext ⟨fun ⟨q,h1,h2,h3⟩=>⟨_,⟨q,h1,h2,rfl⟩,h3⟩,fun ⟨v,⟨q,h1,h2,h4⟩,h3⟩=>⟨q,h1,h2,h4 ▸ h3⟩⟩
  ·exact propext ⟨fun ⟨q,h1,h2,h3⟩=>⟨_,⟨q,h1,h2,rfl⟩,h3⟩,fun ⟨v,⟨q,h1,h2,h4⟩,h3⟩=>⟨q,h1,h2,h4 ▸ h3⟩⟩
  ·exact propext ⟨fun ⟨q,h1,h2,h3⟩=>⟨_,⟨q,h1,h2,rfl⟩,h3⟩,fun ⟨v,⟨q,h1,h2,h4⟩,h3⟩=>⟨q,h1,h2,h4 ▸ h3⟩⟩
  ·simp)]
 unfold faX
 split
 ·exact propext ⟨fun ⟨v,⟨q,h1,h2,h4⟩,h3⟩=>⟨q,h1,h2,h4 ▸ h3⟩,fun ⟨q,h1,h2,h3⟩=>⟨_,⟨q,h1,h2,rfl⟩,h3⟩⟩
 ·exact propext ⟨fun ⟨v,⟨q,h1,h2,h4⟩,h3⟩=>⟨q,h1,h2,h4 ▸ h3⟩,fun ⟨q,h1,h2,h3⟩=>⟨_,⟨q,h1,h2,rfl⟩,h3⟩⟩
 ·exact propext ⟨fun ⟨v,⟨q,h1,h2,h4⟩,h3⟩=>⟨q,h1,h2,h4 ▸ h3⟩,fun ⟨q,h1,h2,h3⟩=>⟨_,⟨q,h1,h2,rfl⟩,h3⟩⟩
 ·exact propext ⟨fun ⟨v,⟨q,h1,h2,h4⟩,h3⟩=>⟨q,h1,h2,h4 ▸ h3⟩,fun ⟨q,h1,h2,h3⟩=>⟨_,⟨q,h1,h2,rfl⟩,h3⟩⟩
 ·simp
@[go_sem] theorem UQ {s} {b off f} {K}:faX P s (.box b off) f K=optX (fOff P s f) fun q=>AJ (0<tsz P q.2) (AY (off+q.1) fun o=>K (.box b o)):=rfl
@[go_sem] theorem UR {s} {ds} {off f} {K}:faX P s (.rop ds off) f K=optX (fOff P s f) fun q=>AJ (0<tsz P q.2) (AY (off+q.1) fun o=>K (.rop ds o)):=rfl
@[go_sem] theorem US {s} {t g} {p} {sz i off f} {K}:faX P s (.els t g p sz i off) f K=optX (fOff P s f) fun q=>AJ (0<tsz P q.2) (AY (off+q.1) fun o=>K (.els t g p sz i o)):=rfl
@[go_sem] theorem UT {s} {t sz i off f} {K}:faX P s (.elt t sz i off) f K=optX (fOff P s f) fun q=>AJ (0<tsz P q.2) (AY (off+q.1) fun o=>K (.elt t sz i o)):=rfl
def fdX (P:Program) (s:TypeId) (v:AV) (f:Nat) (K:AV→Prop):Prop:=match v with
 | .agg vs=>optX (fOff P s f) fun q=>HE (ti P q.2).isAgg (AJ (q.1 +tsz P q.2 ≤vs.length) (AY (.agg (Dm vs q.1 (tsz P q.2))) K)) (AJ ((ti P q.2).sc =true) (optX vs[q.1]? K))
 |_=>False
@[go_sem] theorem UU {s} {vs} {f} {K}:fdX P s (.agg vs) f K=optX (fOff P s f) fun q=>HE (ti P q.2).isAgg (AJ (q.1 +tsz P q.2 ≤vs.length) (AY (.agg (Dm vs q.1 (tsz P q.2))) K)) (AJ ((ti P q.2).sc =true) (optX vs[q.1]? K)):=rfl
theorem UV {pos} {dst} {s} {x} {f}:opX P pos dst (.field s x f) σ K=fdX P s (σ.e x) f fun v=>K (σ.put dst v):=by
 rw [D7 (p:=fun v=>fdX P s (σ.e x) f fun u=>v=u) (fun _=>by simp only [aop]) (fun r=>by
  simp only [Ev,fdX]
  generalize σ.e x=v
  split
  ·rename_i vs
   simp only [optX,HE,AJ,AY]
   refine propext ⟨?_,?_⟩
   ·rintro ⟨q,h1,h2⟩
    split at h2
    ·rename_i hi; exact⟨_,⟨q,h1,.inl ⟨hi,h2.1,rfl⟩⟩,h2.2⟩
    ·rename_i hi; obtain⟨h3,v,h4,h5⟩:=h2; exact⟨v,⟨q,h1,.inr ⟨by simpa using hi,h3,v,h4,rfl⟩⟩,h5⟩
   ·rintro ⟨v,⟨q,h1,(⟨hi,h2,rfl⟩|⟨hi,h3,u,h4,rfl⟩)⟩,h5⟩
    ·exact⟨q,h1,by rw [if_pos hi]; exact⟨h2,h5⟩⟩
    ·exact⟨q,h1,by rw [if_neg (by simp [hi])]; exact⟨h3,v,h4,h5⟩⟩
  ·simp)]
 unfold fdX
 split
 ·simp only [optX,HE,AJ,AY]
  refine propext ⟨?_,?_⟩
  ·rintro ⟨v,⟨q,h1,(⟨hi,h2,rfl⟩|⟨hi,h3,u,h4,rfl⟩)⟩,h5⟩
   ·exact⟨q,h1,.inl ⟨hi,h2,h5⟩⟩
   ·exact⟨q,h1,.inr ⟨hi,h3,v,h4,h5⟩⟩
  ·rintro ⟨q,h1,(⟨hi,h2,h5⟩|⟨hi,h3,u,h4,h5⟩)⟩
   ·exact⟨_,⟨q,h1,.inl ⟨hi,h2,rfl⟩⟩,h5⟩
   ·exact⟨u,⟨q,h1,.inr ⟨hi,h3,u,h4,rfl⟩⟩,h5⟩
 ·simp
attribute [go_sem] fOff
def OZ (rows:List (List D)) (n:Int) (sz:Nat) (K:List D→Prop):Prop:=∃row,P2 rows n sz row∧K row
def iaX (P:Program) (t:TypeId) (x i:AV) (σ:St) (K:AV→Prop):Prop:=∃v,KW P σ.T t x i v∧K v
def slX (t:TI) (K:TypeId→Prop):Prop:=match t with| .sl e=>K e|_=>False
@[go_sem] theorem WX {e} {K}:slX (.sl e) K=K e:=rfl
def elX (P:Program) (t:TypeId) (x i:AV) (K:AV→Prop):Prop:=∃v,KX P t x i v∧K v
def arX (t:TI) (K:Nat→TypeId→Prop):Prop:=match t with| .arr n e=>K n e|_=>False
@[go_sem ↓] theorem Z5 {n} {e} {K}:arX (.arr n e) K=K n e:=rfl
def inX (t:TI) (K:IntKind→Prop):Prop:=match t with| .int k=>K k|_=>False
@[go_sem ↓] theorem Z6 {k} {K}:inX (.int k) K=K k:=rfl
@[go_sem] theorem Xe {k}:Hy k [] =some [] :=rfl
@[go_sem] theorem WY {k} {n} {vs}:Hy k (.int k n::vs)=(Hy k vs).map (n:: ·):=by rw [Hy,if_pos rfl]
theorem UW {pos} {dst} {t} {x i}:opX P pos dst (.index t x i) σ K=elX P t (σ.e x) (σ.e i) fun v=>K (σ.put dst v):=
 D7 (p:=fun v=>KX P t (σ.e x) (σ.e i) v) (fun _=>by simp only [aop]) (fun r=>by simp only [Ev])
@[go_sem ↓] theorem Z7 {t} {vs} {k} {n} {K}:elX P t (.agg vs) (.int k n) K=arX (ti P t) fun l e=>inX (ti P e) fun kd=>AJ (tsz P e=1) (optX (Hy kd vs) fun ns=>AJ (l=ns.length) (optX (atI ns n) fun m=>K (.int kd m))):=by
 simp only [elX,KX,arX,inX,AJ,optX]
 generalize ti P t=q
 cases q with
 |arr l e=>
  simp only
  generalize ti P e=q
  cases q with
  |int kd=>exact propext ⟨fun ⟨v,⟨h1,ns,h2,h3,m,h4,h5⟩,h⟩=>⟨h1,ns,h2,h3,m,h4,h5 ▸ h⟩,fun ⟨h1,ns,h2,h3,m,h4,h⟩=>⟨_,⟨h1,ns,h2,h3,m,h4,rfl⟩,h⟩⟩
  |_=>simp
 |_=>simp
@[go_sem ↓] theorem Z8 {t} {s} {k} {n} {K}:elX P t (.str s) (.int k n) K=AJ (ti P t= .str) (optX (atB s n) fun m=>K (.int .u8 m)):=by
 simp only [elX,KX,AJ,optX]
 exact propext ⟨fun ⟨v,⟨h1,m,h2,h3⟩,h⟩=>⟨h1,m,h2,h3 ▸ h⟩,fun ⟨h1,m,h2,h⟩=>⟨_,⟨h1,m,h2,rfl⟩,h⟩⟩
def RX (P:Program) (T:Nat→Option Tok) (t:TypeId) (x:AV) (l h:Option AV) (K:AV→Prop):Prop:=∃v,(H7 P t x l h v∨Lr P T t x l h v)∧K v
theorem UX {pos} {dst} {t} {x} {l h}:opX P pos dst (.slice t x l h none) σ K=RX P σ.T t (σ.e x) (l.map σ.e) (h.map σ.e) fun v=>K (σ.put dst v):=
 D7 (p:=fun v=>H7 P t (σ.e x) (l.map σ.e) (h.map σ.e) v∨Lr P σ.T t (σ.e x) (l.map σ.e) (h.map σ.e) v) (fun _=>by simp only [aop]) (fun r=>by simp only [Ev])
@[go_sem ↓] theorem Z9 {t} {rows} {l h} {T} {K}:RX P T t (.ro rows) l h K=slX (ti P t) fun el=>AJ (0<tsz P el) (AJ (∀row ∈ rows,row.length=tsz P el) (optX (bndI l 0) fun i=>optX (bndI h rows.length) fun j=>optX (Gt rows i j) fun r=>K (.ro r))):=by
 simp only [RX,H7,Lr,or_false,slX,AJ,optX]
 generalize ti P t=q
 cases q with
 |sl el=>exact propext ⟨fun ⟨v,⟨el',h0,⟨h1,h2⟩,i,h3,j,h4,r,h5,h6⟩,h7⟩=>by cases h0; exact⟨h1,h2,i,h3,j,h4,r,h5,h6 ▸ h7⟩,fun ⟨h1,h2,i,h3,j,h4,r,h5,h7⟩=>⟨_,⟨_,rfl,⟨h1,h2⟩,i,h3,j,h4,r,h5,rfl⟩,h7⟩⟩
 |_=>simp
@[go_sem ↓] theorem Yg {t} {s} {l h} {T} {K}:RX P T t (.str s) l h K=AJ (ti P t= .str) (optX (bndI l 0) fun i=>optX (bndI h s.size) fun j=>optX (Vs s i j) fun r=>K (.str r)):=by
 simp only [RX,H7,Lr,or_false,AJ,optX]
 exact propext ⟨fun ⟨v,⟨h0,i,h3,j,h4,r,h5,h6⟩,h7⟩=>⟨h0,i,h3,j,h4,r,h5,h6 ▸ h7⟩,fun ⟨h0,i,h3,j,h4,r,h5,h7⟩=>⟨_,⟨h0,i,h3,j,h4,r,h5,rfl⟩,h7⟩⟩
@[go_sem] theorem Yh {d}:bndI none d=some d:=rfl
@[go_sem] theorem Yi {k} {n d}:bndI (some (.int k n)) d=some n:=rfl
theorem Oa {pos} {dst} {t} {x i}:opX P pos dst (.indexAddr t x i) σ K=iaX P t (σ.e x) (σ.e i) σ fun v=>K (σ.put dst v):=
 D7 (p:=fun v=>KW P σ.T t (σ.e x) (σ.e i) v) (fun _=>by simp only [aop]) (fun r=>by simp only [Ev])
@[go_sem] theorem WZ {t} {rows} {k} {n} {K}:iaX P t (.ro rows) (.int k n) σ K=slX (ti P t) fun e=>AJ (0<tsz P e) (OZ rows n (tsz P e) fun row=>K (.rop (row.map ofD) 0)):=by
 simp only [iaX,KW,slX,AJ,OZ]
 generalize ti P t=q
 cases q with
 |sl e=>exact propext ⟨fun ⟨v,⟨h1,row,h2,h3⟩,h4⟩=>⟨h1,row,h2,h3 ▸ h4⟩,fun ⟨h1,row,h2,h3⟩=>⟨_,⟨h1,row,h2,rfl⟩,h3⟩⟩
 |_=>simp
@[go_sem] theorem UY {t} {t'} {k} {n} {K}:iaX P t (.own t') (.int k n) σ K=slX (ti P t) fun e=>AJ (0<tsz P e) (optX (σ.T t') fun tk=>OZ tk.rows n (tsz P e) fun _=>K (.elt t' (tsz P e) n.toNat 0)):=by
 simp only [iaX,KW,slX,AJ,OZ,optX]
 generalize ti P t=q
 cases q with
 |sl e=>exact propext ⟨fun ⟨v,⟨h1,tk,row,h0,h2,h3⟩,h4⟩=>⟨h1,tk,h0,row,h2,h3 ▸ h4⟩,fun ⟨h1,tk,h0,row,h2,h3⟩=>⟨_,⟨h1,tk,row,h0,h2,rfl⟩,h3⟩⟩
 |_=>simp
@[go_sem] theorem UZ {t} {t' g} {p} {k} {n} {K}:iaX P t (.sub t' g p) (.int k n) σ K=slX (ti P t) fun e=>AJ (0<tsz P e) (optX (subR σ.T t' g p) fun rows=>OZ rows n (tsz P e) fun _=>K (.els t' g p (tsz P e) n.toNat 0)):=by
 simp only [iaX,KW,slX,AJ,OZ,optX]
 generalize ti P t=q
 cases q with
 |sl e=>exact propext ⟨fun ⟨v,⟨h1,tk,row,h0,h2,h3⟩,h4⟩=>⟨h1,tk,h0,row,h2,h3 ▸ h4⟩,fun ⟨h1,tk,h0,row,h2,h3⟩=>⟨_,⟨h1,tk,row,h0,h2,rfl⟩,h3⟩⟩
 |_=>simp
def RY (v:AV) (i:Nat) (K:AV→Prop):Prop:=match v with| .tup vs=>optX vs[i]? K|_=>False
@[go_sem] theorem Sq {vs} {i} {K}:RY (.tup vs) i K=optX vs[i]? K:=rfl
theorem RZ {pos} {dst} {x} {i}:opX P pos dst (.extract x i) σ K=RY (σ.e x) i fun v=>K (σ.put dst v):=by
 rw [D7 (p:=fun v=>RY (σ.e x) i fun u=>v=u) (fun _=>by simp only [aop]) (fun r=>by
  simp only [Ev,RY]
  generalize σ.e x=v
  cases v <;> simp [optX])]
 unfold RY
 generalize σ.e x=v
 cases v <;> simp [optX]
def evs (σ:St):List Operand→List AV
 | [] =>[]
 |x::xs=>σ.e x::evs σ xs
theorem NC {xs}:evs σ xs=xs.map σ.e:=by induction xs with|nil=>rfl|cons x xs ih=>simp [evs,ih]
attribute [go_sem] evs
@[go_sem ↓] theorem Wa {pos} {dst} {f} {caps}:opX P pos dst (.makeFunc (.func f) (List.toArray []) caps.toArray) σ K=AY (.fn f (evs σ caps)) fun v=>K (σ.put dst v):=by
 rw [D7 (p:=fun v=>v= .fn f (evs σ caps)) (fun _=>by simp only [aop]) (fun r=>by simp [Ev,NC])]
 simp [AY]
def Hs (P:Program) (t:TypeId) (x:AV) (σ:St) (K:AV→Prop):Prop:=∃v,H6 P σ.T σ.B t x v∧K v
theorem Yj {pos} {dst} {x} {t}:opX P pos dst (.call ⟨.builtin .len,List.toArray [x],List.toArray [t]⟩) σ K=Hs P t (σ.e x) σ fun v=>K (σ.put dst v):=
 D7 (p:=fun v=>H6 P σ.T σ.B t (σ.e x) v) (fun _=>by simp only [aop]) (fun r=>by simp only [Ev])
def Jx (f:Int→Int→Int) (x y:AV) (K:AV→Prop):Prop:=match x,y with
 | .int k n,.int k' m=>k=k'∧K (.int k (f n m))
 |_,_=>False
@[go_sem] theorem Sr {f} {k} {n m} {K}:Jx f (.int k n) (.int k m) K=AY (f n m) fun r=>K (.int k r):=by simp [Jx,AY]
theorem Yk {pos} {dst} {x y} {ts}:opX P pos dst (.call ⟨.builtin .max,List.toArray [x,y],ts⟩) σ K=Jx (fun n m=>if n<m then m else n) (σ.e x) (σ.e y) fun v=>K (σ.put dst v):=by
 rw [D7 (p:=fun v=>Jx (fun n m=>if n<m then m else n) (σ.e x) (σ.e y) fun u=>v=u) (fun _=>by simp only [aop]) (fun r=>by
  simp only [Ev,Jx]
  generalize σ.e x=u
  generalize σ.e y=v
  cases u <;> cases v <;> simp [and_assoc])]
 unfold Jx
 generalize σ.e x=u
 generalize σ.e y=v
 cases u <;> cases v <;> simp [and_assoc]
theorem Yl {pos} {dst} {x y} {ts}:opX P pos dst (.call ⟨.builtin .min,List.toArray [x,y],ts⟩) σ K=Jx (fun n m=>if m<n then m else n) (σ.e x) (σ.e y) fun v=>K (σ.put dst v):=by
 rw [D7 (p:=fun v=>Jx (fun n m=>if m<n then m else n) (σ.e x) (σ.e y) fun u=>v=u) (fun _=>by simp only [aop]) (fun r=>by
  simp only [Ev,Jx]
  generalize σ.e x=u
  generalize σ.e y=v
  cases u <;> cases v <;> simp [and_assoc])]
 unfold Jx
 generalize σ.e x=u
 generalize σ.e y=v
 cases u <;> cases v <;> simp [and_assoc]
end
attribute [go_sem ↓] Sb Sc Sd Se Mg OT T3 T4 T5 T6 T7 T8 T9 UA UB UC UD UE WR UF Pi UG UH Sh Si Sj Sm Sn WS UJ WT UK WU UL Sk Sl UM UO UN RU RW UQ UR UT US UU WX WZ UY UZ Sq Sr
end Go.Proofs.Ytijdanbelnmmlaa.Ab
