/-
  The abstract walk as rules, second part: the other operations.
-/
import Derived.Test.YtckcfdggbbabfaaGreatAbT
namespace Go.Proofs.YtckcfdggbbabfaaGreat.Ab
set_option linter.unusedVariables false
open Go.RowKit
section
variable {P:Program} {σ:St} {K:St→Prop} {Q:AE→St→Prop}
theorem Nf {pos:Nat} {dst:Option Tmp} {op:Op} (h:∀K',aop P pos ⟨dst,op,0, "",#[],none⟩ σ K'=∃r,Ev P pos ⟨dst,op,0, "",#[],none⟩ σ.e σ.T σ.B r∧Ca σ r.t∧Dd σ r.b∧K' (σ.add dst r)):
  opX P pos dst op σ K=∃r,Ev P pos ⟨dst,op,0, "",#[],none⟩ σ.e σ.T σ.B r∧Ca σ r.t∧Dd σ r.b∧K (σ.add dst r):=h K
def Rw (v:AV) (K:AV→Prop):Prop:=match v with
 | .box b off=>K (.box b off)
 | .rop ds off=>K (.rop ds off)
 | .elt t sz i off=>K (.elt t sz i off)
 | .els t g p sz i off=>K (.els t g p sz i off)
 |_=>False
@[go_sem] theorem Ym {b off:Nat} {K:AV→Prop}:Rw (.box b off) K=K (.box b off):=rfl
@[go_sem] theorem Yn {ds:List AV} {off:Nat} {K:AV→Prop}:Rw (.rop ds off) K=K (.rop ds off):=rfl
@[go_sem] theorem Yo {t sz i off:Nat} {K:AV→Prop}:Rw (.elt t sz i off) K=K (.elt t sz i off):=rfl
@[go_sem] theorem Yp {t g:Nat} {p:Pth} {sz i off:Nat} {K:AV→Prop}:Rw (.els t g p sz i off) K=K (.els t g p sz i off):=rfl
theorem Uy {pos:Nat} {dst:Option Tmp} {x:Operand}:opX P pos dst (.nilCheck x) σ K=Rw (σ.e x) fun v=>K (σ.put dst v):=by
 rw [FY (p:=fun v=>Rw (σ.e x) fun u=>v=u) (fun _=>by simp only [aop]) (fun r=>by
  simp only [Ev,Rw]
  generalize σ.e x=v
  cases v <;> simp)]
 unfold Rw
 generalize σ.e x=v
 cases v <;> simp
def Bd (P:Program) (op:BinOp) (t:TypeId) (x y:AV) (K:AV→Prop):Prop:=∃v,Bin P op t x y v∧K v
def Uz (op:BinOp) (y:Operand):Bool:=match op,y with
 | .eql,.const (.slice none 0 0)=>false
 | .neq,.const (.slice none 0 0)=>false
 |_,_=>true
theorem TQ {pos:Nat} {dst:Option Tmp} {op:BinOp} {t t':TypeId} {x y:Operand} (hn:Uz op y=true):opX P pos dst (.binOp op t x y t') σ K=Bd P op t (σ.e x) (σ.e y) fun v=>K (σ.put dst v):=
 FY (p:=fun v=>Bin P op t (σ.e x) (σ.e y) v) (fun _=>by
  unfold aop
  dsimp only
  split
  ·rename_i h; simp only [Op.binOp.injEq] at h; obtain⟨rfl,rfl,rfl,rfl,rfl⟩:=h; simp [Uz] at hn
  ·rename_i h; simp only [Op.binOp.injEq] at h; obtain⟨rfl,rfl,rfl,rfl,rfl⟩:=h; simp [Uz] at hn
  ·rename_i h; cases h
  ·rename_i h; cases h
  ·rename_i h; cases h
  ·rfl) (fun r=>by simp only [Ev])
section
variable {pos:Nat} {dst:Option Tmp} {op:BinOp} {t t':TypeId} {x:Operand}
theorem XG {y:Tmp}:opX P pos dst (.binOp op t x (.tmp y) t') σ K=Bd P op t (σ.e x) (σ.g y) fun v=>K (σ.put dst v):=TQ (by cases op <;> rfl)
theorem XH {k:IntKind} {n:Int}:opX P pos dst (.binOp op t x (.const (.int k n)) t') σ K=Bd P op t (σ.e x) (.int k n) fun v=>K (σ.put dst v):=TQ (by cases op <;> rfl)
theorem U0 {b:Bool}:opX P pos dst (.binOp op t x (.const (.bool b)) t') σ K=Bd P op t (σ.e x) (.bool b) fun v=>K (σ.put dst v):=TQ (by cases op <;> rfl)
theorem XI {s:ByteArray}:opX P pos dst (.binOp op t x (.const (.string s)) t') σ K=Bd P op t (σ.e x) (.str s) fun v=>K (σ.put dst v):=TQ (by cases op <;> rfl)
theorem U1:opX P pos dst (.binOp op t x (.const (.pointer none)) t') σ K=Bd P op t (σ.e x) .nilp fun v=>K (σ.put dst v):=TQ (by cases op <;> rfl)
def QU (P:Program) (t:TypeId) (v:AV) (σ:St) (K:Bool→Prop):Prop:=(∃e,ti P t= .sl e)∧JR v=true∧∀b,WW σ.T v b→K b
def slP (t:TI):Prop:=∃e,t= .sl e
@[go_sem] theorem kx {e:TypeId}:slP (.sl e)=True:=by simp [slP]
@[go_sem] theorem RO {K:Bool→Prop}:QU P t .nils σ K=AS (slP (ti P t)) (K true):=by simp [QU,JR,WW,AS,slP]
@[go_sem] theorem TR {b n sz:Nat} {K:Bool→Prop}:QU P t (.bsl b n sz) σ K=AS (slP (ti P t)) (K false):=by simp [QU,JR,WW,AS,slP]
theorem aP {rows:List (List D)} {K:Bool→Prop} (h:slP (ti P t)) (h0:rows=[] →K true) (h1:K false):QU P t (.ro rows) σ K:=
 ⟨h,rfl,fun b hb=>by
  cases b with
  |false=>exact h1
  |true=>
   refine h0 ?_
   by_cases hr:rows=[]
   ·exact hr
   ·exact absurd (hb hr) (by simp)⟩
theorem Yq:opX P pos dst (.binOp .eql t x (.const (.slice none 0 0)) t') σ K=QU P t (σ.e x) σ fun b=>K (σ.put dst (.bool b)):=by
 unfold opX; simp only [aop,QU]
theorem Yr:opX P pos dst (.binOp .neq t x (.const (.slice none 0 0)) t') σ K=QU P t (σ.e x) σ fun b=>K (σ.put dst (.bool !b)):=by
 unfold opX; simp only [aop,QU]
end
section
variable {t:TypeId} {k:IntKind} {a b:Int} {K:AV→Prop}
@[go_sem] theorem aQ:Bd P .add t (.int k a) (.int k b) K=K (.int k (k.wrap (a+b))):=by simp [Bd,Bin,Jt]
@[go_sem] theorem aR:Bd P .sub t (.int k a) (.int k b) K=K (.int k (k.wrap (a - b))):=by simp [Bd,Bin,Jt]
@[go_sem] theorem aS:Bd P .mul t (.int k a) (.int k b) K=K (.int k (k.wrap (a*b))):=by simp [Bd,Bin,Jt]
@[go_sem] theorem aT:Bd P .eql t (.int k a) (.int k b) K=K (.bool (decide (a=b))):=by simp [Bd,Bin,Jt]
@[go_sem] theorem aU:Bd P .neq t (.int k a) (.int k b) K=K (.bool (!decide (a=b))):=by simp [Bd,Bin,Jt]
@[go_sem] theorem aV:Bd P .lss t (.int k a) (.int k b) K=K (.bool (decide (a<b))):=by simp [Bd,Bin,Jt]
@[go_sem] theorem aW:Bd P .leq t (.int k a) (.int k b) K=K (.bool (decide (a≤b))):=by simp [Bd,Bin,Jt]
@[go_sem] theorem aX:Bd P .gtr t (.int k a) (.int k b) K=K (.bool (decide (b<a))):=by simp [Bd,Bin,Jt]
@[go_sem] theorem aY:Bd P .geq t (.int k a) (.int k b) K=K (.bool (decide (b≤a))):=by simp [Bd,Bin,Jt]
@[go_sem] theorem aZ {k':IntKind}:Bd P .shl t (.int k a) (.int k' b) K=AS (0≤b) (K (.int k (k.wrap (a*2 ^ min b.toNat k.bits)))):=by
 simp only [Bd,Bin,AS]
 exact propext ⟨fun ⟨v,⟨h1,h2⟩,h3⟩=>⟨h1,h2 ▸ h3⟩,fun ⟨h1,h2⟩=>⟨_,⟨h1,rfl⟩,h2⟩⟩
@[go_sem] theorem aa {k':IntKind}:Bd P .shr t (.int k a) (.int k' b) K=AS (0≤b) (K (.int k (a / 2 ^ min b.toNat k.bits))):=by
 simp only [Bd,Bin,AS]
 exact propext ⟨fun ⟨v,⟨h1,h2⟩,h3⟩=>⟨h1,h2 ▸ h3⟩,fun ⟨h1,h2⟩=>⟨_,⟨h1,rfl⟩,h2⟩⟩
@[go_sem] theorem ae:Bd P .and t (.int k a) (.int k b) K=K (.int k (bits .and k a b)):=by simp [Bd,Bin]
@[go_sem] theorem dk:Bd P .or t (.int k a) (.int k b) K=K (.int k (bits .or k a b)):=by simp [Bd,Bin]
@[go_sem] theorem ah:Bd P .xor t (.int k a) (.int k b) K=K (.int k (bits .xor k a b)):=by simp [Bd,Bin]
@[go_sem] theorem U2:Bd P .andNot t (.int k a) (.int k b) K=K (.int k (bits .andNot k a b)):=by simp [Bd,Bin]
@[go_sem] theorem ai:Bd P .quo t (.int k a) (.int k b) K=AS (b≠0) (K (.int k (k.wrap (a.tdiv b)))):=by
 simp only [Bd,Bin,AS,true_and]
 exact propext ⟨fun ⟨v,⟨h1,h2⟩,h3⟩=>⟨h1,h2 ▸ h3⟩,fun ⟨h1,h2⟩=>⟨_,⟨h1,rfl⟩,h2⟩⟩
@[go_sem] theorem aj:Bd P .rem t (.int k a) (.int k b) K=AS (b≠0) (K (.int k (a.tmod b))):=by
 simp only [Bd,Bin,AS,true_and]
 exact propext ⟨fun ⟨v,⟨h1,h2⟩,h3⟩=>⟨h1,h2 ▸ h3⟩,fun ⟨h1,h2⟩=>⟨_,⟨h1,rfl⟩,h2⟩⟩
end
section
variable {t:TypeId} {a b:ByteArray} {c d:Bool} {K:AV→Prop}
def Je (a b:ByteArray):Bool:=a.toList == b.toList
@[go_sem] theorem Ys:Bd P .eql t (.str a) (.str b) K=K (.bool (Je a b)):=by simp [Bd,Bin,Je]
@[go_sem] theorem Yt:Bd P .neq t (.str a) (.str b) K=K (.bool (!Je a b)):=by simp [Bd,Bin,Je]
@[go_sem] theorem Yu:Bd P .add t (.str a) (.str b) K=AS (a.size+b.size≤maxLen) (K (.str (a++b))):=by
 simp only [Bd,Bin,AS]
 exact propext ⟨fun ⟨v,⟨h1,h2⟩,h3⟩=>⟨h1,h2 ▸ h3⟩,fun ⟨h1,h2⟩=>⟨_,⟨h1,rfl⟩,h2⟩⟩
def XJ (o:Option (List KK)) (xs ys:List AV) (K:Bool→Prop):Prop:=∃ks b,o=some ks∧Bo ks xs ys=some b∧K b
def ak (o:Option Bool) (K:Bool→Prop):Prop:=∃b,o=some b∧K b
@[go_sem] theorem fH {ks:List KK} {xs ys:List AV} {K:Bool→Prop}:XJ (some ks) xs ys K=ak (Bo ks xs ys) K:=by
 simp [XJ,ak]
@[go_sem] theorem fI {b:Bool} {K:Bool→Prop}:ak (some b) K=K b:=by simp [ak]
@[go_sem] theorem fJ {k:IntKind} {ks:List KK} {a b:Int} {xs ys:List AV}:Bo (.int k::ks) (.int k a::xs) (.int k b::ys)=(Bo ks xs ys).map (decide (a=b)&& ·):=by
 rw [Bo]; simp
@[go_sem] theorem fK {ks:List KK} {a b:Bool} {xs ys:List AV}:Bo (.bool ::ks) (.bool a::xs) (.bool b::ys)=(Bo ks xs ys).map (a == b&& ·):=by
 rw [Bo]
@[go_sem] theorem gc {ks:List KK} {a b:ByteArray} {xs ys:List AV}:Bo (.str ::ks) (.str a::xs) (.str b::ys)=(Bo ks xs ys).map (Je a b&& ·):=by
 rw [Bo]; rfl
@[go_sem] theorem gd:Bo [] [] [] =some true:=by
 rw [Bo]
@[go_sem] theorem fL {α β:Type} {f:α→β} {a:α}:Option.map f (some a)=some (f a):=rfl
@[go_sem] theorem Yv {xs ys:List AV}:Bd P .eql t (.agg xs) (.agg ys) K=XJ (Gr P t) xs ys fun b=>K (.bool b):=by
 unfold Bd Bin XJ
 exact propext ⟨fun ⟨v,⟨ks,b,h1,h2,h3⟩,h⟩=>⟨ks,b,h1,h2,by simp only at h3; subst h3; exact h⟩,fun ⟨ks,b,h1,h2,h⟩=>⟨_,⟨ks,b,h1,h2,rfl⟩,h⟩⟩
@[go_sem] theorem Yw {xs ys:List AV}:Bd P .neq t (.agg xs) (.agg ys) K=XJ (Gr P t) xs ys fun b=>K (.bool !b):=by
 unfold Bd Bin XJ
 exact propext ⟨fun ⟨v,⟨ks,b,h1,h2,h3⟩,h⟩=>⟨ks,b,h1,h2,by simp only at h3; subst h3; exact h⟩,fun ⟨ks,b,h1,h2,h⟩=>⟨_,⟨ks,b,h1,h2,rfl⟩,h⟩⟩
def TS (P:Program) (t:TypeId):Prop:=match ti P t with| .bool =>True|_=>False
@[go_sem] theorem Yx:Bd P .eql t (.bool c) (.bool d) K=AS (TS P t) (K (.bool (c == d))):=by
 simp only [Bd,Bin,AS,TS]
 split <;> simp_all
@[go_sem] theorem Yy:Bd P .neq t (.bool c) (.bool d) K=AS (TS P t) (K (.bool (!(c == d)))):=by
 simp only [Bd,Bin,AS,TS]
 split <;> simp_all
def Ng (P:Program) (t:TypeId):Prop:=match ti P t with| .ptr _=>True|_=>False
@[go_sem] theorem dl:Bd P .eql t .nilp .nilp K=AS (Ng P t) (K (.bool true)):=by
 simp only [Bd,Bin,AS,Ng]
 split <;> simp_all
@[go_sem] theorem am:Bd P .neq t .nilp .nilp K=AS (Ng P t) (K (.bool false)):=by
 simp only [Bd,Bin,AS,Ng]
 split <;> simp_all
@[go_sem] theorem dn {x off:Nat}:Bd P .eql t (.box x off) .nilp K=AS (Ng P t) (K (.bool false)):=by
 simp only [Bd,Bin,AS,Ng]
 split <;> simp_all
@[go_sem] theorem an {x off:Nat}:Bd P .neq t (.box x off) .nilp K=AS (Ng P t) (K (.bool true)):=by
 simp only [Bd,Bin,AS,Ng]
 split <;> simp_all
@[go_sem] theorem dp {ds:List AV} {off:Nat}:Bd P .eql t (.rop ds off) .nilp K=AS (Ng P t) (K (.bool false)):=by
 simp only [Bd,Bin,AS,Ng]
 split <;> simp_all
@[go_sem] theorem aq {ds:List AV} {off:Nat}:Bd P .neq t (.rop ds off) .nilp K=AS (Ng P t) (K (.bool true)):=by
 simp only [Bd,Bin,AS,Ng]
 split <;> simp_all
attribute [go_sem] TS Ng
end
def TT (op:UnOp) (x:AV) (K:AV→Prop):Prop:=∃v,Uno op x v∧K v
theorem dq {pos:Nat} {dst:Option Tmp} {op:UnOp} {t:TypeId} {x:Operand}:opX P pos dst (.unOp op t x) σ K=TT op (σ.e x) fun v=>K (σ.put dst v):=
 FY (p:=fun v=>Uno op (σ.e x) v) (fun _=>by simp only [aop]) (fun r=>by simp only [Ev])
@[go_sem] theorem ar {b:Bool} {K:AV→Prop}:TT .not (.bool b) K=K (.bool (!b)):=by simp [TT,Uno]
@[go_sem] theorem au {k:IntKind} {n:Int} {K:AV→Prop}:TT .xor (.int k n) K=K (.int k (bits .xor k (if k.signed then -1 else k.max) n)):=by simp [TT,Uno]
@[go_sem] theorem aw {k:IntKind} {n:Int} {K:AV→Prop}:TT .neg (.int k n) K=K (.int k (k.wrap (0 - n))):=by simp [TT,Uno]
def Ka (P:Program) (s d:TypeId) (x:AV) (σ:St) (K:AV→Prop):Prop:=match ti P d,x with
 | .int k,.int _ n=>(ti P s).sc =true∧K (.int k (k.wrap n))
 | .str,y=>∃el ns,ti P s= .sl el∧ti P el= .int .u8 ∧ns.length≤maxLen∧cl σ.T σ.B y=some (.ro (Fm ns))∧K (.str (strOfNums ns))
 |_,_=>False
def Yz (P:Program) (s d:TypeId) (x:AV) (σ:St) (v:AV):Prop:=match ti P d,x with
 | .int k,.int _ n=>(ti P s).sc =true∧v= .int k (k.wrap n)
 | .str,y=>∃el ns,ti P s= .sl el∧ti P el= .int .u8 ∧ns.length≤maxLen∧cl σ.T σ.B y=some (.ro (Fm ns))∧v= .str (strOfNums ns)
 |_,_=>False
theorem XK {pos:Nat} {dst:Option Tmp} {s d:TypeId} {x:Operand}:opX P pos dst (.convert s d x) σ K=Ka P s d (σ.e x) σ fun v=>K (σ.put dst v):=by
 rw [FY (p:=fun v=>Yz P s d (σ.e x) σ v) (fun _=>by simp only [aop]) (fun r=>by
  simp only [Ev,Yz]
  generalize σ.e x=v
  generalize ti P d=q
  cases q <;> cases v <;> first
   |(
    refine propext ⟨?_,?_⟩
    ·intro h; obtain⟨el,ns,h1,h2,h3,h4,rfl⟩:=h; exact⟨_,⟨el,ns,h1,h2,h3,h4,rfl⟩,rfl⟩
    ·intro h; obtain⟨_,⟨el,ns,h1,h2,h3,h4,rfl⟩,rfl⟩:=h; exact⟨el,ns,h1,h2,h3,h4,rfl⟩)
   |simp [and_assoc])]
 unfold Ka Yz
 generalize σ.e x=v
 generalize ti P d=q
 have key:∀y:AV,(∃v,(∃el ns,ti P s= .sl el∧ti P el= .int .u8 ∧ns.length≤maxLen∧cl σ.T σ.B y=some (.ro (Fm ns))∧v= .str (strOfNums ns))∧K (σ.put dst v))=∃el ns,ti P s= .sl el∧ti P el= .int .u8 ∧ns.length≤maxLen∧cl σ.T σ.B y=some (.ro (Fm ns))∧K (σ.put dst (.str (strOfNums ns))):=fun y=>by
  refine propext ⟨?_,?_⟩
  ·rintro ⟨v,⟨el,ns,h1,h2,h3,h4,rfl⟩,h5⟩; exact⟨el,ns,h1,h2,h3,h4,h5⟩
  ·rintro ⟨el,ns,h1,h2,h3,h4,h5⟩; exact⟨_,⟨el,ns,h1,h2,h3,h4,rfl⟩,h5⟩
 cases q <;> cases v <;> first|exact key _|simp [and_assoc]
def TU (t:TI) (K:IntKind→Prop):Prop:=match t with| .int k=>K k|_=>False
@[go_sem] theorem XL {k:IntKind} {K:IntKind→Prop}:TU (.int k) K=K k:=rfl
@[go_sem] theorem XM {s d:TypeId} {k':IntKind} {n:Int} {K:AV→Prop}:Ka P s d (.int k' n) σ K=TU (ti P d) fun k=>AS ((ti P s).sc =true) (K (.int k (k.wrap n))):=by
 unfold Ka TU AS
 generalize ti P d=q
 cases q <;> simp [cl,Fm]
def Y0 (P:Program) (q:TI):Prop:=∃el,q= .sl el∧ti P el= .int .u8
def ax (q:TI):Prop:=q= .int .u8
@[go_sem] theorem gf:ax (.int .u8)=True:=by simp [ax]
@[go_sem] theorem jU {el:TypeId}:Y0 P (.sl el)=ax (ti P el):=by simp [Y0,ax]
def TV (P:Program) (q qs:TI) (o:Option AV) (K:AV→Prop):Prop:=q= .str ∧Y0 P qs∧∃ns,ns.length≤maxLen∧o=some (.ro (Fm ns))∧K (.str (strOfNums ns))
def gh (o:Option AV) (K:AV→Prop) (_:Wrap K):Prop:=∃ns,ns.length≤maxLen∧o=some (.ro (Fm ns))∧K (.str (strOfNums ns))
@[go_sem] theorem gi {qs:TI} {o:Option AV} {K:AV→Prop}:TV P .str qs o K=AS (Y0 P qs) (gh o K ⟨⟩):=by simp [TV,AS,gh]
theorem Mm {s d:TypeId} {x:AV} {K:AV→Prop} (hx:∀k n,x≠ .int k n):Ka P s d x σ K=Al (cl σ.T σ.B x) fun o=>TV P (ti P d) (ti P s) o K:=by
 unfold Ka TV Al Y0
 generalize ti P d=q
 cases q
 case str=>
  refine propext ⟨fun h=>?_,fun h=>?_⟩
  ·cases x <;> (obtain⟨el,ns,h1,h2,h3,h4,h5⟩:=h; exact⟨rfl,⟨el,h1,h2⟩,ns,h3,h4,h5⟩)
  ·cases x <;> (obtain⟨-,⟨el,h1,h2⟩,ns,h3,h4,h5⟩:=h; exact⟨el,ns,h1,h2,h3,h4,h5⟩)
 case int k=>cases x <;> first|exact absurd rfl (hx _ _)|simp
 all_goals simp
@[go_sem] theorem fM {s d:TypeId} {t:Nat} {K:AV→Prop}:Ka P s d (.own t) σ K=Al (cl σ.T σ.B (.own t)) fun o=>TV P (ti P d) (ti P s) o K:=Mm (by simp)
@[go_sem] theorem gj {s d:TypeId} {r:List (List D)} {K:AV→Prop}:Ka P s d (.ro r) σ K=Al (cl σ.T σ.B (.ro r)) fun o=>TV P (ti P d) (ti P s) o K:=Mm (by simp)
@[go_sem] theorem fN {s d:TypeId} {b n z:Nat} {K:AV→Prop}:Ka P s d (.bsl b n z) σ K=Al (cl σ.T σ.B (.bsl b n z)) fun o=>TV P (ti P d) (ti P s) o K:=Mm (by simp)
@[go_sem] theorem dr {s d:TypeId} {K:AV→Prop}:Ka P s d .nils σ K=Al (cl σ.T σ.B .nils) fun o=>TV P (ti P d) (ti P s) o K:=Mm (by simp)
def faX (P:Program) (s:TypeId) (v:AV) (f:Nat) (K:AV→Prop):Prop:=match v with
 | .box b off=>∃q,fOff P s f=some q∧0<tsz P q.2 ∧K (.box b (off+q.1))
 | .rop ds off=>∃q,fOff P s f=some q∧0<tsz P q.2 ∧K (.rop ds (off+q.1))
 | .elt t sz i off=>∃q,fOff P s f=some q∧0<tsz P q.2 ∧K (.elt t sz i (off+q.1))
 | .els t g p sz i off=>∃q,fOff P s f=some q∧0<tsz P q.2 ∧K (.els t g p sz i (off+q.1))
 |_=>False
theorem TW {pos:Nat} {dst:Option Tmp} {s:TypeId} {x:Operand} {f:Nat}:opX P pos dst (.fieldAddr s x f) σ K=faX P s (σ.e x) f fun v=>K (σ.put dst v):=by
 rw [FY (p:=fun v=>faX P s (σ.e x) f fun u=>v=u) (fun _=>by simp only [aop]) (fun r=>by
  simp only [Ev,faX]
  generalize σ.e x=v
  split
  ·exact propext ⟨fun ⟨q,h1,h2,h3⟩=>⟨_,⟨q,h1,h2,rfl⟩,h3⟩,fun ⟨v,⟨q,h1,h2,h4⟩,h3⟩=>⟨q,h1,h2,h4 ▸ h3⟩⟩
  ·exact propext ⟨fun ⟨q,h1,h2,h3⟩=>⟨_,⟨q,h1,h2,rfl⟩,h3⟩,fun ⟨v,⟨q,h1,h2,h4⟩,h3⟩=>⟨q,h1,h2,h4 ▸ h3⟩⟩
  ·exact propext ⟨fun ⟨q,h1,h2,h3⟩=>⟨_,⟨q,h1,h2,rfl⟩,h3⟩,fun ⟨v,⟨q,h1,h2,h4⟩,h3⟩=>⟨q,h1,h2,h4 ▸ h3⟩⟩
  ·exact propext ⟨fun ⟨q,h1,h2,h3⟩=>⟨_,⟨q,h1,h2,rfl⟩,h3⟩,fun ⟨v,⟨q,h1,h2,h4⟩,h3⟩=>⟨q,h1,h2,h4 ▸ h3⟩⟩
  ·simp)]
 unfold faX
 split
 ·exact propext ⟨fun ⟨v,⟨q,h1,h2,h4⟩,h3⟩=>⟨q,h1,h2,h4 ▸ h3⟩,fun ⟨q,h1,h2,h3⟩=>⟨_,⟨q,h1,h2,rfl⟩,h3⟩⟩
 ·exact propext ⟨fun ⟨v,⟨q,h1,h2,h4⟩,h3⟩=>⟨q,h1,h2,h4 ▸ h3⟩,fun ⟨q,h1,h2,h3⟩=>⟨_,⟨q,h1,h2,rfl⟩,h3⟩⟩
 ·exact propext ⟨fun ⟨v,⟨q,h1,h2,h4⟩,h3⟩=>⟨q,h1,h2,h4 ▸ h3⟩,fun ⟨q,h1,h2,h3⟩=>⟨_,⟨q,h1,h2,rfl⟩,h3⟩⟩
 ·exact propext ⟨fun ⟨v,⟨q,h1,h2,h4⟩,h3⟩=>⟨q,h1,h2,h4 ▸ h3⟩,fun ⟨q,h1,h2,h3⟩=>⟨_,⟨q,h1,h2,rfl⟩,h3⟩⟩
 ·simp
@[go_sem] theorem ay {s:TypeId} {b off f:Nat} {K:AV→Prop}:faX P s (.box b off) f K=optX (fOff P s f) fun q=>AS (0<tsz P q.2) (Al (off+q.1) fun o=>K (.box b o)):=rfl
@[go_sem] theorem az {s:TypeId} {ds:List AV} {off f:Nat} {K:AV→Prop}:faX P s (.rop ds off) f K=optX (fOff P s f) fun q=>AS (0<tsz P q.2) (Al (off+q.1) fun o=>K (.rop ds o)):=rfl
@[go_sem] theorem a6 {s:TypeId} {t g:Nat} {p:Pth} {sz i off f:Nat} {K:AV→Prop}:faX P s (.els t g p sz i off) f K=optX (fOff P s f) fun q=>AS (0<tsz P q.2) (Al (off+q.1) fun o=>K (.els t g p sz i o)):=rfl
@[go_sem] theorem a7 {s:TypeId} {t sz i off f:Nat} {K:AV→Prop}:faX P s (.elt t sz i off) f K=optX (fOff P s f) fun q=>AS (0<tsz P q.2) (Al (off+q.1) fun o=>K (.elt t sz i o)):=rfl
def fdX (P:Program) (s:TypeId) (v:AV) (f:Nat) (K:AV→Prop):Prop:=match v with
 | .agg vs=>optX (fOff P s f) fun q=>KX (ti P q.2).isAgg (AS (q.1 +tsz P q.2 ≤vs.length) (Al (.agg (E8 vs q.1 (tsz P q.2))) K)) (AS ((ti P q.2).sc =true) (optX vs[q.1]? K))
 |_=>False
@[go_sem] theorem a8 {s:TypeId} {vs:List AV} {f:Nat} {K:AV→Prop}:fdX P s (.agg vs) f K=optX (fOff P s f) fun q=>KX (ti P q.2).isAgg (AS (q.1 +tsz P q.2 ≤vs.length) (Al (.agg (E8 vs q.1 (tsz P q.2))) K)) (AS ((ti P q.2).sc =true) (optX vs[q.1]? K)):=rfl
theorem bA {pos:Nat} {dst:Option Tmp} {s:TypeId} {x:Operand} {f:Nat}:opX P pos dst (.field s x f) σ K=fdX P s (σ.e x) f fun v=>K (σ.put dst v):=by
 rw [FY (p:=fun v=>fdX P s (σ.e x) f fun u=>v=u) (fun _=>by simp only [aop]) (fun r=>by
  simp only [Ev,fdX]
  generalize σ.e x=v
  split
  ·rename_i vs
   simp only [optX,KX,AS,Al]
   refine propext ⟨?_,?_⟩
   ·rintro ⟨q,h1,h2⟩
    split at h2
    ·rename_i hi; exact⟨_,⟨q,h1,.inl ⟨hi,h2.1,rfl⟩⟩,h2.2⟩
    ·rename_i hi; obtain⟨h3,v,h4,h5⟩:=h2; exact⟨v,⟨q,h1,.inr ⟨by simpa using hi,h3,v,h4,rfl⟩⟩,h5⟩
   ·rintro ⟨v,⟨q,h1,(⟨hi,h2,rfl⟩|⟨hi,h3,u,h4,rfl⟩)⟩,h5⟩
    ·exact⟨q,h1,by rw [if_pos hi]; exact⟨h2,h5⟩⟩
    ·exact⟨q,h1,by rw [if_neg (by simp [hi])]; exact⟨h3,v,h4,h5⟩⟩
  ·simp)]
 unfold fdX
 split
 ·simp only [optX,KX,AS,Al]
  refine propext ⟨?_,?_⟩
  ·rintro ⟨v,⟨q,h1,(⟨hi,h2,rfl⟩|⟨hi,h3,u,h4,rfl⟩)⟩,h5⟩
   ·exact⟨q,h1,.inl ⟨hi,h2,h5⟩⟩
   ·exact⟨q,h1,.inr ⟨hi,h3,v,h4,h5⟩⟩
  ·rintro ⟨q,h1,(⟨hi,h2,h5⟩|⟨hi,h3,u,h4,h5⟩)⟩
   ·exact⟨_,⟨q,h1,.inl ⟨hi,h2,rfl⟩⟩,h5⟩
   ·exact⟨u,⟨q,h1,.inr ⟨hi,h3,u,h4,rfl⟩⟩,h5⟩
 ·simp
attribute [go_sem] fOff
def TX (rows:List (List D)) (n:Int) (sz:Nat) (K:List D→Prop):Prop:=∃row,Vd rows n sz row∧K row
def iaX (P:Program) (t:TypeId) (x i:AV) (σ:St) (K:AV→Prop):Prop:=∃v,Ov P σ.T t x i v∧K v
def slX (t:TI) (K:TypeId→Prop):Prop:=match t with| .sl e=>K e|_=>False
@[go_sem] theorem dt {e:TypeId} {K:TypeId→Prop}:slX (.sl e) K=K e:=rfl
def elX (P:Program) (t:TypeId) (x i:AV) (K:AV→Prop):Prop:=∃v,Ow P t x i v∧K v
def arX (t:TI) (K:Nat→TypeId→Prop):Prop:=match t with| .arr n e=>K n e|_=>False
@[go_sem ↓] theorem jV {n:Nat} {e:TypeId} {K:Nat→TypeId→Prop}:arX (.arr n e) K=K n e:=rfl
def inX (t:TI) (K:IntKind→Prop):Prop:=match t with| .int k=>K k|_=>False
@[go_sem ↓] theorem jW {k:IntKind} {K:IntKind→Prop}:inX (.int k) K=K k:=rfl
@[go_sem] theorem fO {k:IntKind}:Lc k [] =some [] :=rfl
@[go_sem] theorem du {k:IntKind} {n:Int} {vs:List AV}:Lc k (.int k n::vs)=(Lc k vs).map (n:: ·):=by rw [Lc,if_pos rfl]
theorem bB {pos:Nat} {dst:Option Tmp} {t:TypeId} {x i:Operand}:opX P pos dst (.index t x i) σ K=elX P t (σ.e x) (σ.e i) fun v=>K (σ.put dst v):=
 FY (p:=fun v=>Ow P t (σ.e x) (σ.e i) v) (fun _=>by simp only [aop]) (fun r=>by simp only [Ev])
@[go_sem ↓] theorem jX {t:TypeId} {vs:List AV} {k:IntKind} {n:Int} {K:AV→Prop}:elX P t (.agg vs) (.int k n) K=arX (ti P t) fun l e=>inX (ti P e) fun kd=>AS (tsz P e=1) (optX (Lc kd vs) fun ns=>AS (l=ns.length) (optX (atI ns n) fun m=>K (.int kd m))):=by
 simp only [elX,Ow,arX,inX,AS,optX]
 generalize ti P t=q
 cases q with
 |arr l e=>
  simp only
  generalize ti P e=q
  cases q with
  |int kd=>exact propext ⟨fun ⟨v,⟨h1,ns,h2,h3,m,h4,h5⟩,h⟩=>⟨h1,ns,h2,h3,m,h4,h5 ▸ h⟩,fun ⟨h1,ns,h2,h3,m,h4,h⟩=>⟨_,⟨h1,ns,h2,h3,m,h4,rfl⟩,h⟩⟩
  |_=>simp
 |_=>simp
@[go_sem ↓] theorem jY {t:TypeId} {s:ByteArray} {k:IntKind} {n:Int} {K:AV→Prop}:elX P t (.str s) (.int k n) K=AS (ti P t= .str) (optX (atB s n) fun m=>K (.int .u8 m)):=by
 simp only [elX,Ow,AS,optX]
 exact propext ⟨fun ⟨v,⟨h1,m,h2,h3⟩,h⟩=>⟨h1,m,h2,h3 ▸ h⟩,fun ⟨h1,m,h2,h⟩=>⟨_,⟨h1,m,h2,rfl⟩,h⟩⟩
def XN (P:Program) (T:Nat→Option Tok) (t:TypeId) (x:AV) (l h:Option AV) (K:AV→Prop):Prop:=∃v,(Ls P t x l h v∨QR P T t x l h v)∧K v
theorem bC {pos:Nat} {dst:Option Tmp} {t:TypeId} {x:Operand} {l h:Option Operand}:opX P pos dst (.slice t x l h none) σ K=XN P σ.T t (σ.e x) (l.map σ.e) (h.map σ.e) fun v=>K (σ.put dst v):=
 FY (p:=fun v=>Ls P t (σ.e x) (l.map σ.e) (h.map σ.e) v∨QR P σ.T t (σ.e x) (l.map σ.e) (h.map σ.e) v) (fun _=>by simp only [aop]) (fun r=>by simp only [Ev])
@[go_sem ↓] theorem jZ {t:TypeId} {rows:List (List D)} {l h:Option AV} {T:Nat→Option Tok} {K:AV→Prop}:XN P T t (.ro rows) l h K=slX (ti P t) fun el=>AS (0<tsz P el) (AS (∀row ∈ rows,row.length=tsz P el) (optX (bndI l 0) fun i=>optX (bndI h rows.length) fun j=>optX (cutL rows i j) fun r=>K (.ro r))):=by
 simp only [XN,Ls,QR,or_false,slX,AS,optX]
 generalize ti P t=q
 cases q with
 |sl el=>exact propext ⟨fun ⟨v,⟨el',h0,⟨h1,h2⟩,i,h3,j,h4,r,h5,h6⟩,h7⟩=>by cases h0; exact⟨h1,h2,i,h3,j,h4,r,h5,h6 ▸ h7⟩,fun ⟨h1,h2,i,h3,j,h4,r,h5,h7⟩=>⟨_,⟨_,rfl,⟨h1,h2⟩,i,h3,j,h4,r,h5,rfl⟩,h7⟩⟩
 |_=>simp
@[go_sem ↓] theorem gm {t:TypeId} {s:ByteArray} {l h:Option AV} {T:Nat→Option Tok} {K:AV→Prop}:XN P T t (.str s) l h K=AS (ti P t= .str) (optX (bndI l 0) fun i=>optX (bndI h s.size) fun j=>optX (dA s i j) fun r=>K (.str r)):=by
 simp only [XN,Ls,QR,or_false,AS,optX]
 exact propext ⟨fun ⟨v,⟨h0,i,h3,j,h4,r,h5,h6⟩,h7⟩=>⟨h0,i,h3,j,h4,r,h5,h6 ▸ h7⟩,fun ⟨h0,i,h3,j,h4,r,h5,h7⟩=>⟨_,⟨h0,i,h3,j,h4,r,h5,rfl⟩,h7⟩⟩
@[go_sem] theorem go {d:Int}:bndI none d=some d:=rfl
@[go_sem] theorem gp {k:IntKind} {n d:Int}:bndI (some (.int k n)) d=some n:=rfl
theorem TY {pos:Nat} {dst:Option Tmp} {t:TypeId} {x i:Operand}:opX P pos dst (.indexAddr t x i) σ K=iaX P t (σ.e x) (σ.e i) σ fun v=>K (σ.put dst v):=
 FY (p:=fun v=>Ov P σ.T t (σ.e x) (σ.e i) v) (fun _=>by simp only [aop]) (fun r=>by simp only [Ev])
@[go_sem] theorem dv {t:TypeId} {rows:List (List D)} {k:IntKind} {n:Int} {K:AV→Prop}:iaX P t (.ro rows) (.int k n) σ K=slX (ti P t) fun e=>AS (0<tsz P e) (TX rows n (tsz P e) fun row=>K (.rop (row.map ofD) 0)):=by
 simp only [iaX,Ov,slX,AS,TX]
 generalize ti P t=q
 cases q with
 |sl e=>exact propext ⟨fun ⟨v,⟨h1,row,h2,h3⟩,h4⟩=>⟨h1,row,h2,h3 ▸ h4⟩,fun ⟨h1,row,h2,h3⟩=>⟨_,⟨h1,row,h2,rfl⟩,h3⟩⟩
 |_=>simp
@[go_sem] theorem bD {t:TypeId} {t':Nat} {k:IntKind} {n:Int} {K:AV→Prop}:iaX P t (.own t') (.int k n) σ K=slX (ti P t) fun e=>AS (0<tsz P e) (optX (σ.T t') fun tk=>TX tk.rows n (tsz P e) fun _=>K (.elt t' (tsz P e) n.toNat 0)):=by
 simp only [iaX,Ov,slX,AS,TX,optX]
 generalize ti P t=q
 cases q with
 |sl e=>exact propext ⟨fun ⟨v,⟨h1,tk,row,h0,h2,h3⟩,h4⟩=>⟨h1,tk,h0,row,h2,h3 ▸ h4⟩,fun ⟨h1,tk,h0,row,h2,h3⟩=>⟨_,⟨h1,tk,row,h0,h2,rfl⟩,h3⟩⟩
 |_=>simp
@[go_sem] theorem bE {t:TypeId} {t' g:Nat} {p:Pth} {k:IntKind} {n:Int} {K:AV→Prop}:iaX P t (.sub t' g p) (.int k n) σ K=slX (ti P t) fun e=>AS (0<tsz P e) (optX (subR σ.T t' g p) fun rows=>TX rows n (tsz P e) fun _=>K (.els t' g p (tsz P e) n.toNat 0)):=by
 simp only [iaX,Ov,slX,AS,TX,optX]
 generalize ti P t=q
 cases q with
 |sl e=>exact propext ⟨fun ⟨v,⟨h1,tk,row,h0,h2,h3⟩,h4⟩=>⟨h1,tk,h0,row,h2,h3 ▸ h4⟩,fun ⟨h1,tk,h0,row,h2,h3⟩=>⟨_,⟨h1,tk,row,h0,h2,rfl⟩,h3⟩⟩
 |_=>simp
def XO (v:AV) (i:Nat) (K:AV→Prop):Prop:=match v with| .tup vs=>optX vs[i]? K|_=>False
@[go_sem] theorem Y1 {vs:List AV} {i:Nat} {K:AV→Prop}:XO (.tup vs) i K=optX vs[i]? K:=rfl
theorem XP {pos:Nat} {dst:Option Tmp} {x:Operand} {i:Nat}:opX P pos dst (.extract x i) σ K=XO (σ.e x) i fun v=>K (σ.put dst v):=by
 rw [FY (p:=fun v=>XO (σ.e x) i fun u=>v=u) (fun _=>by simp only [aop]) (fun r=>by
  simp only [Ev,XO]
  generalize σ.e x=v
  cases v <;> simp [optX])]
 unfold XO
 generalize σ.e x=v
 cases v <;> simp [optX]
def evs (σ:St):List Operand→List AV
 | [] =>[]
 |x::xs=>σ.e x::evs σ xs
theorem Rx {xs:List Operand}:evs σ xs=xs.map σ.e:=by induction xs with|nil=>rfl|cons x xs ih=>simp [evs,ih]
attribute [go_sem] evs
@[go_sem ↓] theorem dw {pos:Nat} {dst:Option Tmp} {f:FuncId} {caps:List Operand}:opX P pos dst (.makeFunc (.func f) (List.toArray []) caps.toArray) σ K=Al (.fn f (evs σ caps)) fun v=>K (σ.put dst v):=by
 rw [FY (p:=fun v=>v= .fn f (evs σ caps)) (fun _=>by simp only [aop]) (fun r=>by simp [Ev,Rx])]
 simp [Al]
def LW (P:Program) (t:TypeId) (x:AV) (σ:St) (K:AV→Prop):Prop:=∃v,Lr P σ.T σ.B t x v∧K v
theorem gq {pos:Nat} {dst:Option Tmp} {x:Operand} {t:TypeId}:opX P pos dst (.call ⟨.builtin .len,List.toArray [x],List.toArray [t]⟩) σ K=LW P t (σ.e x) σ fun v=>K (σ.put dst v):=
 FY (p:=fun v=>Lr P σ.T σ.B t (σ.e x) v) (fun _=>by simp only [aop]) (fun r=>by simp only [Ev])
def OM (f:Int→Int→Int) (x y:AV) (K:AV→Prop):Prop:=match x,y with
 | .int k n,.int k' m=>k=k'∧K (.int k (f n m))
 |_,_=>False
@[go_sem] theorem Y2 {f:Int→Int→Int} {k:IntKind} {n m:Int} {K:AV→Prop}:OM f (.int k n) (.int k m) K=Al (f n m) fun r=>K (.int k r):=by simp [OM,Al]
theorem gr {pos:Nat} {dst:Option Tmp} {x y:Operand} {ts:Array TypeId}:opX P pos dst (.call ⟨.builtin .max,List.toArray [x,y],ts⟩) σ K=OM (fun n m=>if n<m then m else n) (σ.e x) (σ.e y) fun v=>K (σ.put dst v):=by
 rw [FY (p:=fun v=>OM (fun n m=>if n<m then m else n) (σ.e x) (σ.e y) fun u=>v=u) (fun _=>by simp only [aop]) (fun r=>by
  simp only [Ev,OM]
  generalize σ.e x=u
  generalize σ.e y=v
  cases u <;> cases v <;> simp [and_assoc])]
 unfold OM
 generalize σ.e x=u
 generalize σ.e y=v
 cases u <;> cases v <;> simp [and_assoc]
theorem gu {pos:Nat} {dst:Option Tmp} {x y:Operand} {ts:Array TypeId}:opX P pos dst (.call ⟨.builtin .min,List.toArray [x,y],ts⟩) σ K=OM (fun n m=>if m<n then m else n) (σ.e x) (σ.e y) fun v=>K (σ.put dst v):=by
 rw [FY (p:=fun v=>OM (fun n m=>if m<n then m else n) (σ.e x) (σ.e y) fun u=>v=u) (fun _=>by simp only [aop]) (fun r=>by
  simp only [Ev,OM]
  generalize σ.e x=u
  generalize σ.e y=v
  cases u <;> cases v <;> simp [and_assoc])]
 unfold OM
 generalize σ.e x=u
 generalize σ.e y=v
 cases u <;> cases v <;> simp [and_assoc]
end
attribute [go_sem ↓] Ym Yn Yo Yp RO TR aQ aR aS aT aU aV aW aX aY aZ aa ae dk ah U2 ai aj Ys Yt Yu Yx Yy dl am dn an dp aq Yv Yw ar aw au XL XM ay az a7 a6 a8 dt dv bD bE Y1 Y2
end Go.Proofs.YtckcfdggbbabfaaGreat.Ab
