/- The abstract walk, third part. -/
import Derived.Test.YthenkmapmnkelaaGreatDoorAbB
import Derived.Laws.BytesArg
namespace Go.Proofs.YthenkmapmnkelaaGreatDoor.Ab
set_option linter.unusedVariables false
set_option maxHeartbeats 1000000
open Go.RowKit
inductive TI where
 |int (k:IntKind)|bool|str|sl (e:TypeId)|st (fs:List (Nat × TypeId))|arr (n:Nat) (e:TypeId)|ptr (e:TypeId)|map (k e:TypeId)|fn|other
def ti (P:Program) (t:TypeId):TI:=
 match P.underlying t with
 |some (.int k)=>.int k
 |some .bool =>.bool
 |some .string =>.str
 |some (.slice e)=>.sl e
 |some (.struct fs)=>.st (fs.toList.map fun f=>(f.offset,f.type))
 |some (.array n e)=>.arr n e
 |some (.pointer e)=>.ptr e
 |some (.map k e)=>.map k e
 |some (.func _ _ _)=>.fn
 |_=>.other
def tsz (P:Program) (t:TypeId):Nat:=((P.info? t).map (·.size)).getD 0
def TI.isAgg:TI→Bool
 | .st _| .arr _ _=>true
 |_=>false
def TI.sc:TI→Bool
 | .int _| .bool | .str | .sl _| .ptr _| .map _ _| .fn =>true
 |_=>false
def tz (P:Program) (t:TypeId):List Value:=(((P.info? t).bind (·.zero)).map fun v=>v.cells.toList).getD []
def tz1 (P:Program) (t:TypeId):Option Value:=(P.info? t).bind (·.zero)
inductive RV where
 |int (k:IntKind) (n:Int)
 |bool (b:Bool)
 |str (s:ByteArray)
 |ow (ap:Option Nat) (rows:List (List D))
 |ro (rows:List (List D))
 |agg (vs:List RV)
 |tup (vs:List RV)
 |nilp
mutual
def RSim (w:World):RV→Value→List Nat→Prop
 | .int k n,v,fp=>v= .int k n∧(Lit.int k n).wf =true∧fp=[]
 | .bool b,v,fp=>v= .bool b∧fp=[]
 | .str s,v,fp=>v= .string s∧s.size≤maxLen∧fp=[]
 | .ow ap rows,v,fp=>Ae default w ⟨rows,ap,0,.no⟩ v fp
 | .ro rows,v,fp=>Rep w (.sl rows) v∧fp=[]
 | .agg vs,v,fp=>∃us:List Value,v= .agg us.toArray∧PE w vs us fp
 | .tup vs,v,fp=>∃us:List Value,v= .tuple us.toArray∧PE w vs us fp
 | .nilp,v,fp=>v= .pointer none∧fp=[]
def PE (w:World):List RV→List Value→List Nat→Prop
 | [],us,fp=>us=[] ∧fp=[]
 |r::rs,us,fp=>∃u us' f1 f2,us=u::us'∧RSim w r u f1∧PE w rs us' f2∧fp=f1++f2
end
def GU (P:Program) (f:FuncId):Bool:=(P.funcs[f]?).any fun fn=>fn.body.isSome&& !(fn.name == "runtime.NumGoroutine")
def AC (P:Program) (f:FuncId) (args:List AV) (r:RV):Prop:=
 GU P f=true∧∀ (w:World) (us:List Value),w.ShapedOpen P→P.low≤w.heap.size→Amb P w→AH w Gh.none args us→
  Calls P f us.toArray w (fun e w'=>∃v fp,e= .returned v∧RSim w' r v fp∧fp.Nodup∧(∀g ∈ fp,w.heap.size≤g)∧Below w.heap.size w w')
def look {α:Type}:List (Nat × α)→Nat→Option α
 | [],_=>none
 |(j,x)::r,i=>if i=j then some x else look r i
structure St where
 s:List (Nat × AV)
 t:List (Nat × Option Tok)
 b:List (Nat × Option (List AV))
def St.T (σ:St) (t:Nat):Option Tok:=(look σ.t t).join
def St.B (σ:St) (b:Nat):Option (List AV):=(look σ.b b).join
def St.g (σ:St) (i:Nat):AV:=(look σ.s i).getD .any
mutual
def BW:Value→AV
 | .int k n=>.int k n
 | .bool b=>.bool b
 | .string s=>.str s
 | .slice none 0 0=>.nils
 | .pointer none=>.nilp
 | .agg cs=>.agg (H7 cs.toList)
 |_=>.any
def H7:List Value→List AV
 | [] =>[]
 |v::vs=>BW v::H7 vs
end
def St.e (σ:St):Operand→AV
 | .tmp t=>σ.g t
 | .const v=>BW v
 | .func f=>.fn f []
 | .global _=>.any
def St.put (σ:St) (dst:Option Tmp) (v:AV):St:=
 match dst with
 |some d=> {σ with s:=(d,v)::σ.s}
 |none=>σ
mutual
def ofD:D→AV
 | .int k n=>.int k n
 | .bool b=>.bool b
 | .str s=>.str s
 | .sl rows=>.ro rows
 | .gone =>.any
 | .fz rows=>.ro rows
 | .ptr ds=>.rop (L5 ds) 0
 | .nilp =>.nilp
 | .nl =>.ro []
def L5:List D→List AV
 | [] =>[]
 |d::ds=>ofD d::L5 ds
end
theorem PG:∀ds:List D,L5 ds=ds.map ofD
 | [] =>by rfl
 |d::ds=>by simp only [L5,List.map_cons,PG ds]
def ofS:D→AV
 | .int k n=>.int k n
 | .bool b=>.bool b
 | .str s=>.str s
 | .sl _=>.any
 | .gone =>.any
 | .fz rows=>.ro rows
 | .ptr ds=>.rop (L5 ds) 0
 | .nilp =>.nilp
 | .nl =>.any
def ofT (t g:Nat) (p:Pth) (sz i j:Nat):D→AV
 | .int k n=>.int k n
 | .bool b=>.bool b
 | .str s=>.str s
 | .sl _=>.sub t g (p++[(sz,i,j)])
 | .gone =>.any
 | .fz rows=>.ro rows
 | .ptr ds=>.rop (L5 ds) 0
 | .nilp =>.nilp
 | .nl =>.sub t g (p++[(sz,i,j)])
def Xv (t g:Nat) (p:Pth) (sz i:Nat):Nat→List D→List AV
 |_,[] =>[]
 |j,d::ds=>ofT t g p sz i j d::Xv t g p sz i (j+1) ds
def Qb (t g:Nat) (p:Pth) (sz i:Nat) (ds:List D) (off n:Nat):List AV:=Xv t g p sz i off ((ds.drop off).take n)
def getP:Pth→List (List D)→Option (List (List D))
 | [],rows=>some rows
 | (sz,i,j)::p,rows=>match rows[i]? with
  |some row=>if row.length=sz then (match row[j]?.bind Hf with
   |some r1=>getP p r1
   |none=>none) else none
  |none=>none
def subR (T:Nat→Option Tok) (t g:Nat) (p:Pth):Option (List (List D)):=
 match T t with
 |some tk=>if tk.gen=g then getP p tk.rows else none
 |none=>none
def zer (z:ZK) (r:List (List D)):List (List D):=match z with
 | .yes =>erR r
 | .no =>r
 | .nl =>erR r
def Tok.er (tk:Tok) (r:List (List D)):List (List D):=zer tk.z r
def Tok.rd (tk:Tok):List (List D):=zer tk.z tk.rows
def subE (T:Nat→Option Tok) (t g:Nat) (p:Pth):Option (List (List D)):=
 match T t with
 |some tk=>if tk.gen=g then (getP p tk.rows).map tk.er else none
 |none=>none
def Fs (vs:List AV) (off n:Nat):List AV:=(vs.drop off).take n
mutual
def unD:AV→Option D
 | .int k n=>some (.int k n)
 | .bool b=>some (.bool b)
 | .str s=>some (.str s)
 | .ro rows=>some (.sl rows)
 | .nilp =>some .nilp
 | .rop vs off=>match off with
  |0=>(unDs vs).map .ptr
  |_+1=>none
 |_=>none
def unDs:List AV→Option (List D)
 | [] =>some []
 |v::vs=>match unD v,unDs vs with
  |some d,some ds=>some (d::ds)
  |_,_=>none
end
def toD (T:Nat→Option Tok):AV→Option D
 | .int k n=>some (.int k n)
 | .bool b=>some (.bool b)
 | .str s=>some (.str s)
 | .ro rows=>some (.sl rows)
 | .nils =>some (.sl [])
 | .own t=>(T t).map fun tk=>.sl tk.rd
 | .nilp =>some .nilp
 | .rop vs off=>unD (.rop vs off)
 |_=>none
def toDs (T:Nat→Option Tok):List AV→Option (List D)
 | [] =>some []
 |a::as=>match toD T a,toDs T as with
  |some d,some ds=>some (d::ds)
  |_,_=>none
mutual
def CC:AV→Bool
 | .int _ _| .bool _| .str _| .ro _| .nilp =>true
 | .rop vs _| .fn _ vs| .agg vs=>Cp vs
 |_=>false
def Cp:List AV→Bool
 | [] =>true
 |v::vs=>CC v&&Cp vs
end
def BD (sz:Nat):Nat→List D→List (List D)
 |0,_=>[]
 |n+1,ds=>ds.take sz::BD sz n (ds.drop sz)
def toA (T:Nat→Option Tok) (B:Nat→Option (List AV)):AV→Option AV
 | .own t=>(T t).map fun tk=>.ro tk.rd
 | .nils =>some (.ro [])
 | .int k n=>some (.int k n)
 | .bool b=>some (.bool b)
 | .str s=>some (.str s)
 | .ro rows=>some (.ro rows)
 | .nilp =>some .nilp
 | .rop vs off=>if Cp vs=true then some (.rop vs off) else none
 | .fn f vs=>if Cp vs=true then some (.fn f vs) else none
 | .mpr _=>some .any
 | .sub t g p=>(subE T t g p).map .ro
 | .bsl b n sz=>match B b with
  |some vs=>match toDs T vs with
   |some ds=>if ds.length=n*sz then some (.ro (BD sz n ds)) else none
   |none=>none
  |none=>none
 |_=>none
def toAs (T:Nat→Option Tok) (B:Nat→Option (List AV)):List AV→Option (List AV)
 | [] =>some []
 |a::as=>match toA T B a,toAs T B as with
  |some d,some ds=>some (d::ds)
  |_,_=>none
def parR (sz i n:Nat) (rows:List (List D)):Option (List (List D)):=if (∀row ∈ rows,row.length=sz)∧i+n≤rows.length then some ((rows.drop i).take n) else none
mutual
def cl (T:Nat→Option Tok) (B:Nat→Option (List AV)):AV→Option AV
 | .int k n=>some (.int k n)
 | .bool b=>some (.bool b)
 | .str s=>some (.str s)
 | .ro rows=>some (.ro rows)
 | .nils =>some (.ro [])
 | .nilp =>some .nilp
 | .own t=>(T t).map fun tk=>.ro tk.rd
 | .rop vs off=>(cls T B vs).map fun vs=>.rop vs off
 | .box b off=>match B b with
  |some vs=>(toAs T B vs).map fun ds=>.rop ds off
  |none=>none
 | .elt t sz i off=>match T t with
  |some tk=>match tk.rows[i]? with
   |some row=>if row.length=sz then some (.rop (row.map ofD) off) else none
   |none=>none
  |none=>none
 | .sub t g p=>(subE T t g p).map .ro
 | .par t sz i n=>match T t with
  |some tk=>(parR sz i n tk.rows).map fun r=>.ro (tk.er r)
  |none=>none
 | .els t g p sz i off=>match subR T t g p with
  |some rows=>match rows[i]? with
   |some row=>if row.length=sz then some (.rop (row.map ofD) off) else none
   |none=>none
  |none=>none
 | .bsl b n sz=>match B b with
  |some vs=>match toDs T vs with
   |some ds=>if ds.length=n*sz then some (.ro (BD sz n ds)) else none
   |none=>none
  |none=>none
 | .agg vs=>(cls T B vs).map .agg
 | .fn f caps=>(cls T B caps).map (.fn f)
 | .tup _=>none
 | .any =>none
 | .mpr _=>some .any
 | .mpc q rows=>some (.mpc q rows)
def cls (T:Nat→Option Tok) (B:Nat→Option (List AV)):List AV→Option (List AV)
 | [] =>some []
 |a::as=>match cl T B a,cls T B as with
  |some x,some xs=>some (x::xs)
  |_,_=>none
end
structure Res where
 v:AV
 t:List (Nat × Tok)
 b:List (Nat × List AV)
mutual
def conv (n:Nat):RV→AV × List (Nat × Tok)
 | .int k x=>(.int k x,[])
 | .bool b=>(.bool b,[])
 | .str s=>(.str s,[])
 | .ow ap rows=>(.own n,[(n,⟨rows,ap,0,.no⟩)])
 | .ro rows=>(.any,[])
 | .agg vs=>let r:=G4 n vs; (.agg r.1,r.2)
 | .tup vs=>let r:=G4 n vs; (.tup r.1,r.2)
 | .nilp =>(.nilp,[])
def G4 (n:Nat):List RV→List AV × List (Nat × Tok)
 | [] =>([],[])
 |r::rs=>let x:=conv n r; let y:=G4 (n+x.2.length) rs; (x.1 ::y.1,x.2 ++y.2)
end
def Lx (op:BinOp) (k:IntKind) (a b:Int):Option AV:=
 match op with
 | .add =>some (.int k (k.wrap (a+b)))
 | .sub =>some (.int k (k.wrap (a - b)))
 | .mul =>some (.int k (k.wrap (a*b)))
 | .eql =>some (.bool (decide (a=b)))
 | .neq =>some (.bool (!decide (a=b)))
 | .lss =>some (.bool (decide (a<b)))
 | .leq =>some (.bool (decide (a≤b)))
 | .gtr =>some (.bool (decide (b<a)))
 | .geq =>some (.bool (decide (b≤a)))
 |_=>none
inductive KK where
 |int (k:IntKind)
 |bool
 |str
def PH (P:Program) (rec:TypeId→Option (List KK)):Nat→List Field→Option (List KK)
 |_,[] =>some []
 | i,f::fs=>
  if f.offset=i then
   match rec f.type,PH P rec (i+P.cellsOf f.type) fs with
   |some a,some b=>some (a++b)
   |_,_=>none
  else none
def KD (P:Program):Nat→TypeId→Option (List KK)
 |0,_=>none
 | d+1,t=>
  match (match P.underlying t with
   |some .bool =>some [KK.bool]
   |some (.int k)=>some [KK.int k]
   |some .string =>some [KK.str]
   |some (.struct fs)=>if fs.all (·.name != "_")=true then PH P (KD P d) 0 fs.toList else none
   |_=>none) with
  |some ks=>if P.cellsOf t=ks.length then some ks else none
  |none=>none
def H8 (P:Program) (t:TypeId):Option (List KK):=
 match P.underlying t with
 |some (.struct _)=>if P.keyTypeAt 4 t=true∧P.eqGuardType P.depth t=false then KD P 4 t else none
 |_=>none
def DJ:List KK→List AV→List AV→Option Bool
 | [],[],[] =>some true
 | .int k::ks,.int k1 a::xs,.int k2 b::ys=>if k1=k∧k2=k then (DJ ks xs ys).map (decide (a=b)&& ·) else none
 | .bool ::ks,.bool a::xs,.bool b::ys=>(DJ ks xs ys).map (a == b&& ·)
 | .str ::ks,.str a::xs,.str b::ys=>(DJ ks xs ys).map (a.toList == b.toList&& ·)
 |_,_,_=>none
def Bin (P:Program) (op:BinOp) (t:TypeId) (x y:AV) (v:AV):Prop:=
 match x,y with
 | .agg xs,.agg ys=>∃ks b,H8 P t=some ks∧DJ ks xs ys=some b∧match op with
  | .eql =>v= .bool b
  | .neq =>v= .bool (!b)
  |_=>False
 | .int k a,.int k' b=>match op with
  | .shl =>0≤b∧v= .int k (k.wrap (a*2 ^ min b.toNat k.bits))
  | .shr =>0≤b∧v= .int k (a / 2 ^ min b.toNat k.bits)
  | .and =>k=k'∧v= .int k (bits .and k a b)
  | .or =>k=k'∧v= .int k (bits .or k a b)
  | .xor =>k=k'∧v= .int k (bits .xor k a b)
  | .andNot =>k=k'∧v= .int k (bits .andNot k a b)
  | .quo =>k=k'∧b≠0∧v= .int k (k.wrap (a.tdiv b))
  | .rem =>k=k'∧b≠0∧v= .int k (a.tmod b)
  |_=>k=k'∧Lx op k a b=some v
 | .bool a,.bool b=>match op,ti P t with
  | .eql,.bool =>v= .bool (a == b)
  | .neq,.bool =>v= .bool (!(a == b))
  |_,_=>False
 | .str a,.str b=>match op with
  | .eql =>v= .bool (a.toList == b.toList)
  | .neq =>v= .bool (!(a.toList == b.toList))
  | .add =>a.size+b.size≤maxLen∧v= .str (a++b)
  |_=>False
 | .nilp,.nilp =>match op,ti P t with
  | .eql,.ptr _=>v= .bool true
  | .neq,.ptr _=>v= .bool false
  |_,_=>False
 | .box _ _,.nilp | .rop _ _,.nilp | .nilp,.box _ _| .nilp,.rop _ _=>match op,ti P t with
  | .eql,.ptr _=>v= .bool false
  | .neq,.ptr _=>v= .bool true
  |_,_=>False
 |_,_=>False
def Uno (op:UnOp) (x:AV) (v:AV):Prop:=
 match op,x with
 | .not,.bool b=>v= .bool (!b)
 | .neg,.int k n=>v= .int k (k.wrap (0 - n))
 | .xor,.int k n=>v= .int k (bits .xor k (if k.signed then -1 else k.max) n)
 |_,_=>False
def SB (P:Program) (T:Nat→Option Tok) (B:Nat→Option (List AV)) (t:TypeId) (x:AV) (v:AV):Prop:=
 match ti P t,x with
 | .str,.str s=>v= .int .i64 s.size
 | .sl _,.ro rows=>v= .int .i64 rows.length
 | .sl _,.nils =>v= .int .i64 0
 | .sl _,.bsl _ n _=>v= .int .i64 n
 | .sl _,.own t=>∃tk,T t=some tk∧v= .int .i64 tk.rows.length
 | .sl _,.sub t g p=>∃rows,subR T t g p=some rows∧v= .int .i64 rows.length
 | .map _ _,.mpr b=>∃q rows,B b=some [.mpc q rows] ∧v= .int .i64 rows.length
 |_,_=>False
def fOff (P:Program) (s:TypeId) (f:Nat):Option (Nat × TypeId):=
 match ti P s with
 | .st fs=>fs[f]?
 |_=>none
def Ju (P:Program) (T:Nat→Option Tok) (B:Nat→Option (List AV)) (t:TypeId) (a v:AV):Prop:=
 match a with
 | .box b off=>∃vs,B b=some vs∧isMp vs=false∧if (ti P t).isAgg =true then off+tsz P t≤vs.length∧v= .agg (Fs vs off (tsz P t)) else (ti P t).sc =true∧vs[off]? =some v
 | .rop vs off=>if (ti P t).isAgg =true then off+tsz P t≤vs.length∧v= .agg (Fs vs off (tsz P t)) else (ti P t).sc =true∧vs[off]? =some v
 | .elt t' sz i off=>∃tk row,T t'=some tk∧tk.rows[i]? =some row∧row.length=sz∧if (ti P t).isAgg =true then off+tsz P t≤sz∧v= .agg (Qb t' tk.gen [] sz i row off (tsz P t)) else (ti P t).sc =true∧∃d,row[off]? =some d∧v=ofT t' tk.gen [] sz i off d
 | .els t' g p sz i off=>∃rows row,subR T t' g p=some rows∧rows[i]? =some row∧row.length=sz∧if (ti P t).isAgg =true then off+tsz P t≤sz∧v= .agg (Qb t' g p sz i row off (tsz P t)) else (ti P t).sc =true∧∃d,row[off]? =some d∧v=ofT t' g p sz i off d
 |_=>False
def bO (rows:List (List D)) (n:Int) (sz:Nat) (row:List D):Prop:=0≤n∧rows[n.toNat]? =some row∧row.length=sz
def SC (P:Program) (T:Nat→Option Tok) (t:TypeId) (x i v:AV):Prop:=
 match ti P t,x,i with
 | .sl e,.ro rows,.int _ n=>0<tsz P e∧∃row,bO rows n (tsz P e) row∧v= .rop (row.map ofD) 0
 | .sl e,.own t,.int _ n=>0<tsz P e∧∃tk row,T t=some tk∧bO tk.rows n (tsz P e) row∧v= .elt t (tsz P e) n.toNat 0
 | .sl e,.sub t g p,.int _ n=>0<tsz P e∧∃rows row,subR T t g p=some rows∧bO rows n (tsz P e) row∧v= .els t g p (tsz P e) n.toNat 0
 | .arr l e,.box b off,.int _ n=>0<tsz P e∧(0≤n∧n<(l:Int))∧v= .box b (off+n.toNat*tsz P e)
 |_,_,_=>False
def N2 (k:IntKind):List AV→Option (List Int)
 | [] =>some []
 | .int k' n::vs=>if k'=k then (N2 k vs).map (n:: ·) else none
 |_::_=>none
def atI (l:List Int) (i:Int):Option Int:=if 0≤i then l[i.toNat]? else none
def PI:List AV→Option (List ByteArray)
 | [] =>some []
 | .str s::vs=>(PI vs).map (s:: ·)
 |_::_=>none
def atS (l:List ByteArray) (i:Int):Option ByteArray:=if 0≤i then l[i.toNat]? else none
def atB (s:ByteArray) (i:Int):Option Int:=if 0≤i then s[i.toNat]?.map fun b=>(b.toNat:Int) else none
def VQ (P:Program) (t:TypeId) (x i v:AV):Prop:=
 match x,i with
 | .agg vs,.int _ k=>match ti P t with
  | .arr n el=>match ti P el with
   | .int kd=>tsz P el=1∧∃ns,N2 kd vs=some ns∧n=ns.length∧∃m,atI ns k=some m∧v= .int kd m
   | .str =>tsz P el=1∧∃ns,PI vs=some ns∧n=ns.length∧∃m,atS ns k=some m∧v= .str m
   | .ptr _=>tsz P el=1∧n=vs.length∧0≤k∧vs[k.toNat]? =some v
   |_=>False
  |_=>False
 | .str s,.int _ k=>ti P t= .str ∧∃m,atB s k=some m∧v= .int .u8 m
 |_,_=>False
def bndI:Option AV→Int→Option Int
 |none,d=>some d
 |some (.int _ n),_=>some n
 |_,_=>none
def cutL {α:Type} (l:List α) (i j:Int):Option (List α):=if 0≤i∧i≤j∧j≤l.length then some ((l.drop i.toNat).take (j - i).toNat) else none
def pY (s:ByteArray) (i j:Int):Option ByteArray:=if 0≤i∧i≤j∧j≤s.size then some (s.extract i.toNat j.toNat) else none
def Qc (P:Program) (t:TypeId) (x:AV) (l h:Option AV) (v:AV):Prop:=
 match x with
 | .ro rows=>∃el,ti P t= .sl el∧(0<tsz P el∧∀row ∈ rows,row.length=tsz P el)∧∃i,bndI l 0=some i∧∃j,bndI h rows.length=some j∧∃r,cutL rows i j=some r∧v= .ro r
 | .str s=>ti P t= .str ∧∃i,bndI l 0=some i∧∃j,bndI h s.size=some j∧∃r,pY s i j=some r∧v= .str r
 |_=>False
def Wa (P:Program) (T:Nat→Option Tok) (t:TypeId) (x:AV) (l h:Option AV) (v:AV):Prop:=
 match x with
 | .own m=>∃tk,T m=some tk∧∃el,ti P t= .sl el∧(0<tsz P el∧∀row ∈ tk.rows,row.length=tsz P el)∧∃i,bndI l 0=some i∧∃j,bndI h tk.rows.length=some j∧∃r,cutL tk.rows i j=some r∧v= .par m (tsz P el) i.toNat (j - i).toNat
 |_=>False
def MN (sz:Nat) (el:TypeId):Nat→Nat→List (Nat × TypeId)
 |0,_=>[]
 |n+1,off=>(off,el)::MN sz el n (off+sz)
def cellsOf:AV→Option (List AV)
 | .agg vs=>if PD vs=true then some vs else none
 | .any =>none
 | .tup _=>none
 | .mpc _ _=>none
 |v=>some [v]
def zAV:Value→AV
 | .int k n=>if n=0 then .int k 0 else .any
 | .bool b=>.bool b
 | .string s=>if s.size=0 then .str s else .any
 | .slice none 0 0=>.nils
 | .pointer none=>.nilp
 |_=>.any
def Gh.pin (γ:Gh):Gh:= {γ with tl:=fun t=>γ.tl t∧t<1000,bl:=fun b=>γ.bl b∧b<1000}
theorem Gh.pin_ext (γ:Gh):Gh.Ext γ.pin γ:=⟨fun _ h=>h.1,fun _ _=>rfl,fun _ h=>h.1,fun _ _=>rfl,fun _ _=>rfl,fun _ _ _ h=>h,fun _ _ _ _=>rfl,Keeps.refl _⟩
def AG (P:Program) (f:FuncId) (args:List AV) (pt:List (Nat × Tok)) (pb:List (Nat × List AV)) (r:AV) (qt:List (Nat × Tok)) (qb:List (Nat × List AV)):Prop:=
 GU P f=true∧∀ (cx:Cx) (γ:Gh) (us:List Value),cx.P=P→cx.g0=γ.pin→(∀t,γ.tl t↔(look pt t).isSome =true)→(∀b,γ.bl b↔(look pb b).isSome =true)→
  OSim cx γ (look pt) (look pb) cx.we→AH γ.vw γ args us→
  Calls P f us.toArray cx.we (fun e w'=>∃v γ',e= .returned v∧OSim cx γ' (look qt) (look qb) w'∧VSim γ'.vw γ' r v)
def AV.isNils:AV→Bool
 | .nils =>true
 |_=>false
def bP (a:AV):Bool:=CC a||a.isNils
def AV.aggN:AV→Bool
 | .agg vs=>vs.all bP
 |_=>false
def bQ (a:AV):Bool:=bP a||a.aggN
def AV.tupN:AV→Bool
 | .tup vs=>vs.all bQ
 |_=>false
def VS (a:AV):Bool:=bQ a||a.tupN
def lq (P:Program) (pos:Nat) (f:FuncId) (args:List AV) (r:Res):Prop:=
 ∃as rv qt qb,AG P f as [] [] rv qt qb∧cls (fun _=>none) (fun _=>none) args=some as∧
  ((qt=[] ∧VS rv=true∧r=⟨rv,[],[]⟩)∨(∃q tk,qt=[(q,tk)] ∧rv= .own q∧tk.gen=0∧r=⟨.own (pos*16),[(pos*16,tk)],[]⟩)∨(∃q k,rv= .box q k)∧r=⟨.rop [] 0,[],[]⟩)
def S9 (P:Program) (T:Nat→Option Tok) (B:Nat→Option (List AV)) (pos:Nat) (g:AV) (args:List AV) (r:Res):Prop:=
 match g with
 | .fn f caps=>N1 caps=true∧((match cls T B (fnA caps args) with
  |some as=>∃rv,AC P f as rv∧r=⟨(conv (pos*16) rv).1,(conv (pos*16) rv).2,[]⟩
  |none=>False)∨lq P pos f (fnA caps args) r)
 |_=>False
def Du (sz:Nat):Nat→List (Nat × AV)→Option (List AV)
 |_,[] =>some []
 | i,(j,v)::r=>if i=j then
   match cellsOf v,Du sz (i+1) r with
   |some vs,some ws=>if vs.length=sz then some (vs++ws) else none
   |_,_=>none
  else none
def fY (sz n:Nat) (z:List Value) (parts:List (Nat × AV)) (pos:Nat) (r:Res):Prop:=
 parts.length=n∧n*sz≤16777216∧0<sz∧z.length=sz∧match Du sz 0 parts with
  |some vs=>r=⟨.bsl pos n sz,[],[(pos,vs)]⟩
  |none=>False
def splice {α:Type}:List α→Nat→List α→List α
 |vs,_,[] =>vs
 |vs,off,c::cs=>splice (vs.set off c) (off+1) cs
def LK (P:Program) (fs:List (Nat × TypeId)):List AV→List (Nat × AV)→Option (List AV)
 |vs,[] =>some vs
 |vs,(f,v)::r=>match fs[f]?,cellsOf v with
  |some q,some cs=>if cs.length=tsz P q.2 ∧q.1 +cs.length≤vs.length then LK P fs (splice vs q.1 cs) r else none
  |_,_=>none
def Ft (z:ZK):D:=match z with
 | .yes =>.fz []
 | .no =>.sl []
 | .nl =>.nl
def zD (q:ZK):Value→Option D
 | .int k n=>if n=0 then some (.int k 0) else none
 | .bool b=>some (.bool b)
 | .string s=>if s.size=0 then some (.str s) else none
 | .slice none 0 0=>some (Ft q)
 | .pointer none=>some .nilp
 |_=>none
def zDs (q:ZK):List Value→Option (List D)
 | [] =>some []
 |v::vs=>match zD q v,zDs q vs with
  |some d,some ds=>some (d::ds)
  |_,_=>none
def VT:List AV→Option (List D)
 | [] =>some []
 | .int k n::vs=>(VT vs).map (.int k n:: ·)
 |_::_=>none
def keyD:AV→Option D
 | .int k n=>some (.int k n)
 | .str s=>some (.str s)
 | .agg vs=>(VT vs).map .ptr
 |_=>none
def Jv:List D→List D→Bool
 | [],[] =>true
 | .int k n::ds,.int k' n'::ds'=>k == k'&&decide (n=n')&&Jv ds ds'
 |_,_=>false
def Gp:D→D→Bool
 | .int k n,.int k' n'=>k == k'&&decide (n=n')
 | .str s,.str s'=>s.toList == s'.toList
 | .ptr ds,.ptr ds'=>Jv ds ds'
 |_,_=>false
def GQ (k:D):List (List D)→Option D
 | [k',d] ::rows=>if Gp k k'=true then some d else GQ k rows
 |_::rows=>GQ k rows
 | [] =>none
def mput (k d:D):List (List D)→List (List D)
 | [k',d'] ::rows=>if Gp k k'=true then [k,d] ::rows else [k',d'] ::mput k d rows
 |r::rows=>r::mput k d rows
 | [] =>[[k,d]]
def VU (P:Program):Nat→List Field→Option (List IntKind)
 |_,[] =>some []
 |off,f::fs=>match P.underlying f.type with
  |some (.int k)=>if f.offset=off∧P.cellsOf f.type=1 then (VU P (off+1) fs).map (k:: ·) else none
  |_=>none
def Zk (P:Program) (t:TypeId):Option KT:=match P.underlying t with
 |some (.struct fs)=>match VU P 0 fs.toList with
  |some ks=>if P.keyTypeAt 2 t=true∧P.keyType t=true∧P.cellsOf t=ks.length∧0<P.types.size then some (.wide ks) else none
  |none=>none
 |_=>none
def SD (P:Program) (t:TypeId):Option KT:=match ti P t with
 | .int k=>some (.int k)
 | .str =>some .str
 |_=>Zk P t
def bR (P:Program) (t:TypeId):Option KT:=match ti P t with
 | .map k _=>SD P k
 |_=>none
def RZ:List IntKind→List D→Bool
 | [],[] =>true
 |k::ks,.int k' _::ds=>k' == k&&RZ ks ds
 |_,_=>false
def Ux:KT→D→Bool
 | .int k,.int k' _=>k' == k
 | .str,.str _=>true
 | .wide ks,.ptr ds=>RZ ks ds
 |_,_=>false
def Ra (P:Program) (B:Nat→Option (List AV)) (t:TypeId) (x i:AV) (ok:Bool) (v:AV):Prop:=
 match ti P t,x with
 | .map kt et,.mpr b=>∃q rows,B b=some [.mpc q rows] ∧SD P kt=some q∧∃k,keyD i=some k∧Ux q k=true∧∃z,tz1 P et=some z∧
   v=(if ok=true then .tup [((GQ k rows).map ofD).getD (zAV z),.bool (GQ k rows).isSome] else ((GQ k rows).map ofD).getD (zAV z))
 |_,_=>False
def leX (n m:Int):Prop:=n≤m
def lr (P:Program) (el:TypeId) (pos:Nat) (n m:Int) (r:Res):Prop:=
 leX n m∧0≤n∧m.toNat*P.bytesOf el≤281474976710656∧m≤4611686018427387904∧0<tsz P el∧(tz P el).length =tsz P el∧∃q z,zDs q (tz P el)=some z∧r=⟨.own (pos*16),[(pos*16,⟨List.replicate n.toNat z,some (tsz P el),0,q⟩)],[]⟩
def D.flat:D→Bool
 | .sl _=>false
 | .gone =>false
 | .fz _=>false
 | .ptr _=>false
 | .nl =>false
 |_=>true
def bS:AV→Bool
 | .nils =>true
 | .bsl _ n _=>n == 0
 |_=>false
def fz1:D→D
 | .sl r=>.fz r
 | .int k n=>.int k n
 | .bool b=>.bool b
 | .str s=>.str s
 | .gone =>.gone
 | .fz r=>.fz r
 | .ptr ds=>.ptr ds
 | .nilp =>.nilp
 | .nl =>.fz []
def fzC (ds:List D):List D:=ds.map fz1
def fzR (rows:List (List D)):List (List D):=rows.map fzC
def roZ (z:ZK) (sz:Nat) (rows:List (List D)) (K:List (List D)→Prop):Prop:=match z with
 | .no =>(∀row ∈ rows,row.length=sz∧∀d ∈ row,d.flat=true)∧K rows
 | .nl =>(∀row ∈ rows,row.length=sz∧∀d ∈ row,d.flat=true)∧K rows
 | .yes =>(∀row ∈ rows,row.length=sz∧∀d ∈ row,d≠ .gone)∧K (fzR rows)
def pZ (P:Program) (pos:Nat) (t:TypeId) (x y:AV) (r:Res):Prop:=
 bS x=true∧match ti P t,y with
 | .sl e,.ro rows=>(0<tsz P e∧(tz P e).length =tsz P e)∧∃z,roZ z (tsz P e) rows fun rows=>(rows.length*P.bytesOf e≤140737488355328∧rows.length≤maxLen)∧r=⟨.own (pos*16),[(pos*16,⟨rows,some (tsz P e),0,z⟩)],[]⟩
 |_,_=>False
def Hm (ns:List Int):List (List D):=ns.map fun n=>[.int .u8 n]
def Ev (P:Program) (pos:Nat) (o:Oper) (e:Operand→AV) (T:Nat→Option Tok) (B:Nat→Option (List AV)) (r:Res):Prop:=
 match o.op with
 | .move x| .assign x=>r=⟨e x,[],[]⟩
 | .pick c a b=>∃t,e c= .bool t∧r=⟨if t then e a else e b,[],[]⟩
 | .box t x=>match cellsOf (e x) with
  |some vs=>r=⟨.box pos 0,[],[(pos,vs)]⟩
  |none=>False
 | .load t a=>∃v,Ju P T B t (e a) v∧r=⟨v,[],[]⟩
 | .nilCheck x=>match e x with
  | .box b off=>r=⟨.box b off,[],[]⟩
  | .rop ds off=>r=⟨.rop ds off,[],[]⟩
  | .elt t sz i off=>r=⟨.elt t sz i off,[],[]⟩
  | .els t g p sz i off=>r=⟨.els t g p sz i off,[],[]⟩
  |_=>False
 | .binOp op t x y _=>∃v,Bin P op t (e x) (e y) v∧r=⟨v,[],[]⟩
 | .unOp op _ x=>∃v,Uno op (e x) v∧r=⟨v,[],[]⟩
 | .convert s d x=>match ti P d,e x with
  | .int k,.int _ n=>(ti P s).sc =true∧r=⟨.int k (k.wrap n),[],[]⟩
  | .str,y=>∃el ns,ti P s= .sl el∧ti P el= .int .u8 ∧ns.length≤maxLen∧cl T B y=some (.ro (Hm ns))∧r=⟨.str (strOfNums ns),[],[]⟩
  |_,_=>False
 | .fieldAddr s x f=>match e x with
  | .box b off=>∃q,fOff P s f=some q∧0<tsz P q.2 ∧r=⟨.box b (off+q.1),[],[]⟩
  | .rop ds off=>∃q,fOff P s f=some q∧0<tsz P q.2 ∧r=⟨.rop ds (off+q.1),[],[]⟩
  | .elt t sz i off=>∃q,fOff P s f=some q∧0<tsz P q.2 ∧r=⟨.elt t sz i (off+q.1),[],[]⟩
  | .els t g p sz i off=>∃q,fOff P s f=some q∧0<tsz P q.2 ∧r=⟨.els t g p sz i (off+q.1),[],[]⟩
  |_=>False
 | .field s x f=>match e x with
  | .agg vs=>∃q,fOff P s f=some q∧if (ti P q.2).isAgg =true then q.1 +tsz P q.2 ≤vs.length∧r=⟨.agg (Fs vs q.1 (tsz P q.2)),[],[]⟩ else (ti P q.2).sc =true∧∃v,vs[q.1]? =some v∧r=⟨v,[],[]⟩
  |_=>False
 | .indexAddr t x i=>∃v,SC P T t (e x) (e i) v∧r=⟨v,[],[]⟩
 | .index t x i=>∃v,VQ P t (e x) (e i) v∧r=⟨v,[],[]⟩
 | .slice t x l h none=>∃v,(Qc P t (e x) (l.map e) (h.map e) v∨Wa P T t (e x) (l.map e) (h.map e) v)∧r=⟨v,[],[]⟩
 | .extract x i=>match e x with
  | .tup vs=>∃v,vs[i]? =some v∧r=⟨v,[],[]⟩
  |_=>False
 | .makeFunc (.func f) first caps=>r=⟨.fn f (.agg (first.toList.map e)::caps.toList.map e),[],[]⟩
 | .call {callee:=.builtin .len,args,argTypes}=>match args.toList,argTypes.toList with
  | [x],[t] =>∃v,SB P T B t (e x) v∧r=⟨v,[],[]⟩
  |_,_=>False
 | .call {callee:=.builtin .max,args,..}=>match args.toList with
  | [x,y] =>match e x,e y with
   | .int k n,.int k' m=>k=k'∧r=⟨.int k (if n<m then m else n),[],[]⟩
   |_,_=>False
  |_=>False
 | .call {callee:=.builtin .min,args,..}=>match args.toList with
  | [x,y] =>match e x,e y with
   | .int k n,.int k' m=>k=k'∧r=⟨.int k (if m<n then m else n),[],[]⟩
   |_,_=>False
  |_=>False
 | .call {callee:=.value g,args,..}=>S9 P T B pos (e g) (args.toList.map e) r
 | .call {callee:=.builtin .append,args,argTypes}=>match args.toList,argTypes.toList with
  | [x,y],[t,t'] =>t'=t∧pZ P pos t (e x) (e y) r
  |_,_=>False
 | .buildSlice t n parts=>match ti P t with
  | .sl el=>fY (tsz P el) n (tz P el) (parts.toList.map fun x=>(x.1,e x.2)) pos r
  |_=>False
 | .alloc t=>∃vs,tz P t=vs∧0<vs.length∧r=⟨.box pos 0,[],[(pos,vs.map zAV)]⟩
 | .build t parts=>match ti P t with
  | .st fs=>(fs.all fun q=>decide (0<tsz P q.2))=true∧0<(tz P t).length ∧∃vs,LK P fs ((tz P t).map zAV) (parts.toList.map fun x=>(x.1,e x.2))=some vs∧r=⟨.agg vs,[],[]⟩
  | .arr n el=>0<tsz P el∧((MN (tsz P el) el n 0).all fun q=>decide (0<tsz P q.2))=true∧0<(tz P t).length ∧∃vs,LK P (MN (tsz P el) el n 0) ((tz P t).map zAV) (parts.toList.map fun x=>(x.1,e x.2))=some vs∧r=⟨.agg vs,[],[]⟩
  |_=>False
 | .makeSlice t l c=>match ti P t,e l,e c with
  | .sl el,.int .i64 n,.int .i64 m=>lr P el pos n m r
  |_,_,_=>False
 | .makeMap t none=>∃q,bR P t=some q∧r=⟨.mpr pos,[],[(pos,[.mpc q []])]⟩
 | .lookup t x i ok=>∃v,Ra P B t (e x) (e i) ok v∧r=⟨v,[],[]⟩
 |_=>False
def addT (σ:List (Nat × Option Tok)):List (Nat × Tok)→List (Nat × Option Tok)
 | [] =>σ
 |(n,tk)::r=>(n,some tk)::addT σ r
def addB (σ:List (Nat × Option (List AV))):List (Nat × List AV)→List (Nat × Option (List AV))
 | [] =>σ
 |(n,tk)::r=>(n,some tk)::addB σ r
def St.add (σ:St) (dst:Option Tmp) (r:Res):St:= {(σ.put dst r.v) with t:=addT σ.t r.t,b:=addB σ.b r.b}
def Cq (σ:St):List (Nat × Tok)→Prop
 | [] =>True
 |(n,_)::r=>look σ.t n=none∧Cq σ r
def EV (σ:St):List (Nat × List AV)→Prop
 | [] =>True
 |(n,_)::r=>look σ.b n=none∧EV σ r
def St.killT (σ:St) (t:Nat):St:= {σ with t:=(t,none)::σ.t}
def St.setT (σ:St) (t:Nat) (tk:Tok):St:= {σ with t:=(t,some tk)::σ.t}
def St.setB (σ:St) (b:Nat) (vs:List AV):St:= {σ with b:=(b,some vs)::σ.b}
def LM:List AV→Option (List D)
 | [] =>some []
 | .int k n::vs=>(LM vs).map (.int k n:: ·)
 | .bool b::vs=>(LM vs).map (.bool b:: ·)
 | .str s::vs=>(LM vs).map (.str s:: ·)
 |_::_=>none
def St.killB (σ:St) (b:Nat):St:= {σ with b:=(b,none)::σ.b}
def litD (z:ZK):AV→Option D
 | .int k n=>some (.int k n)
 | .bool b=>some (.bool b)
 | .str s=>some (.str s)
 | .nilp =>some .nilp
 | .ro rows=>if z= .yes then some (.fz rows) else none
 | .rop vs off=>if z= .yes then unD (.rop vs off) else none
 |_=>none
def KU (z:ZK):List AV→Option (List D)
 | [] =>some []
 |v::vs=>match litD z v,KU z vs with
  |some d,some ds=>some (d::ds)
  |_,_=>none
def dB (z:ZK) (b n sz:Nat) (σ:St) (K:List (List D)→St→Prop):Prop:=
 1000≤b∧0<sz∧∃vs,σ.B b=some vs∧∃ds,KU z vs=some ds∧ds.length=n*sz∧K (BD sz n ds) (σ.killB b)
def okZ (z:ZK) (tk:Tok):Bool:=match tk.z with
 | .yes =>decide (z= .yes)
 |_=>true
def BR (z:ZK):List AV→St→(List D→St→Prop)→Prop
 | [],σ,K=>K [] σ
 | .int k n::vs,σ,K=>BR z vs σ fun ds σ'=>K (.int k n::ds) σ'
 | .bool b::vs,σ,K=>BR z vs σ fun ds σ'=>K (.bool b::ds) σ'
 | .str s::vs,σ,K=>BR z vs σ fun ds σ'=>K (.str s::ds) σ'
 | .nils ::vs,σ,K=>BR z vs σ fun ds σ'=>K (Ft z::ds) σ'
 | .nilp ::vs,σ,K=>BR z vs σ fun ds σ'=>K (.nilp ::ds) σ'
 | .ro rows::vs,σ,K=>z= .yes ∧BR z vs σ fun ds σ'=>K (.fz rows::ds) σ'
 | .rop ws off::vs,σ,K=>z= .yes ∧∃d,unD (.rop ws off)=some d∧BR z vs σ fun ds σ'=>K (d::ds) σ'
 | .bsl b n sz::vs,σ,K=>if n=0 then BR z vs σ fun ds σ'=>K (Ft z::ds) σ' else dB z b n sz σ fun rows σ1=>BR z vs σ1 fun ds σ'=>K (.sl rows::ds) σ'
 | .own t::vs,σ,K=>∃tk,σ.T t=some tk∧okZ z tk=true∧BR z vs (σ.killT t) fun ds σ'=>K (.sl tk.rows::ds) σ'
 |_::_,_,_=>False
def AV.one:AV→Bool
 | .any | .agg _| .tup _| .mpc _ _=>false
 |_=>true
def EH (row:List D) (off:Nat) (ds:List D):Bool:=ds.all D.flat&&((row.drop off).take ds.length).all D.flat
def putR (p:Pth) (rows:List (List D)) (d:D):List (List D):=match put p (.sl rows) d with
 | .sl r=>r
 |_=>rows
def OE (P:Program) (t:TypeId) (a x:AV) (σ:St) (K:St→Prop):Prop:=
 match cellsOf x with
 |some cs=>cs.length=tsz P t∧0<tsz P t∧cs.all AV.one=true∧match a with
  | .box b off=>∃vs,σ.B b=some vs∧isMp vs=false∧off+cs.length≤vs.length∧K (σ.setB b (splice vs off cs))
  | .elt t' sz i off=>∃tk0,σ.T t'=some tk0∧BR tk0.z cs σ fun ds σ'=>∃tk row,(σ'.T t'=some tk∧tk.z=tk0.z)∧tk.rows[i]? =some row∧row.length=sz∧off+ds.length≤sz∧K (σ'.setT t' ⟨tk.rows.set i (splice row off ds),tk.sz,if EH row off ds=true then tk.gen else tk.gen+1,tk.z⟩)
  | .els t' g p sz i off=>BR .no cs σ fun ds σ'=>∃rows,subR σ'.T t' g p=some rows∧∃row,rows[i]? =some row∧(p≠ [] ∧row.length=sz∧off+ds.length≤sz∧EH row off ds=true)∧∃tk,σ'.T t'=some tk∧K (σ'.setT t' ⟨putR p tk.rows (.sl (rows.set i (splice row off ds))),tk.sz,tk.gen,tk.z⟩)
  |_=>False
 |none=>False
def TA (z:ZK) (e:TypeId) (sz:Nat) (x:AV) (σ:St) (K:List (List D)→St→Prop):Prop:=
 match x with
 | .nils =>K [] σ
 | .bsl b n sz'=>if n=0 then K [] σ else sz'=sz∧dB z b n sz σ K
 | .own t=>∃tk,σ.T t=some tk∧(tk.sz=some sz∧okZ z tk=true)∧K tk.rows (σ.killT t)
 |_=>False
def OF (z:ZK) (sz:Nat) (y:AV) (σ:St) (K:List (List D)→St→Prop):Prop:=
 match y with
 | .nils =>K [] σ
 | .bsl b n sz'=>∃vs,σ.B b=some vs∧sz'=sz∧vs.length=n*sz∧vs.all AV.one=true∧BR z vs σ fun ds σ'=>K (BD sz n ds) σ'
 | .ro rows=>match z with
  | .no =>(∀row ∈ rows,row.length=sz∧∀d ∈ row,d.flat=true)∧K rows σ
  | .nl =>(∀row ∈ rows,row.length=sz∧∀d ∈ row,d.flat=true)∧K rows σ
  | .yes =>(∀row ∈ rows,row.length=sz∧∀d ∈ row,d≠ .gone)∧K (fzR rows) σ
 | .own t=>∃tk,σ.T t=some tk∧((∀row ∈ tk.rows,row.length=sz)∧okZ z tk=true)∧K tk.rows (σ.killT t)
 |_=>False
def Zl (P:Program) (pos:Nat) (t:TypeId) (x y:AV) (σ:St) (K:AV→St→Prop):Prop:=
 match ti P t with
 | .sl e=>0<tsz P e∧(tz P e).length =tsz P e∧∃z,TA z e (tsz P e) x σ fun rows σ1=>OF z (tsz P e) y σ1 fun rows2 σ2=>
   (rows.length+rows2.length)*P.bytesOf e≤140737488355328∧rows.length+rows2.length≤maxLen∧look σ2.t (pos*16)=none∧K (.own (pos*16)) (σ2.setT (pos*16) ⟨rows++rows2,some (tsz P e),0,z⟩)
 |_=>False
def Wb (P:Program) (t:TypeId) (x i v:AV) (σ:St) (K:St→Prop):Prop:=
 match ti P t,x with
 | .map kt et,.mpr b=>∃q rows,σ.B b=some [.mpc q rows] ∧rows.length<68719476736∧SD P kt=some q∧∃k,keyD i=some k∧Ux q k=true∧∃d,LM [v] =some [d] ∧K (σ.setB b [.mpc q (mput k d rows)])
 |_,_=>False
def jQ (T:Nat→Option Tok) (v:AV) (b:Bool):Prop:=
 match v with
 | .nils =>b=true
 | .bsl _ _ _=>b=false
 | .ro rows=>rows≠ [] →b=false
 | .own t=>∃tk,T t=some tk∧(tk.rows≠ [] →b=false)
 | .sub t g p=>∃rows,subR T t g p=some rows∧(rows≠ [] →b=false)
 |_=>False
def PJ:AV→Bool
 | .nils | .bsl _ _ _| .ro _=>true
 |_=>false
def aop (P:Program) (pos:Nat) (o:Oper) (σ:St) (K:St→Prop):Prop:=
 match o.op with
 | .binOp .eql t x (.const (.slice none 0 0)) _=>(∃e,ti P t= .sl e)∧PJ (σ.e x)=true∧∀b,jQ σ.T (σ.e x) b→K (σ.put o.dst (.bool b))
 | .binOp .neq t x (.const (.slice none 0 0)) _=>(∃e,ti P t= .sl e)∧PJ (σ.e x)=true∧∀b,jQ σ.T (σ.e x) b→K (σ.put o.dst (.bool !b))
 | .store t a x=>OE P t (σ.e a) (σ.e x) σ fun σ'=>K (σ'.put o.dst .any)
 | .mapUpdate t m i x=>Wb P t (σ.e m) (σ.e i) (σ.e x) σ fun σ'=>K (σ'.put o.dst .any)
 | .insert t m i x=>Wb P t (σ.e m) (σ.e i) (σ.e x) σ fun σ'=>K (σ'.put o.dst .any)
 | .call {callee:=.builtin .append,args,argTypes}=>match args.toList,argTypes.toList with
  | [x,y],[t,t'] =>t'=t∧Zl P pos t (σ.e x) (σ.e y) σ fun v σ'=>K (σ'.put o.dst v)
  |_,_=>False
 |_=>∃r,Ev P pos o σ.e σ.T σ.B r∧Cq σ r.t∧EV σ r.b∧K (σ.add o.dst r)
def PK:Pth→List (List D)→Option D
 | [],rows=>some (.sl rows)
 | (sz,i,j)::p,rows=>match rows[i]? with
  | some row=>if row.length=sz then (match row[j]? with
   |some d=>(match p,d with
    | [],d=>some d
    |p,.sl r1=>PK p r1
    |_,_=>none)
   |none=>none) else none
  |none=>none
mutual
def Jm (c:Nat):AV→Bool
 | .own t=>t == c
 | .elt t _ _ _=>t == c
 | .agg vs=>Rb c vs
 | .fn _ vs=>Rb c vs
 |_=>false
def Rb (c:Nat):List AV→Bool
 | [] =>false
 |v::vs=>Jm c v||Rb c vs
end
mutual
def Jn (c:Nat):AV→Bool
 | .box b _=>b == c
 | .mpr b=>b == c
 | .agg vs=>PL c vs
 | .fn _ vs=>PL c vs
 |_=>false
def PL (c:Nat):List AV→Bool
 | [] =>false
 |v::vs=>Jn c v||PL c vs
end
def fZ (as:List AV) (pt:List (Nat × Tok)) (pb:List (Nat × List AV)):Bool:=
 (pb.all fun p=>(PL p.1 as||pb.any fun q=>PL q.1 as&&PL p.1 q.2)&&decide (p.1 <1000))&&(pt.all fun p=>((pb.any fun q=>Rb p.1 q.2)||Rb p.1 as))
def CT:List (Nat × AV × Option Nat)→St→(St→Prop)→Prop
 | [],σ,K=>K σ
 | (n,.sub t g p,z)::r,σ,K=>z=none∧look σ.t n=none∧p.length=1∧∃tk rows,σ.T t=some tk∧tk.gen=g∧getP p tk.rows=some rows∧n≠t∧
   CT r {σ with t:=(n,some ⟨rows,none,0,tk.z⟩)::(t,some ⟨putR p tk.rows .gone,tk.sz,g,tk.z⟩)::σ.t} K
 |(n,.nils,z)::r,σ,K=>look σ.t n=none∧CT r {σ with t:=(n,some ⟨[],z,0,.no⟩)::σ.t} K
 |(n,.bsl _ m _,z)::r,σ,K=>m=0∧look σ.t n=none∧CT r {σ with t:=(n,some ⟨[],z,0,.no⟩)::σ.t} K
 |_::_,_,_=>False
def Bk:List (Nat × AV × Option Nat)→St→(St→Prop)→Prop
 | [],σ,K=>K σ
 |(n,.sub t g p,_)::r,σ,K=>Bk r σ fun σ=>match σ.T n with
  |some tn=>∃tk,σ.T t=some tk∧PK p tk.rows=some .gone ∧(n≠t∧okZ tk.z tn=true)∧K {σ with t:=(n,none)::(t,some ⟨putR p tk.rows (.sl tn.rows),tk.sz,if tn.gen=0∧tk.gen=g then g else tk.gen+tn.gen+1,tk.z⟩)::σ.t}
  |none=>K σ
 |(n,_,_)::r,σ,K=>Bk r σ fun σ=>K {σ with t:=(n,none)::σ.t}
structure Way where
 cv:List (Nat × AV × Option Nat)
 rt:List (Nat × Nat)
 rb:List (Nat × Nat × Nat)
 nt:List (Nat × Nat)
 nb:List (Nat × Nat)
 md:Bool
def narR (o:Option AV) (vs:List AV) (off:Nat):Prop:=match o with
 |some (.rop us o')=>(us=vs∧o'=off)∨(off=0∧Fs us o' vs.length=vs)
 |_=>False
mutual
def E2 (y:Way) (σ0:St):AV→AV→Prop
 |a,.own c=>∃n,look y.rt c=some n∧(a= .own n∨∃z,look y.cv n=some (a,z))
 |a,.box b off=>∃q,look y.rb b=some q∧a= .box q.1 (q.2 +off)
 |a,.elt c sz i off=>∃n,look y.rt c=some n∧a= .elt n sz i off
 |a,.mpr b=>∃q,look y.rb b=some q∧a= .mpr q.1
 | .agg vs,.agg vs'=>PasL y σ0 vs vs'
 | .fn f vs,.fn f' vs'=>f=f'∧PasL y σ0 vs vs'
 |a,.rop vs off=>narR (cl (if y.md then fun _=>none else σ0.T) (if y.md then fun _=>none else σ0.B) a) vs off
 |a,a'=>cl (if y.md then fun _=>none else σ0.T) (if y.md then fun _=>none else σ0.B) a=some a'
def PasL (y:Way) (σ0:St):List AV→List AV→Prop
 | [],[] =>True
 |a::as,b::bs=>E2 y σ0 a b∧PasL y σ0 as bs
 |_,_=>False
end
def kept:List (Nat × Nat)→List (Nat × Nat)
 | [] =>[]
 |(c,n)::r=>match decide (c<1000) with
  |true=>(c,n)::kept r
  |false=>kept r
mutual
def bak (y:Way):AV→AV
 | .int k n=>.int k n
 | .bool b=>.bool b
 | .str s=>.str s
 | .nilp =>.nilp
 | .nils =>.nils
 | .ro rows=>if y.md then .ro rows else .any
 | .own c=>match look (kept y.rt++y.nt) c with
  |some n=>.own n
  |none=>.any
 | .elt c sz i off=>match look (kept y.rt++y.nt) c with
  |some n=>.elt n sz i off
  |none=>.any
 | .box b off=>match look y.rb b with
  |some q=>.box q.1 (q.2 +off)
  |none=>match look y.nb b with
   |some n=>.box n off
   |none=>.any
 | .mpr b=>match look y.rb b with
  |some q=>.mpr q.1
  |none=>match look y.nb b with
   |some n=>.mpr n
   |none=>.any
 | .mpc q rows=>.mpc q rows
 | .agg vs=>.agg (baks y vs)
 | .tup vs=>.tup (baks y vs)
 | .fn f vs=>.fn f (baks y vs)
 | .rop vs off=>if y.md then .rop (baks y vs) off else .any
 |_=>.any
def baks (y:Way):List AV→List AV
 | [] =>[]
 |v::vs=>bak y v::baks y vs
end
def Rc (rt:List (Nat × Nat)) (σ:St):List (Nat × Tok)→Prop
 | [] =>True
 |(c,tk)::r=>(∃n,look rt c=some n∧tk.gen=0∧∃tk',σ.T n=some tk'∧tk'.rows=tk.rows∧(tk.sz=none∨tk'.sz=tk.sz)∧okZ tk.z tk'=true)∧Rc rt σ r
def G5 (y:Way) (σ σ0:St):List (Nat × List AV)→Prop
 | [] =>True
 |(b,vs)::r=>(∃q,look y.rb b=some q∧∃ws,σ.B q.1 =some ws∧isMp ws=isMp vs∧q.2 +vs.length≤ws.length∧PasL y σ0 (Fs ws q.2 vs.length) vs)∧G5 y σ σ0 r
def Rd (l:List (Nat × Nat)) (s:List (Nat × Option Tok)):List (Nat × Option Tok):=match l with
 | [] =>s
 |(_,n)::r=>(n,none)::Rd r s
def TB (l:List (Nat × Nat × Nat)) (s:List (Nat × Option (List AV))):List (Nat × Option (List AV)):=match l with
 | [] =>s
 |(_,n,_)::r=>(n,none)::TB r s
def St.less (σ:St) (y:Way):St:=⟨σ.s,Rd y.rt σ.t,TB y.rb σ.b⟩
def TC (σ:St) (qt:List (Nat × Tok)):List (Nat × Nat)→List (Nat × Option Tok)→List (Nat × Option Tok)
 | [],s=>s
 |(c,n)::r,s=>(n,(look qt c).map fun tk=>⟨tk.rows,tk.sz,((σ.T n).map (·.gen)).getD 0+tk.gen,tk.z⟩)::TC σ qt r s
def TD (σ:St) (y:Way) (qb:List (Nat × List AV)):List (Nat × Nat × Nat)→List (Nat × Option (List AV))→List (Nat × Option (List AV))
 | [],s=>s
 |(b,n,k)::r,s=>(n,(look qb b).bind fun vs=>(σ.B n).map fun ws=>splice ws k (baks y vs))::TD σ y qb r s
def Zm (qt:List (Nat × Tok)):List (Nat × Nat)→List (Nat × Option Tok)→List (Nat × Option Tok)
 | [],s=>s
 |(c,n)::r,s=>(n,look qt c)::Zm qt r s
def Zn (y:Way) (qb:List (Nat × List AV)):List (Nat × Nat)→List (Nat × Option (List AV))→List (Nat × Option (List AV))
 | [],s=>s
 |(c,n)::r,s=>(n,(look qb c).map (baks y))::Zn y qb r s
def St.after (σ:St) (y:Way) (qt:List (Nat × Tok)) (qb:List (Nat × List AV)):St:=
 ⟨σ.s,TC σ qt y.rt (Zm qt y.nt σ.t),TD σ y qb y.rb (Zn y qb y.nb σ.b)⟩
def Way.ok (y:Way) (σ:St) (pt:List (Nat × Tok)) (pb:List (Nat × List AV)):Prop:=
 ((y.rt++y.nt).map (·.2)).Nodup ∧((y.rt++y.nt).map (·.1)).Nodup ∧((y.rb.map (·.2.1))++y.nb.map (·.2)).Nodup ∧((y.rb.map (·.1))++y.nb.map (·.1)).Nodup ∧
 (y.rt.all fun p=>(look pt p.1).isSome)=true∧(y.rb.all fun p=>(look pb p.1).isSome)=true∧(y.nt.all fun p=>(look pt p.1).isNone &&(look σ.t p.2).isNone)=true∧(y.nb.all fun p=>(look pb p.1).isNone &&(look σ.b p.2).isNone)=true∧
 (pt.map (·.1)).Nodup ∧(pb.map (·.1)).Nodup
def MO (rt:List (Nat × Nat)):List (Nat × AV × Option Nat)→Bool
 | [] =>true
 |(_,.sub t _ _,_)::r=>(rt.all fun p=>p.2 != t)&&MO rt r
 |_::r=>MO rt r
def noZ (qt:List (Nat × Tok)):Bool:=qt.all fun p=>decide (p.2.z ≠ .yes)
def VV (P:Program) (f:FuncId) (args:List AV) (σ:St) (K:AV→St→Prop):Prop:=
 ∃y as pt pb r qt qb,AG P f as pt pb r qt qb∧CT y.cv σ fun σ1=>y.ok σ1 pt pb∧Rc y.rt σ1 pt∧G5 y σ1 (σ1.less y) pb∧PasL y (σ1.less y) args as∧(pb.all fun p=>(look qb p.1).isSome)=true∧(MO y.rt y.cv=true∧(y.md||noZ qt)=true)∧fZ as pt pb=true∧(y.rt.all fun p=>decide (p.1 <1000)||(look qt p.1).isNone)=true∧Bk y.cv (σ1.after y qt qb) fun σ2=>K (bak y r) σ2
def only {α:Type} (t:Nat) (x:α) (n:Nat):Option α:=if n=t then some x else none
def fzA (b:Nat) (vs:List AV) (a:AV):AV:=match a with
 | .bsl _ _ _| .box _ _| .agg _=>(cl (fun _=>none) (only b vs) a).getD a
 |a=>a
def FzK:List Nat→List AV→St→(List AV→St→Prop)→Prop
 | [],args,σ,K=>K args σ
 |b::r,args,σ,K=>∃vs,σ.B b=some vs∧(1000≤b∧isMp vs=false)∧FzK r (args.map (fzA b vs)) ⟨σ.s,σ.t,(b,none)::σ.b⟩ K
def bT (P:Program) (f:FuncId) (args:List AV) (σ:St) (K:AV→St→Prop):Prop:=∃bs,FzK bs args σ fun args σ=>VV P f args σ K
def MP (P:Program) (o:Oper) (σ:St) (K:St→Prop):Prop:=
 match o.op with
 | .call {callee:=.value g,args,..}=>match σ.e g with
  | .fn f caps=>N1 caps=true∧bT P f (fnA caps (args.toList.map σ.e)) σ fun v σ'=>K (σ'.put o.dst v)
  |_=>False
 |_=>False
def Xw (o:Oper):Bool:=
 match o.op with
 | .store _ _ _=>true
 | .mapUpdate _ _ _ _=>true
 | .insert _ _ _ _=>true
 | .binOp .eql _ _ (.const (.slice none 0 0)) _=>true
 | .binOp .neq _ _ (.const (.slice none 0 0)) _=>true
 | .call {callee:=.builtin .append,..}=>true
 |_=>false
def PM (o:Oper):Bool:=
 match o.op with
 | .call {callee:=.builtin .append,..}=>true
 |_=>false
def OG (o:Oper):Bool:=Xw o&& !PM o
def SliK (P:Program) (pos:Nat) (o:Oper) (σ:St) (K:St→Prop):Prop:=
 match o.op with
 | .slice t x l h none=>(match σ.e x with
  | .own n=>∃tk,σ.T n=some tk∧∃el,ti P t= .sl el∧(0<tsz P el∧∀row ∈ tk.rows,row.length=tsz P el)∧∃i,bndI (l.map σ.e) 0=some i∧∃j,bndI (h.map σ.e) tk.rows.length=some j∧∃r,cutL tk.rows i j=some r∧look σ.t (pos*16)=none∧
   K (St.put ⟨σ.s,(pos*16,some ⟨r,none,0,tk.z⟩)::(n,none)::σ.t,σ.b⟩ o.dst (.own (pos*16)))
  |_=>False)
 |_=>False
def Hg:AV→List Nat→Option AV
 |v,[] =>some v
 | .agg vs,k::p=>(vs[k]?).bind fun v=>Hg v p
 | .tup vs,k::p=>(vs[k]?).bind fun v=>Hg v p
 |_,_::_=>none
def E3:AV→List Nat→AV→AV
 |_,[],x=>x
 | .agg vs,k::p,x=>match vs[k]? with
  |some v=>.agg (vs.set k (E3 v p x))
  |none=>.agg vs
 | .tup vs,k::p,x=>match vs[k]? with
  |some v=>.tup (vs.set k (E3 v p x))
  |none=>.tup vs
 |v,_::_,_=>v
def rpS (f:AV→Option AV):List (Nat × List Nat)→List (Nat × AV)→Option (List (Nat × AV))
 | [],s=>some s
 | (i,p)::r,s=>match Hg ((look s i).getD .any) p with
  |some a=>match f a with
   |some x=>rpS f r ((i,E3 ((look s i).getD .any) p x)::s)
   |none=>none
  |none=>none
def rpB (f:AV→Option AV):List (Nat × Nat)→List (Nat × Option (List AV))→Option (List (Nat × Option (List AV)))
 | [],s=>some s
 | (b,j)::r,s=>match (look s b).join with
  | some vs=>match vs[j]? with
   |some a=>match f a with
    |some x=>if isMp vs=false∧x.mp?=false then rpB f r ((b,some (vs.set j x))::s) else none
    |none=>none
   |none=>none
  |none=>none
def TE:AV→Option AV
 | .nils =>some (.ro [])
 |_=>none
def dC (sz:Nat):D→Option (List (List D))
 | .nl =>some []
 | .sl (x::xs)=>if x.length=sz then some (x::xs) else none
 |_=>none
mutual
def dn:D→D
 | .sl rows=>.sl (dnR rows)
 | .nl =>.sl []
 | .fz rows=>.fz rows
 | .int k n=>.int k n
 | .bool b=>.bool b
 | .str s=>.str s
 | .gone =>.gone
 | .ptr ds=>.ptr ds
 | .nilp =>.nilp
def dnR:List (List D)→List (List D)
 | [] =>[]
 |x::xs=>dnC x::dnR xs
def dnC:List D→List D
 | [] =>[]
 |d::ds=>dn d::dnC ds
end
mutual
def clr:D→Bool
 | .sl rows=>Zo rows
 | .fz _=>false
 | .ptr _=>false
 | .int _ _=>true
 | .bool _=>true
 | .str _=>true
 | .gone =>true
 | .nilp =>true
 | .nl =>true
def Zo:List (List D)→Bool
 | [] =>true
 |x::xs=>jR x&&Zo xs
def jR:List D→Bool
 | [] =>true
 |d::ds=>clr d&&jR ds
end
inductive Nils:St→St→Prop where
 |done (σ:St):Nils σ σ
 |slot {σ σ1:St} (i t:Nat) (ap:Option Nat) (z:ZK) (h:σ.g i= .nils) (ht:look σ.t t=none) (hk:Nils ⟨(i,.own t)::σ.s,(t,some ⟨[],ap,0,z⟩)::σ.t,σ.b⟩ σ1):Nils σ σ1
 |deep {σ σ1:St} (i t:Nat) (ap:Option Nat) (z:ZK) (p:List Nat) (h:Hg (σ.g i) p=some .nils) (ht:look σ.t t=none) (hk:Nils ⟨(i,E3 (σ.g i) p (.own t))::σ.s,(t,some ⟨[],ap,0,z⟩)::σ.t,σ.b⟩ σ1):Nils σ σ1
 | lit {σ σ1:St} (i t b n sz:Nat) (z:ZK) (p:List Nat) (vs:List AV) (ds:List D) (h:Hg (σ.g i) p=some (.bsl b n sz)) (hb:σ.B b=some vs) (hd:KU z vs=some ds) (hl:ds.length=n*sz) (hz:0<sz) (hp:1000≤b) (ht:look σ.t t=none)
   (hk:Nils ⟨(i,E3 (σ.g i) p (.own t))::σ.s,(t,some ⟨BD sz n ds,some sz,0,z⟩)::σ.t,(b,none)::σ.b⟩ σ1):Nils σ σ1
 | clit {σ σ1 σ2:St} (b0 j t b n sz:Nat) (z:ZK) (ws vs:List AV) (ds:List D) (h0:σ.B b0=some ws) (hj:ws[j]? =some (.bsl b n sz)) (hb:σ.B b=some vs) (hm:isMp vs=false) (hd:BR z vs (σ.killB b) fun ds' σ'=>ds'=ds∧σ'=σ2) (hl:ds.length=n*sz) (hz:0<sz) (hp:1000≤b) (h2:σ2.B b0=some ws) (ht:look σ2.t t=none)
   (hk:Nils ⟨σ2.s,(t,some ⟨BD sz n ds,some sz,0,z⟩)::σ2.t,(b0,some (ws.set j (.own t)))::σ2.b⟩ σ1):Nils σ σ1
 | take {σ σ1:St} (i t n g:Nat) (p:List Nat) (q:Pth) (tk:Tok) (r:List (List D)) (h:Hg (σ.g i) p=some (.sub t g q)) (hT:σ.T t=some tk) (hg:tk.gen=g) (hq:getP q tk.rows=some r) (hq0:q≠ []) (hne:n≠t) (hn:look σ.t n=none)
   (hk:Nils ⟨(i,E3 (σ.g i) p (.own n))::σ.s,(n,some ⟨r,none,0,tk.z⟩)::(t,some ⟨putR q tk.rows .gone,tk.sz,g,tk.z⟩)::σ.t,σ.b⟩ σ1):Nils σ σ1
 | takeS {σ σ1:St} (i t n g:Nat) (p:List Nat) (q:Pth) (tk:Tok) (d:D) (sz:Nat) (r:List (List D)) (h:Hg (σ.g i) p=some (.sub t g q)) (hT:σ.T t=some tk) (hg:tk.gen=g) (hq:PK q tk.rows=some d) (hd:dC sz d=some r) (hq0:q≠ []) (hne:n≠t) (hn:look σ.t n=none)
   (hk:Nils ⟨(i,E3 (σ.g i) p (.own n))::σ.s,(n,some ⟨r,some sz,0,tk.z⟩)::(t,some ⟨putR q tk.rows .gone,tk.sz,g,tk.z⟩)::σ.t,σ.b⟩ σ1):Nils σ σ1
 |down {σ σ1:St} (t:Nat) (tk:Tok) (r:List (List D)) (hT:σ.T t=some tk) (hp:1000≤t) (hz:tk.z= .nl) (hr:dnR tk.rows=r) (hk:Nils ⟨σ.s,(t,some ⟨r,tk.sz,tk.gen,.no⟩)::σ.t,σ.b⟩ σ1):Nils σ σ1
 |pure {σ σ1:St} (t:Nat) (tk:Tok) (hT:σ.T t=some tk) (hp:1000≤t) (hz:tk.z= .yes) (hr:Zo tk.rows=true) (hk:Nils ⟨σ.s,(t,some ⟨tk.rows,tk.sz,tk.gen,.no⟩)::σ.t,σ.b⟩ σ1):Nils σ σ1
 |cell {σ σ1:St} (b j t:Nat) (ap:Option Nat) (z:ZK) (vs:List AV) (hb:σ.B b=some vs) (h:vs[j]? =some .nils) (ht:look σ.t t=none) (hk:Nils ⟨σ.s,(t,some ⟨[],ap,0,z⟩)::σ.t,(b,some (vs.set j (.own t)))::σ.b⟩ σ1):Nils σ σ1
 | ctake {σ σ1:St} (b j t n g:Nat) (vs:List AV) (q:Pth) (tk:Tok) (r:List (List D)) (hb:σ.B b=some vs) (h:vs[j]? =some (.sub t g q)) (hT:σ.T t=some tk) (hg:tk.gen=g) (hq:getP q tk.rows=some r) (hq0:q≠ []) (hne:n≠t) (hn:look σ.t n=none)
   (hk:Nils ⟨σ.s,(n,some ⟨r,none,0,tk.z⟩)::(t,some ⟨putR q tk.rows .gone,tk.sz,g,tk.z⟩)::σ.t,(b,some (vs.set j (.own n)))::σ.b⟩ σ1):Nils σ σ1
 |chdr {σ σ1:St} (b j t g n:Nat) (q:Pth) (vs:List AV) (r:List (List D)) (hb:σ.B b=some vs) (h:vs[j]? =some (.sub t g q)) (hr:subR σ.T t g q=some r) (hn:r.length=n) (hk:Nils ⟨σ.s,σ.t,(b,some (vs.set j (.ro (List.replicate n []))))::σ.b⟩ σ1):Nils σ σ1
 |forget {σ σ1:St} (i:Nat) (p:List Nat) (x:AV) (h:Hg (σ.g i) p=some x) (hk:Nils ⟨(i,E3 (σ.g i) p .any)::σ.s,σ.t,σ.b⟩ σ1):Nils σ σ1
 | frzT {σ σ1:St} (t:Nat) (ps:List (Nat × List Nat)) (cs:List (Nat × Nat)) (tk:Tok) (s':List (Nat × AV)) (b':List (Nat × Option (List AV))) (hT:σ.T t=some tk) (hp:1000≤t)
   (hs:rpS (cl (only t tk) fun _=>none) ps σ.s=some s') (hb:rpB (cl (only t tk) fun _=>none) cs σ.b=some b') (hk:Nils ⟨s',(t,none)::σ.t,b'⟩ σ1):Nils σ σ1
 | frzB {σ σ1:St} (b:Nat) (ps:List (Nat × List Nat)) (cs:List (Nat × Nat)) (vs:List AV) (s':List (Nat × AV)) (b':List (Nat × Option (List AV))) (hB:σ.B b=some vs) (hp:1000≤b) (hm:isMp vs=false)
   (hs:rpS (cl (fun _=>none) (only b vs)) ps σ.s=some s') (hb:rpB (cl (fun _=>none) (only b vs)) cs ((b,none)::σ.b)=some b') (hk:Nils ⟨s',σ.t,b'⟩ σ1):Nils σ σ1
 | frzN {σ σ1:St} (ps:List (Nat × List Nat)) (cs:List (Nat × Nat)) (s':List (Nat × AV)) (b':List (Nat × Option (List AV)))
   (hs:rpS TE ps σ.s=some s') (hb:rpB TE cs σ.b=some b') (hk:Nils ⟨s',σ.t,b'⟩ σ1):Nils σ σ1
 |drop {σ σ1:St} (b j:Nat) (vs:List AV) (hb:σ.B b=some vs) (hm:isMp vs=false) (hk:Nils ⟨σ.s,σ.t,(b,some (vs.set j .any))::σ.b⟩ σ1):Nils σ σ1
def bU:AV→Bool
 | .sub _ _ _=>true
 |_=>false
def TF (σ:St) (o:Oper):Bool:=
 match o.op with
 | .call {callee:=.builtin .append,args,..}=>match args.toList with
  | [x,_] =>bU (σ.e x)
  |_=>false
 |_=>false
def TG (P:Program) (L:Bool) (pos:Nat) (o:Oper) (σ:St) (K:St→Prop):Prop:=
 ((L=true∨PM o=false)∧aop P pos o σ K)∨(L=true∧(MP P o σ K∨SliK P pos o σ K∨(TF σ o=true∧∃σ1,Nils σ σ1∧aop P pos o σ1 K)))∨(L=false∧PM o=true∧∃r,Ev P pos o σ.e σ.T σ.B r∧Cq σ r.t∧EV σ r.b∧K (σ.add o.dst r))
def Ie (ops:Array Oper) (j:Nat):Option Tmp:=(ops[j]?).bind (·.dst)
def aops (P:Program) (ops:Array Oper) (base cut:Nat):Nat→List Oper→St→(St→Prop)→Prop
 |_,[],σ,K=>K σ
 | i,o::rest,σ,K=>
  match o.guard with
  |none=>TG P (decide (cut≤i)) (base+i) o σ fun σ'=>aops P ops base cut (i+1) rest σ' K
  | some (j,want)=>∃s,Ie ops j=some s∧
   ((∃b,σ.g s= .bool b∧
    (b=want→TG P (decide (cut≤i)) (base+i) o (σ.put (some s) (.bool want)) fun σ'=>aops P ops base cut (i+1) rest σ' K)∧
    (b= !want→aops P ops base cut (i+1) rest ((σ.put (some s) (.bool (!want))).put o.dst (.tup [])) K))∨
   (σ.g s= .tup [] ∧aops P ops base cut (i+1) rest (σ.put o.dst (.tup [])) K))
def mask (acc:List Nat) (o:Oper):Nat:=
 o.after.toList.foldl (fun s e=>if Region.binds .any e then s|||(2 ^ e.on|||acc.getD e.on 0) else s) 0
def PN:List Nat→List Oper→List Nat
 |acc,[] =>acc
 |acc,o::os=>PN (acc++[mask acc o]) os
def deps (ops:List Oper):List Nat:=PN [] ops
def KE (o:Oper):Bool:=
 match o.op with
 | .move _| .assign _| .extract _ _| .fieldAddr _ _ _| .indexAddr _ _ _| .build _ _=>true
 | .binOp .add _ _ _ _| .binOp .sub _ _ _ _=>true
 | .pick _ _ _=>true
 |_=>false
def late (ops:List Oper) (m:List Nat) (q:Nat):Bool:=
 Region.noSelect ops.toArray&&match ops[q]? with
  |some o=>KE o&&o.guard.isNone&&(List.range ops.length).all fun j=>j == q||(match ops[j]? with
   |some oj=>oj.after.any (fun e=>Region.binds .any e&&e.on == q)||o.apart ops.toArray oj||(m.getD q 0).testBit j
   |none=>true)
  |none=>false
def PO (ops:Array Oper) (o:Oper):List Tmp:=
 (o.op.operands.toList.filterMap fun| .tmp t=>some t|_=>none)++(match o.guard with|some (j,_)=>(Ie ops j).toList |none=>[])
def VW (ops:Array Oper) (x y:Oper):Bool:=
 (match x.dst with|some d=>(PO ops y).contains d||y.dst == some d|none=>false)||(match y.dst with|some d=>(PO ops x).contains d|none=>false)
inductive AE where
 |normal|exit (id:Nat)|ret
def AE.then (next:St→Prop) (Q:AE→St→Prop):AE→St→Prop
 | .normal,σ=>next σ
 | .exit id,σ=>Q (.exit id) σ
 | .ret,σ=>Q .ret σ
def AE.inBlock (id:Nat) (Q:AE→St→Prop):AE→St→Prop
 | .exit id',σ=>if id'=id then Q .normal σ else Q (.exit id') σ
 | .normal,σ=>Q .normal σ
 | .ret,σ=>Q .ret σ
def bV (v:AV) (t f:Prop):Prop:=∃b,v= .bool b∧(b=true→t)∧(b=false→f)
mutual
def ren (rt rb:List (Nat × Nat)):AV→AV
 | .own t=>.own ((look rt t).getD t)
 | .box b off=>.box ((look rb b).getD b) off
 | .bsl b n sz=>.bsl ((look rb b).getD b) n sz
 | .elt t sz i off=>.elt ((look rt t).getD t) sz i off
 | .sub _ _ _=>.any
 | .par _ _ _ _=>.any
 | .els _ _ _ _ _ _=>.any
 | .agg vs=>.agg (rens rt rb vs)
 | .tup vs=>.tup (rens rt rb vs)
 | .fn f vs=>.fn f (rens rt rb vs)
 | .any =>.any
 | .int k n=>.int k n
 | .bool b=>.bool b
 | .str s=>.str s
 | .ro rows=>.ro rows
 | .rop vs off=>.rop (rens rt rb vs) off
 | .nilp =>.nilp
 | .nils =>.nils
 | .mpr b=>.mpr ((look rb b).getD b)
 | .mpc q rows=>.mpc q rows
def rens (rt rb:List (Nat × Nat)):List AV→List AV
 | [] =>[]
 |v::vs=>ren rt rb v::rens rt rb vs
end
mutual
def FR (rt rb:List (Nat × Nat)):AV→Bool
 | .own t=>(look rt t).isSome
 | .box b off=>(look rb b).isSome
 | .bsl b n sz=>(look rb b).isSome
 | .elt t sz i off=>(look rt t).isSome
 | .sub _ _ _=>false
 | .par _ _ _ _=>false
 | .els _ _ _ _ _ _=>false
 | .mpr b=>(look rb b).isSome
 | .agg vs=>GR rt rb vs
 | .tup vs=>GR rt rb vs
 | .fn f vs=>GR rt rb vs
 | .rop vs _=>GR rt rb vs
 |_=>true
def GR (rt rb:List (Nat × Nat)):List AV→Bool
 | [] =>true
 |v::vs=>FR rt rb v&&GR rt rb vs
end
def Xx (rt rb:List (Nat × Nat)) (σ:St):List (Nat × AV)→Prop
 | [] =>True
 |(i,av)::r=>FR rt rb av=true∧σ.g i=ren rt rb av∧Xx rt rb σ r
def TH (rt:List (Nat × Nat)) (σ:St):List (Nat × Option Tok)→Prop
 | [] =>True
 |(t,some tk)::r=>(∃n,look rt t=some n∧∃tk',σ.T n=some tk'∧tk'.rows=tk.rows∧(tk.sz=none∨tk'.sz=tk.sz)∧(t<1000→n=t∧tk'.gen=tk.gen)∧okZ tk.z tk'=true)∧TH rt σ r
 |(t,none)::r=>(look rt t).isSome =true∧TH rt σ r
def TJ (rt rb:List (Nat × Nat)) (σ:St):List (Nat × Option (List AV))→Prop
 | [] =>True
 |(b,some vs)::r=>(∃n,look rb b=some n∧GR rt rb vs=true∧σ.B n=some (rens rt rb vs))∧TJ rt rb σ r
 |(b,none)::r=>(look rb b).isSome =true∧TJ rt rb σ r
def fc (rt:List (Nat × Nat)):List (Nat × Option Tok)→Prop
 | [] =>True
 |(t,_)::r=>(1000≤t∨look rt t=some t)∧fc rt r
def fe (rb:List (Nat × Nat)):List (Nat × Option (List AV))→Prop
 | [] =>True
 |(t,_)::r=>(1000≤t∨look rb t=some t)∧fe rb r
def I8 (rt rb:List (Nat × Nat)) (σ σ0:St):Prop:=
 (fc rt σ.t∧fe rb σ.b)∧((rt.map (·.2)).Nodup ∧(rb.map (·.2)).Nodup)∧((rt.all fun p=>(look σ0.t p.1).isSome)=true∧(rb.all fun p=>(look σ0.b p.1).isSome)=true)∧Xx rt rb σ σ0.s∧TH rt σ σ0.t∧TJ rt rb σ σ0.b
def lw (σ σ0:St):Prop:=∃rt rb,I8 rt rb σ σ0
def jS (σ σ0:St):Prop:=∃σ1,Nils σ σ1∧lw σ1 σ0
inductive Wk:St→St→Prop where
 |nil (σ:St):Wk σ σ
 |cons {σ σ1 σ2:St} (h:jS σ σ1) (k:Wk σ1 σ2):Wk σ σ2
 |fz {σ σ1 σ2:St} (h:Nils σ σ1) (k:Wk σ1 σ2):Wk σ σ2
theorem Wk.one {σ σ1} (h:jS σ σ1):Wk σ σ1:=.cons h (.nil σ1)
theorem Wk.trans {a b c} (h:Wk a b) (k:Wk b c):Wk a c:=by
 induction h with
 |nil σ=>exact k
 |cons h _ ih=>exact .cons h (ih k)
 |fz h _ ih=>exact .fz h (ih k)
def mM (o:Op):Bool:=match o with
 | .call c=>(match c.callee with
  | .builtin b=>(match b with
   | .append =>false
   |_=>true)
  |_=>false)
 | .makeSlice .. =>false
 | .alloc _=>false
 | .buildSlice .. =>false
 |_=>true
def I9:Code→Bool
 | .region _ ops draw=> !draw&&ops.toList.all fun o=>o.guard.isNone&&mM o.op
 |_=>false
def seqW (p:Bool) (K:St→Prop) (σ:St):Prop:=match p with
 |true=>K σ
 |false=>∃σ1,Wk σ σ1∧K σ1
inductive Tr where
 |fin
 |stop
 |br (i:Nat) (t more:Tr)
 |fz (t:Tr)
def Tr.sq:List Nat→Tr→Tr
 | [],t=>t
 |i::l,t=>.br i (Tr.sq l t) .stop
def Tr.alts:Tr→List Nat
 | .br i _ more=>i::more.alts
 |_=>[]
def OH (ops:List Oper) (done:List Nat) (i:Nat):Bool:= !done.contains i&&(match ops[i]? with
 |some o=>o.after.all fun e=> !Region.binds .any e||done.contains e.on
 |none=>false)
def Tr.cover (ops:List Oper) (m:List Nat) (tr:Tr) (done:List Nat):Bool:=
 let rs:=(List.range ops.length).filter (OH ops done)
 !rs.isEmpty&&((match tr with
  | .br q _ .stop =>rs.contains q&&late ops m q
  |_=>false)||rs.all fun i=>tr.alts.contains i)
mutual
def Uy (ops:List Oper) (m:List Nat):Tr→List Nat→Bool
 | .fin,done=>(List.range ops.length).all fun i=>done.contains i
 | .stop,_=>false
 | .fz t,done=>Uy ops m t done
 | .br i t more,done=>(Tr.br i t more).cover ops m done&&Uy ops m t (i::done)&&Qd ops m more done
def Qd (ops:List Oper) (m:List Nat):Tr→List Nat→Bool
 | .br i t more,done=>Uy ops m t (i::done)&&Qd ops m more done
 | .fin,_=>true
 | .stop,_=>true
 | .fz _,_=>true
end
inductive VR where
 |no|al|st (k:Nat)
def CK:List (Nat × Nat)→Nat→VR
 | [],_=>.no
 |(k,j)::r,i=>if i=k then .al else if i=j then .st k else CK r i
def vOk (E:List Bool) (V:List (Nat × Nat)) (l:List Oper) (m:List Nat):Bool:=
 (V.all fun p=>(m.getD p.2 0).testBit p.1 && !E.getD p.1 false&& !E.getD p.2 false&&(match l[p.1]?,l[p.2]? with
  |some x,some y=>x.guard.isNone&&y.guard.isNone&&(match x.op,y.op with| .alloc t,.store t' _ _=>t == t'|_,_=>false)
  |_,_=>false))&&
 (V.all fun p=>V.all fun q=>(p.1 == q.1) == (p.2 == q.2))
def LN (E:List Bool) (V:List (Nat × Nat)) (tr:Tr) (ops:Array Oper):Bool:=
 let l:=ops.toList
 let m:=deps l
 (l.zipIdx.all fun (o,i)=>o.after.all fun e=> !Region.binds .any e||decide (e.on<i))&&
 (l.zipIdx.all fun (o,i)=>E.getD i false||((!OG o||V.any fun p=>p.2 == i)&&o.after.all fun e=> !Region.binds .any e|| !E.getD e.on false))&&
 ((List.range l.length).all fun i=>E.getD i false||(List.range i).all fun j=>E.getD j false||(match l[i]?,l[j]? with
  |some x,some y=>(match x.dst,y.dst with|some d,some d'=>d != d'|_,_=>true)&&(!VW ops x y||(m.getD i 0).testBit j)
  |_,_=>true))&&
 ((List.range l.length).all fun t=> !E.getD t false||(List.range l.length).all fun j=>E.getD j false||(m.getD t 0).testBit j||late l m j)&&
 Uy l m tr ((List.range l.length).filter fun i=> !E.getD i false)&&vOk E V l m
def MQ (P:Program) (ops:Array Oper) (base:Nat) (r:VR) (i:Nat) (o:Oper) (acc:List (Nat × List AV)) (σ:St) (K:List (Nat × List AV)→St→Prop):Prop:=match r with
 | .no =>aops P ops base (i+1) i [o] σ (K acc)
 | .al =>(match o.op with
  | .alloc t=>(0<(tz P t).length ∧(tz P t).length =tsz P t∧isMp ((tz P t).map zAV)=false)∧K acc (σ.put o.dst (.box (base+i) 0))
  |_=>False)
 | .st k=>(match o.op with
  | .store t a x=>(match cellsOf (σ.e x) with
   |some cs=>(cs.length=tsz P t∧0<tsz P t∧cs.all AV.one=true)∧σ.e a= .box (base+k) 0∧K ((base+k,cs)::acc) (σ.put o.dst .any)
   |none=>False)
  |_=>False)
def FS (P:Program) (ops:Array Oper) (base:Nat) (V:List (Nat × Nat)):List Bool→Nat→List Oper→List (Nat × Oper)→List (Nat × List AV)→St→(List (Nat × Oper)→List (Nat × List AV)→St→Prop)→Prop
 |_,_,[],ts,acc,σ,K=>K ts acc σ
 |true::E,i,o::rest,ts,acc,σ,K=>FS P ops base V E (i+1) rest ((i,o)::ts) acc σ K
 |false::E,i,o::rest,ts,acc,σ,K=>MQ P ops base (CK V i) i o acc σ fun acc' σ'=>FS P ops base V E (i+1) rest ts acc' σ' K
 | [],i,o::rest,ts,acc,σ,K=>MQ P ops base (CK V i) i o acc σ fun acc' σ'=>FS P ops base V [] (i+1) rest ts acc' σ' K
def Zp (acc:List (Nat × List AV)) (σ:St) (K:St→Prop):Prop:=EV σ acc∧K ⟨σ.s,σ.t,addB σ.b acc⟩
def aTr (P:Program) (ops:Array Oper) (base:Nat) (ts:List (Nat × Oper)):Tr→St→(St→Prop)→Prop
 | .fin,σ,K=>K σ
 | .stop,_,_=>True
 | .fz t,σ,K=>∃σ1,Nils σ σ1∧aTr P ops base ts t σ1 K
 | .br i t more,σ,K=>(match look ts i with
  |some o=>aops P ops base 0 i [o] σ fun σ'=>aTr P ops base ts t σ' K
  |none=>False)∧aTr P ops base ts more σ K
def leS (s:List (Nat × AV)):List (Nat × AV)→Prop
 | [] =>True
 |(t,v)::r=>(v= .any ∨look s t=some v)∧leS s r
def leO {α:Type} (s:List (Nat × Option α)):List (Nat × Option α)→Prop
 | [] =>True
 |(t,v)::r=>(v=none∨look s t=some v)∧leO s r
def IV {α:Type} (s:List (Nat × α)):List (Nat × α)→Prop
 | [] =>True
 |(t,_)::r=>(look s t).isSome =true∧IV s r
def St.Le (σ σ':St):Prop:=leS σ.s σ'.s∧(leO σ.t σ'.t∧IV σ'.t σ.t)∧leO σ.b σ'.b∧IV σ'.b σ.b
def Zq (S:Nat→Bool):List Nat→Prop
 | [] =>True
 |j::r=>S j=true∧Zq S r
def noS (S:Nat→Bool):List Nat→Prop
 | [] =>True
 |j::r=>S j=false∧noS S r
def Ih (P:Program) (ops:Array Oper) (base:Nat) (F:(Nat→Bool)→St):Nat→List Oper→List (List Nat × List Nat)→Prop
 |_,[],_=>True
 |i,o::os,(d,u)::ds=>(((d.all fun j=>o.after.any fun e=>Region.binds .any e&&e.on == j)=true∧(u.all fun j=>decide (j<ops.size)&&((deps ops.toList).getD j 0).testBit i)=true)∧∀S:Nat→Bool,S i=false→Zq S d→noS S u→aops P ops base 0 i [o] (F S) fun σ'=>St.Le σ' (F fun j=>if j=i then true else S j))∧Ih P ops base F (i+1) os ds
 |_,_::_,[] =>False
def jT (l:List Oper):Bool:=l.zipIdx.all fun (o,i)=>o.after.all fun e=> !Region.binds .any e||decide (e.on<i)
def pc (P:Program) (ops:Array Oper) (base:Nat) (σ:St) (K:St→Prop):Prop:=
 ∃F ds,jT ops.toList=true∧St.Le σ (F fun j=>decide (ops.size≤j))∧Ih P ops base F 0 ops.toList ds∧K (F fun _=>true)
structure Sim (cx:Cx) (N:Nat) (γ:Gh) (σ:St) (a:Act) (w:World):Prop where
 os:OSim cx γ σ.T σ.B w
 sl:∀i,VSim γ.vw γ (σ.g i) (a.tmps.getD i undef)
 td:∀t,γ.tl t→(look σ.t t).isSome =true
 bd:∀b,γ.bl b→(look σ.b b).isSome =true
 df:a.defers=[]
 n:a.tmps.size=N
def SimE (cx:Cx) (N:Nat) (σ:St) (a:Act) (w:World):Prop:=∃γ,Sim cx N γ σ a w
def vB (P:Program) (ops:Array Oper) (σ:St) (K:St→Prop):Prop:=∀ (cx:Cx) (N id:Nat) (a:Act) (w:World),cx.P=P→(∀o ∈ ops.toList,∀d,o.dst=some d→d<N)→SimE cx N σ a w→(Code.region id ops true).wp P (fun e a' w'=>e= .normal ∧∃σ',K σ'∧SimE cx N σ' a' w') a w
def dD (P:Program) (ops:Array Oper) (base:Nat) (draw:Bool) (σ:St) (K:St→Prop):Prop:=match draw with
 |false=>aops P ops base 0 0 ops.toList σ K
 |true=>(∃E V tr,LN E V tr ops=true∧FS P ops base V E 0 ops.toList [] [] σ fun ts acc σ'=>Zp acc σ' fun σ'=>aTr P ops base ts tr σ' K)∨pc P ops base σ K∨vB P ops σ K
def awp (P:Program):Code→(AE→St→Prop)→St→Prop
 | .skip,Q,σ=>Q .normal σ
 | .region id ops draw,Q,σ=>dD P ops (id*1000+1000) draw σ (Q .normal)
 | .seq a b,Q,σ=>awp P a (AE.then (seqW (I9 a) (awp P b Q)) Q) σ
 | .cond c t f,Q,σ=>bV (σ.e c) (awp P t Q σ) (awp P f Q σ)
 | .block id body,Q,σ=>awp P body (AE.inBlock id Q) σ
 | .loop body,Q,σ=>∀L:St→Prop,(∀σ,awp P body (AE.then (fun σ'=>∃σ1,Wk σ' σ1∧L σ1) Q) σ→L σ)→∃σ1,Wk σ σ1∧L σ1
 | .exit id,Q,σ=>Q (.exit id) σ
 | .ret,Q,σ=>Q .ret σ
 |_,_,_=>False
mutual
def Dp:AV→RV→St→(St→Prop)→Prop
 | .int k n,.int k' m,σ,K=>k=k'∧n=m∧K σ
 | .bool b,.bool c,σ,K=>b=c∧K σ
 | .str s,.str s',σ,K=>s=s'∧K σ
 | .nilp,.nilp,σ,K=>K σ
 | .nils,.ow _ rows,σ,K=>rows=[] ∧K σ
 | .bsl _ n _,.ow _ rows,σ,K=>n=0∧rows=[] ∧K σ
 | .own t,.ow ap rows,σ,K=>∃tk,σ.T t=some tk∧tk.rows=rows∧(ap=none∨tk.sz=ap)∧tk.z= .no ∧K (σ.killT t)
 | .ro rows,.ro rows',σ,K=>rows=rows'∧K σ
 | .ro rows,.ow ap rows',σ,K=>ap=none∧rows=[] ∧rows'=[] ∧K σ
 | .agg vs,.agg rs,σ,K=>KV vs rs σ K
 | .tup vs,.tup rs,σ,K=>KV vs rs σ K
 |_,_,_,_=>False
def KV:List AV→List RV→St→(St→Prop)→Prop
 | [],[],σ,K=>K σ
 |v::vs,r::rs,σ,K=>Dp v r σ fun σ'=>KV vs rs σ' K
 |_,_,_,_=>False
end
def Np (P:Program) (σ:St):List ResultVar→(List AV→Prop)→Prop
 | [],K=>K []
 | .tmp t::r,K=>Np P σ r fun vs=>K (σ.g t::vs)
 | .cell a t::r,K=>∃v,Ju P σ.T σ.B t (σ.g a) v∧Np P σ r fun vs=>K (v::vs)
def lx (P:Program) (l:List ResultVar) (r:RV) (σ:St):Prop:=
 Np P σ l fun vs=>match vs with
  | [v] =>Dp v r σ fun _=>True
  |vs=>Dp (.tup vs) r σ fun _=>True
end Go.Proofs.YthenkmapmnkelaaGreatDoor.Ab
