/-
  The abstract walk, third part: what each operation does to an abstract state; contracts; the walk of code ('awp').
-/
import Derived.Test.YtfbnlkaggggmiaaAbB
namespace Go.Proofs.Ytfbnlkaggggmiaa.Ab
set_option linter.unusedVariables false
open Go.RowKit

/-! ### Types -/
inductive TI where
  | int (k : IntKind) | bool | str | sl (e : TypeId) | st (fs : List (Nat × TypeId)) | arr (n : Nat) (e : TypeId) | ptr (e : TypeId) | map (k e : TypeId) | fn | other
def ti (P : Program) (t : TypeId) : TI :=
  match P.underlying t with
  | some (.int k) => .int k
  | some .bool => .bool
  | some .string => .str
  | some (.slice e) => .sl e
  | some (.struct fs) => .st (fs.toList.map fun f => (f.offset, f.type))
  | some (.array n e) => .arr n e
  | some (.pointer e) => .ptr e
  | some (.map k e) => .map k e
  | some (.func _ _ _) => .fn
  | _ => .other
def tsz (P : Program) (t : TypeId) : Nat := ((P.info? t).map (·.size)).getD 0
def TI.isAgg : TI → Bool
  | .st _ | .arr _ _ => true
  | _ => false
def TI.sc : TI → Bool
  | .int _ | .bool | .str | .sl _ | .ptr _ | .map _ _ | .fn => true
  | _ => false
/-- The zero value's cells. -/
def tz (P : Program) (t : TypeId) : List Value := (((P.info? t).bind (·.zero)).map fun v => v.cells.toList).getD []

/-! ### Results, contracts -/
inductive RV where
  | int (k : IntKind) (n : Int)
  | bool (b : Bool)
  | str (s : ByteArray)
  /-- a slice in new memory -/
  | ow (ap : Option (TypeId × Nat)) (rows : List (List D))
  /-- a slice that is read only -/
  | ro (rows : List (List D))
  | agg (vs : List RV)
  | tup (vs : List RV)
  | nilp
mutual
def RSim (w : World) : RV → Value → List Nat → Prop
  | .int k n, v, fp => v = .int k n ∧ (Lit.int k n).wf = true ∧ fp = []
  | .bool b, v, fp => v = .bool b ∧ fp = []
  | .str s, v, fp => v = .string s ∧ s.size ≤ maxLen ∧ fp = []
  | .ow ap rows, v, fp => TokOk w ⟨rows, ap⟩ v fp
  | .ro rows, v, fp => Rep w (.sl rows) v ∧ fp = []
  | .agg vs, v, fp => ∃ us : List Value, v = .agg us.toArray ∧ RSims w vs us fp
  | .tup vs, v, fp => ∃ us : List Value, v = .tuple us.toArray ∧ RSims w vs us fp
  | .nilp, v, fp => v = .pointer none ∧ fp = []
def RSims (w : World) : List RV → List Value → List Nat → Prop
  | [], us, fp => us = [] ∧ fp = []
  | r :: rs, us, fp => ∃ u us' f1 f2, us = u :: us' ∧ RSim w r u f1 ∧ RSims w rs us' f2 ∧ fp = f1 ++ f2
end

/-- Function f, called with arguments that are as told, returns what is told, in new memory, and changes nothing that was there. -/
def callable (P : Program) (f : FuncId) : Bool := (P.funcs[f]?).any fun fn => fn.body.isSome && !(fn.name == "runtime.NumGoroutine")
def AC (P : Program) (f : FuncId) (args : List AV) (r : RV) : Prop :=
  callable P f = true ∧ ∀ (w : World) (us : List Value), w.ShapedOpen P → P.low ≤ w.heap.size → VSims w Gh.none args us →
    Calls P f us.toArray w (fun e w' => ∃ v fp, e = .returned v ∧ RSim w' r v fp ∧ fp.Nodup ∧ (∀ g ∈ fp, w.heap.size ≤ g) ∧ Below w.heap.size w w')

/-! ### States -/
def look {α : Type} : List (Nat × α) → Nat → Option α
  | [], _ => none
  | (j, x) :: r, i => if i = j then some x else look r i
structure St where
  s : List (Nat × AV)
  t : List (Nat × Option Tok)
  b : List (Nat × Option (List AV))
def St.T (σ : St) (t : Nat) : Option Tok := (look σ.t t).join
def St.B (σ : St) (b : Nat) : Option (List AV) := (look σ.b b).join
def St.g (σ : St) (i : Nat) : AV := (look σ.s i).getD .any
mutual
def constAV : Value → AV
  | .int k n => .int k n
  | .bool b => .bool b
  | .string s => .str s
  | .slice none 0 0 => .nils
  | .pointer none => .nilp
  | .agg cs => .agg (constAVs cs.toList)
  | _ => .any
def constAVs : List Value → List AV
  | [] => []
  | v :: vs => constAV v :: constAVs vs
end
def St.e (σ : St) : Operand → AV
  | .tmp t => σ.g t
  | .const v => constAV v
  | .func f => .fn f []
  | .global _ => .any
def St.put (σ : St) (dst : Option Tmp) (v : AV) : St :=
  match dst with
  | some d => { σ with s := (d, v) :: σ.s }
  | none => σ

/-! ### What is read -/
def ofD : D → AV
  | .int k n => .int k n
  | .bool b => .bool b
  | .str s => .str s
  | .sl rows => .ro rows
def ofS : D → AV
  | .int k n => .int k n
  | .bool b => .bool b
  | .str s => .str s
  | .sl _ => .any
def scells (ds : List D) (off n : Nat) : List AV := ((ds.drop off).take n).map ofS
def vcells (vs : List AV) (off n : Nat) : List AV := (vs.drop off).take n

/-! ### From abstract values to what a callee is told -/
def toD (T : Nat → Option Tok) : AV → Option D
  | .int k n => some (.int k n)
  | .bool b => some (.bool b)
  | .str s => some (.str s)
  | .ro rows => some (.sl rows)
  | .nils => some (.sl [])
  | .own t => (T t).map fun tk => .sl tk.rows
  | _ => none
def toDs (T : Nat → Option Tok) : List AV → Option (List D)
  | [] => some []
  | a :: as => match toD T a, toDs T as with
    | some d, some ds => some (d :: ds)
    | _, _ => none
mutual
/-- No slice and no box of the call's own is named. -/
def pureA : AV → Bool
  | .int _ _ | .bool _ | .str _ | .ro _ | .nilp => true
  | .rop vs _ | .fn _ vs | .agg vs => pureAs vs
  | _ => false
def pureAs : List AV → Bool
  | [] => true
  | v :: vs => pureA v && pureAs vs
end
def toA (T : Nat → Option Tok) : AV → Option AV
  | .own t => (T t).map fun tk => .ro tk.rows
  | .nils => some (.ro [])
  | .int k n => some (.int k n)
  | .bool b => some (.bool b)
  | .str s => some (.str s)
  | .ro rows => some (.ro rows)
  | .nilp => some .nilp
  | .rop vs off => if pureAs vs = true then some (.rop vs off) else none
  | .fn f vs => if pureAs vs = true then some (.fn f vs) else none
  | _ => none
def toAs (T : Nat → Option Tok) : List AV → Option (List AV)
  | [] => some []
  | a :: as => match toA T a, toAs T as with
    | some d, some ds => some (d :: ds)
    | _, _ => none
def chunks (sz : Nat) : Nat → List D → List (List D)
  | 0, _ => []
  | n + 1, ds => ds.take sz :: chunks sz n (ds.drop sz)
mutual
def cl (T : Nat → Option Tok) (B : Nat → Option (List AV)) : AV → Option AV
  | .int k n => some (.int k n)
  | .bool b => some (.bool b)
  | .str s => some (.str s)
  | .ro rows => some (.ro rows)
  | .nils => some (.ro [])
  | .nilp => some .nilp
  | .own t => (T t).map fun tk => .ro tk.rows
  | .rop vs off => (cls T B vs).map fun vs => .rop vs off
  | .box b off => match B b with
    | some vs => (toAs T vs).map fun ds => .rop ds off
    | none => none
  | .elt t sz i off => match T t with
    | some tk => match tk.rows[i]? with
      | some row => if row.length = sz then some (.rop (row.map ofD) off) else none
      | none => none
    | none => none
  | .bsl b n sz => match B b with
    | some vs => match toDs T vs with
      | some ds => if ds.length = n * sz then some (.ro (chunks sz n ds)) else none
      | none => none
    | none => none
  | .agg vs => (cls T B vs).map .agg
  | .fn f caps => (cls T B caps).map (.fn f)
  | .tup _ => none
  | .any => none
def cls (T : Nat → Option Tok) (B : Nat → Option (List AV)) : List AV → Option (List AV)
  | [] => some []
  | a :: as => match cl T B a, cls T B as with
    | some x, some xs => some (x :: xs)
    | _, _ => none
end

/-! ### What comes of a call -/
structure Res where
  v : AV
  t : List (Nat × Tok)
  b : List (Nat × List AV)
mutual
def conv (n : Nat) : RV → AV × List (Nat × Tok)
  | .int k x => (.int k x, [])
  | .bool b => (.bool b, [])
  | .str s => (.str s, [])
  | .ow ap rows => (.own n, [(n, ⟨rows, ap⟩)])
  | .ro rows => (.any, [])
  | .agg vs => let r := convs n vs; (.agg r.1, r.2)
  | .tup vs => let r := convs n vs; (.tup r.1, r.2)
  | .nilp => (.nilp, [])
def convs (n : Nat) : List RV → List AV × List (Nat × Tok)
  | [] => ([], [])
  | r :: rs => let x := conv n r; let y := convs (n + x.2.length) rs; (x.1 :: y.1, x.2 ++ y.2)
end

/-! ### Operations that read, compute, make memory, call -/
def arith (op : BinOp) (k : IntKind) (a b : Int) : Option AV :=
  match op with
  | .add => some (.int k (k.wrap (a + b)))
  | .sub => some (.int k (k.wrap (a - b)))
  | .mul => some (.int k (k.wrap (a * b)))
  | .eql => some (.bool (decide (a = b)))
  | .neq => some (.bool (!decide (a = b)))
  | .lss => some (.bool (decide (a < b)))
  | .leq => some (.bool (decide (a ≤ b)))
  | .gtr => some (.bool (decide (b < a)))
  | .geq => some (.bool (decide (b ≤ a)))
  | _ => none
/-- The kinds of the fields of a struct of numbers. -/
def fieldKs (P : Program) : Nat → List Field → Option (List IntKind)
  | _, [] => some []
  | i, f :: fs =>
    if f.offset = i ∧ P.cellsOf f.type = 1 then
      match P.underlying f.type with
      | some (.int k) => (fieldKs P (i + 1) fs).map (k :: ·)
      | _ => none
    else none
def structKs (P : Program) (t : TypeId) : Option (List IntKind) :=
  match P.underlying t with
  | some (.struct fs) => if P.cellsOf t = fs.size ∧ P.keyTypeAt 3 t = true ∧ P.eqGuardType P.depth t = false ∧ fs.all (·.name != "_") = true then fieldKs P 0 fs.toList else none
  | _ => none
def cmpInts : List IntKind → List AV → List AV → Option Bool
  | [], [], [] => some true
  | k :: ks, .int k1 a :: xs, .int k2 b :: ys => if k1 = k ∧ k2 = k then (cmpInts ks xs ys).map (decide (a = b) && ·) else none
  | _, _, _ => none
def Bin (P : Program) (op : BinOp) (t : TypeId) (x y : AV) (v : AV) : Prop :=
  match x, y with
  | .agg xs, .agg ys => ∃ ks b, structKs P t = some ks ∧ cmpInts ks xs ys = some b ∧ match op with
    | .eql => v = .bool b
    | .neq => v = .bool (!b)
    | _ => False
  | .int k a, .int k' b => k = k' ∧ match op with
    | .quo => b ≠ 0 ∧ v = .int k (k.wrap (a.tdiv b))
    | .rem => b ≠ 0 ∧ v = .int k (a.tmod b)
    | _ => arith op k a b = some v
  | .bool a, .bool b => match op, ti P t with
    | .eql, .bool => v = .bool (a == b)
    | .neq, .bool => v = .bool (!(a == b))
    | _, _ => False
  | .str a, .str b => match op with
    | .eql => v = .bool (a.toList == b.toList)
    | .neq => v = .bool (!(a.toList == b.toList))
    | .add => a.size + b.size ≤ maxLen ∧ v = .str (a ++ b)
    | _ => False
  | .nilp, .nilp => match op, ti P t with
    | .eql, .ptr _ => v = .bool true
    | .neq, .ptr _ => v = .bool false
    | _, _ => False
  | .box _ _, .nilp | .rop _ _, .nilp | .nilp, .box _ _ | .nilp, .rop _ _ => match op, ti P t with
    | .eql, .ptr _ => v = .bool false
    | .neq, .ptr _ => v = .bool true
    | _, _ => False
  | _, _ => False
def Uno (op : UnOp) (x : AV) (v : AV) : Prop :=
  match op, x with
  | .not, .bool b => v = .bool (!b)
  | .neg, .int k n => v = .int k (k.wrap (0 - n))
  | _, _ => False
def LenA (P : Program) (T : Nat → Option Tok) (t : TypeId) (x : AV) (v : AV) : Prop :=
  match ti P t, x with
  | .str, .str s => v = .int .i64 s.size
  | .sl _, .ro rows => v = .int .i64 rows.length
  | .sl _, .nils => v = .int .i64 0
  | .sl _, .bsl _ n _ => v = .int .i64 n
  | .sl _, .own t => ∃ tk, T t = some tk ∧ v = .int .i64 tk.rows.length
  | _, _ => False
def fOff (P : Program) (s : TypeId) (f : Nat) : Option (Nat × TypeId) :=
  match ti P s with
  | .st fs => fs[f]?
  | _ => none
def LoadA (P : Program) (T : Nat → Option Tok) (B : Nat → Option (List AV)) (t : TypeId) (a v : AV) : Prop :=
  match a with
  | .box b off => ∃ vs, B b = some vs ∧ if (ti P t).isAgg = true then off + tsz P t ≤ vs.length ∧ v = .agg (vcells vs off (tsz P t)) else (ti P t).sc = true ∧ vs[off]? = some v
  | .rop vs off => if (ti P t).isAgg = true then off + tsz P t ≤ vs.length ∧ v = .agg (vcells vs off (tsz P t)) else (ti P t).sc = true ∧ vs[off]? = some v
  | .elt t' sz i off => ∃ tk row, T t' = some tk ∧ tk.rows[i]? = some row ∧ row.length = sz ∧ if (ti P t).isAgg = true then off + tsz P t ≤ sz ∧ v = .agg (scells row off (tsz P t)) else (ti P t).sc = true ∧ ∃ d, row[off]? = some d ∧ v = ofS d
  | _ => False
/-- The element at a place of a slice that is only read. -/
def RowAt (rows : List (List D)) (n : Int) (sz : Nat) (row : List D) : Prop := 0 ≤ n ∧ rows[n.toNat]? = some row ∧ row.length = sz
def IdxA (P : Program) (T : Nat → Option Tok) (t : TypeId) (x i v : AV) : Prop :=
  match ti P t, x, i with
  | .sl e, .ro rows, .int _ n => 0 < tsz P e ∧ ∃ row, RowAt rows n (tsz P e) row ∧ v = .rop (row.map ofD) 0
  | .sl e, .own t, .int _ n => 0 < tsz P e ∧ ∃ tk row, T t = some tk ∧ RowAt tk.rows n (tsz P e) row ∧ v = .elt t (tsz P e) n.toNat 0
  | _, _, _ => False
def cellsOf : AV → Option (List AV)
  | .agg vs => some vs
  | .any => none
  | .tup _ => none
  | v => some [v]
def zAV : Value → AV
  | .int k n => if n = 0 then .int k 0 else .any
  | .bool b => .bool b
  | .string s => if s.size = 0 then .str s else .any
  | .slice none 0 0 => .nils
  | .pointer none => .nilp
  | _ => .any
def CallA (P : Program) (T : Nat → Option Tok) (B : Nat → Option (List AV)) (pos : Nat) (g : AV) (args : List AV) (r : Res) : Prop :=
  match g with
  | .fn f caps => match cls T B (args ++ caps) with
    | some as => ∃ rv, AC P f as rv ∧ r = ⟨(conv (pos * 16) rv).1, (conv (pos * 16) rv).2, []⟩
    | none => False
  | _ => False
/-- A slice written out: all its elements are given, in order. -/
def partsCells (sz : Nat) : Nat → List (Nat × AV) → Option (List AV)
  | _, [] => some []
  | i, (j, v) :: r => if i = j then
      match cellsOf v, partsCells sz (i + 1) r with
      | some vs, some ws => if vs.length = sz then some (vs ++ ws) else none
      | _, _ => none
    else none
def BuildS (sz n : Nat) (z : List Value) (parts : List (Nat × AV)) (pos : Nat) (r : Res) : Prop :=
  parts.length = n ∧ n * sz ≤ 16777216 ∧ 0 < sz ∧ z.length = sz ∧ match partsCells sz 0 parts with
    | some vs => r = ⟨.bsl pos n sz, [], [(pos, vs)]⟩
    | none => False
def splice {α : Type} : List α → Nat → List α → List α
  | vs, _, [] => vs
  | vs, off, c :: cs => splice (vs.set off c) (off + 1) cs
/-- A struct written out: its parts go into the zero value. -/
def buildP (P : Program) (fs : List (Nat × TypeId)) : List AV → List (Nat × AV) → Option (List AV)
  | vs, [] => some vs
  | vs, (f, v) :: r => match fs[f]?, cellsOf v with
    | some q, some cs => if cs.length = tsz P q.2 ∧ q.1 + cs.length ≤ vs.length then buildP P fs (splice vs q.1 cs) r else none
    | _, _ => none
def zD : Value → Option D
  | .int k n => if n = 0 then some (.int k 0) else none
  | .bool b => some (.bool b)
  | .string s => if s.size = 0 then some (.str s) else none
  | .slice none 0 0 => some (.sl [])
  | _ => none
def zDs : List Value → Option (List D)
  | [] => some []
  | v :: vs => match zD v, zDs vs with
    | some d, some ds => some (d :: ds)
    | _, _ => none
def MakeS (P : Program) (el : TypeId) (pos : Nat) (n m : Int) (r : Res) : Prop :=
  n = m ∧ 0 ≤ n ∧ n.toNat * P.bytesOf el ≤ 281474976710656 ∧ n ≤ 4611686018427387904 ∧ 0 < tsz P el ∧ (tz P el).length = tsz P el ∧ ∃ z, zDs (tz P el) = some z ∧ r = ⟨.own (pos * 16), [(pos * 16, ⟨List.replicate n.toNat z, some (el, tsz P el)⟩)], []⟩
def Ev (P : Program) (pos : Nat) (o : Oper) (e : Operand → AV) (T : Nat → Option Tok) (B : Nat → Option (List AV)) (r : Res) : Prop :=
  match o.op with
  | .move x | .assign x => r = ⟨e x, [], []⟩
  | .pick c a b => ∃ t, e c = .bool t ∧ r = ⟨if t then e a else e b, [], []⟩
  | .box t x => match cellsOf (e x) with
    | some vs => r = ⟨.box pos 0, [], [(pos, vs)]⟩
    | none => False
  | .load t a => ∃ v, LoadA P T B t (e a) v ∧ r = ⟨v, [], []⟩
  | .nilCheck x => match e x with
    | .box b off => r = ⟨.box b off, [], []⟩
    | .rop ds off => r = ⟨.rop ds off, [], []⟩
    | .elt t sz i off => r = ⟨.elt t sz i off, [], []⟩
    | _ => False
  | .binOp op t x y _ => ∃ v, Bin P op t (e x) (e y) v ∧ r = ⟨v, [], []⟩
  | .unOp op _ x => ∃ v, Uno op (e x) v ∧ r = ⟨v, [], []⟩
  | .convert s d x => match ti P d, e x with
    | .int k, .int _ n => (ti P s).sc = true ∧ r = ⟨.int k (k.wrap n), [], []⟩
    | _, _ => False
  | .fieldAddr s x f => match e x with
    | .box b off => ∃ q, fOff P s f = some q ∧ 0 < tsz P q.2 ∧ r = ⟨.box b (off + q.1), [], []⟩
    | .rop ds off => ∃ q, fOff P s f = some q ∧ 0 < tsz P q.2 ∧ r = ⟨.rop ds (off + q.1), [], []⟩
    | .elt t sz i off => ∃ q, fOff P s f = some q ∧ 0 < tsz P q.2 ∧ r = ⟨.elt t sz i (off + q.1), [], []⟩
    | _ => False
  | .field s x f => match e x with
    | .agg vs => ∃ q, fOff P s f = some q ∧ if (ti P q.2).isAgg = true then q.1 + tsz P q.2 ≤ vs.length ∧ r = ⟨.agg (vcells vs q.1 (tsz P q.2)), [], []⟩ else (ti P q.2).sc = true ∧ ∃ v, vs[q.1]? = some v ∧ r = ⟨v, [], []⟩
    | _ => False
  | .indexAddr t x i => ∃ v, IdxA P T t (e x) (e i) v ∧ r = ⟨v, [], []⟩
  | .extract x i => match e x with
    | .tup vs => ∃ v, vs[i]? = some v ∧ r = ⟨v, [], []⟩
    | _ => False
  | .makeFunc (.func f) first caps => first = #[] ∧ r = ⟨.fn f (caps.toList.map e), [], []⟩
  | .call { callee := .builtin .len, args, argTypes } => match args.toList, argTypes.toList with
    | [x], [t] => ∃ v, LenA P T t (e x) v ∧ r = ⟨v, [], []⟩
    | _, _ => False
  | .call { callee := .builtin .max, args, .. } => match args.toList with
    | [x, y] => match e x, e y with
      | .int k n, .int k' m => k = k' ∧ r = ⟨.int k (if n < m then m else n), [], []⟩
      | _, _ => False
    | _ => False
  | .call { callee := .builtin .min, args, .. } => match args.toList with
    | [x, y] => match e x, e y with
      | .int k n, .int k' m => k = k' ∧ r = ⟨.int k (if m < n then m else n), [], []⟩
      | _, _ => False
    | _ => False
  | .call { callee := .value g, args, .. } => CallA P T B pos (e g) (args.toList.map e) r
  | .buildSlice t n parts => match ti P t with
    | .sl el => BuildS (tsz P el) n (tz P el) (parts.toList.map fun x => (x.1, e x.2)) pos r
    | _ => False
  | .alloc t => ∃ vs, tz P t = vs ∧ 0 < vs.length ∧ r = ⟨.box pos 0, [], [(pos, vs.map zAV)]⟩
  | .build t parts => match ti P t with
    | .st fs => (fs.all fun q => decide (0 < tsz P q.2)) = true ∧ 0 < (tz P t).length ∧ ∃ vs, buildP P fs ((tz P t).map zAV) (parts.toList.map fun x => (x.1, e x.2)) = some vs ∧ r = ⟨.agg vs, [], []⟩
    | _ => False
  | .makeSlice t l c => match ti P t, e l, e c with
    | .sl el, .int .i64 n, .int .i64 m => MakeS P el pos n m r
    | _, _, _ => False
  | _ => False

def addT (σ : List (Nat × Option Tok)) : List (Nat × Tok) → List (Nat × Option Tok)
  | [] => σ
  | (n, tk) :: r => (n, some tk) :: addT σ r
def addB (σ : List (Nat × Option (List AV))) : List (Nat × List AV) → List (Nat × Option (List AV))
  | [] => σ
  | (n, tk) :: r => (n, some tk) :: addB σ r
def St.add (σ : St) (dst : Option Tmp) (r : Res) : St := { (σ.put dst r.v) with t := addT σ.t r.t, b := addB σ.b r.b }
def freshT (σ : St) : List (Nat × Tok) → Prop
  | [] => True
  | (n, _) :: r => look σ.t n = none ∧ freshT σ r
def freshB (σ : St) : List (Nat × List AV) → Prop
  | [] => True
  | (n, _) :: r => look σ.b n = none ∧ freshB σ r

/-! ### Operations that write, or take over what they are handed -/
def St.killT (σ : St) (t : Nat) : St := { σ with t := (t, none) :: σ.t }
def St.setT (σ : St) (t : Nat) (tk : Tok) : St := { σ with t := (t, some tk) :: σ.t }
def St.setB (σ : St) (b : Nat) (vs : List AV) : St := { σ with b := (b, some vs) :: σ.b }
/-- Cells that go over into memory of the call's own. -/
def EmbK : List AV → St → (List D → St → Prop) → Prop
  | [], σ, K => K [] σ
  | .int k n :: vs, σ, K => EmbK vs σ fun ds σ' => K (.int k n :: ds) σ'
  | .bool b :: vs, σ, K => EmbK vs σ fun ds σ' => K (.bool b :: ds) σ'
  | .str s :: vs, σ, K => EmbK vs σ fun ds σ' => K (.str s :: ds) σ'
  | .nils :: vs, σ, K => EmbK vs σ fun ds σ' => K (.sl [] :: ds) σ'
  | .bsl _ n _ :: vs, σ, K => n = 0 ∧ EmbK vs σ fun ds σ' => K (.sl [] :: ds) σ'
  | .ro rows :: vs, σ, K => rows = [] ∧ EmbK vs σ fun ds σ' => K (.sl [] :: ds) σ'
  | .own t :: vs, σ, K => ∃ tk, σ.T t = some tk ∧ EmbK vs (σ.killT t) fun ds σ' => K (.sl tk.rows :: ds) σ'
  | _ :: _, _, _ => False
/-- A value that one cell can hold. -/
def AV.one : AV → Bool
  | .any | .agg _ | .tup _ => false
  | _ => true
def StoreK (P : Program) (t : TypeId) (a x : AV) (σ : St) (K : St → Prop) : Prop :=
  match cellsOf x with
  | some cs => cs.length = tsz P t ∧ 0 < tsz P t ∧ cs.all AV.one = true ∧ match a with
    | .box b off => ∃ vs, σ.B b = some vs ∧ off + cs.length ≤ vs.length ∧ K (σ.setB b (splice vs off cs))
    | .elt t' sz i off => EmbK cs σ fun ds σ' => ∃ tk row, σ'.T t' = some tk ∧ tk.rows[i]? = some row ∧ row.length = sz ∧ off + ds.length ≤ sz ∧ K (σ'.setT t' ⟨tk.rows.set i (splice row off ds), tk.ap⟩)
    | _ => False
  | none => False
/-- What is appended to. -/
def AppX (e : TypeId) (sz : Nat) (x : AV) (σ : St) (K : List (List D) → St → Prop) : Prop :=
  match x with
  | .nils => K [] σ
  | .bsl _ n _ => n = 0 ∧ K [] σ
  | .own t => ∃ tk, σ.T t = some tk ∧ tk.ap = some (e, sz) ∧ K tk.rows (σ.killT t)
  | _ => False
def D.flat : D → Bool
  | .sl _ => false
  | _ => true
/-- What is appended. -/
def AppY (sz : Nat) (y : AV) (σ : St) (K : List (List D) → St → Prop) : Prop :=
  match y with
  | .nils => K [] σ
  | .bsl b n sz' => ∃ vs, σ.B b = some vs ∧ sz' = sz ∧ vs.length = n * sz ∧ vs.all AV.one = true ∧ EmbK vs σ fun ds σ' => K (chunks sz n ds) σ'
  | .ro rows => (∀ row ∈ rows, row.length = sz ∧ ∀ d ∈ row, d.flat = true) ∧ K rows σ
  | .own t => ∃ tk, σ.T t = some tk ∧ (∀ row ∈ tk.rows, row.length = sz) ∧ K tk.rows (σ.killT t)
  | _ => False
def AppK (P : Program) (pos : Nat) (t : TypeId) (x y : AV) (σ : St) (K : AV → St → Prop) : Prop :=
  match ti P t with
  | .sl e => 0 < tsz P e ∧ (tz P e).length = tsz P e ∧ AppX e (tsz P e) x σ fun rows σ1 => AppY (tsz P e) y σ1 fun rows2 σ2 =>
      (rows.length + rows2.length) * P.bytesOf e ≤ 140737488355328 ∧ rows.length + rows2.length ≤ maxLen ∧ look σ2.t (pos * 16) = none ∧ K (.own (pos * 16)) (σ2.setT (pos * 16) ⟨rows ++ rows2, some (e, tsz P e)⟩)
  | _ => False

/-- Whether a slice is nil is not always told. -/
def NilB (T : Nat → Option Tok) (v : AV) (b : Bool) : Prop :=
  match v with
  | .nils => b = true
  | .bsl _ _ _ => b = false
  | .ro rows => rows ≠ [] → b = false
  | .own t => ∃ tk, T t = some tk ∧ (tk.rows ≠ [] → b = false)
  | _ => False
def nilable : AV → Bool
  | .nils | .bsl _ _ _ | .ro _ => true
  | _ => false
def aop (P : Program) (pos : Nat) (o : Oper) (σ : St) (K : St → Prop) : Prop :=
  match o.op with
  | .binOp .eql t x (.const (.slice none 0 0)) _ => (∃ e, ti P t = .sl e) ∧ nilable (σ.e x) = true ∧ ∀ b, NilB σ.T (σ.e x) b → K (σ.put o.dst (.bool b))
  | .binOp .neq t x (.const (.slice none 0 0)) _ => (∃ e, ti P t = .sl e) ∧ nilable (σ.e x) = true ∧ ∀ b, NilB σ.T (σ.e x) b → K (σ.put o.dst (.bool !b))
  | .store t a x => StoreK P t (σ.e a) (σ.e x) σ fun σ' => K (σ'.put o.dst .any)
  | .call { callee := .builtin .append, args, argTypes } => match args.toList, argTypes.toList with
    | [x, y], [t, t'] => t' = t ∧ AppK P pos t (σ.e x) (σ.e y) σ fun v σ' => K (σ'.put o.dst v)
    | _, _ => False
  | _ => ∃ r, Ev P pos o σ.e σ.T σ.B r ∧ freshT σ r.t ∧ freshB σ r.b ∧ K (σ.add o.dst r)

/-- The slot of a guard. -/
def gslot (ops : Array Oper) (j : Nat) : Option Tmp := (ops[j]?).bind (·.dst)
def aops (P : Program) (ops : Array Oper) (base : Nat) : Nat → List Oper → St → (St → Prop) → Prop
  | _, [], σ, K => K σ
  | i, o :: rest, σ, K =>
    match o.guard with
    | none => aop P (base + i) o σ fun σ' => aops P ops base (i + 1) rest σ' K
    | some (j, want) => ∃ s, gslot ops j = some s ∧
      ((∃ b, σ.g s = .bool b ∧
        (b = want → aop P (base + i) o (σ.put (some s) (.bool want)) fun σ' => aops P ops base (i + 1) rest σ' K) ∧
        (b = !want → aops P ops base (i + 1) rest ((σ.put (some s) (.bool (!want))).put o.dst (.tup [])) K)) ∨
      (σ.g s = .tup [] ∧ aops P ops base (i + 1) rest (σ.put o.dst (.tup [])) K))

/-! ### Regions whose order is drawn: what is asked of their text -/
def isEff (o : Oper) : Bool :=
  match o.op with
  | .store _ _ _ => true
  | .binOp .eql _ _ (.const (.slice none 0 0)) _ => true
  | .binOp .neq _ _ (.const (.slice none 0 0)) _ => true
  | .call { callee := .builtin .append, .. } => true
  | _ => false
/-- Bit masks of what each operation waits for, itself left out. -/
def mask (acc : List Nat) (o : Oper) : Nat :=
  o.after.toList.foldl (fun s e => if Region.binds .any e then s ||| (2 ^ e.on ||| acc.getD e.on 0) else s) 0
def depsAux : List Nat → List Oper → List Nat
  | acc, [] => acc
  | acc, o :: os => depsAux (acc ++ [mask acc o]) os
def deps (ops : List Oper) : List Nat := depsAux [] ops
def headN : List Oper → Nat
  | [] => 0
  | o :: l => if isEff o then 0 else headN l + 1
def looks (ops : Array Oper) (o : Oper) : List Tmp :=
  (o.op.operands.toList.filterMap fun | .tmp t => some t | _ => none) ++ (match o.guard with | some (j, _) => (gslot ops j).toList | none => [])
/-- Do two operations touch the same slot? -/
def touch (ops : Array Oper) (x y : Oper) : Bool :=
  (match x.dst with | some d => (looks ops y).contains d || y.dst == some d | none => false) || (match y.dst with | some d => (looks ops x).contains d | none => false)
def drawOk (ops : Array Oper) : Bool :=
  let l := ops.toList
  let m := deps l
  let n := headN l
  (l.zipIdx.all fun (o, i) => o.after.all fun e => !Region.binds .any e || decide (e.on < i)) &&
  ((List.range n).all fun i => (List.range i).all fun j => match l[i]?, l[j]? with
    | some x, some y => (match x.dst, y.dst with | some d, some d' => d != d' | _, _ => true) && (!touch ops x y || (m.getD i 0).testBit j)
    | _, _ => true) &&
  ((List.range l.length).all fun t => decide (t < n) || (List.range t).all fun i => (m.getD t 0).testBit i)

inductive AE where
  | normal | exit (id : Nat) | ret
def AE.then (next : St → Prop) (Q : AE → St → Prop) : AE → St → Prop
  | .normal, σ => next σ
  | .exit id, σ => Q (.exit id) σ
  | .ret, σ => Q .ret σ
def AE.inBlock (id : Nat) (Q : AE → St → Prop) : AE → St → Prop
  | .exit id', σ => if id' = id then Q .normal σ else Q (.exit id') σ
  | .normal, σ => Q .normal σ
  | .ret, σ => Q .ret σ
def ACond (v : AV) (t f : Prop) : Prop := ∃ b, v = .bool b ∧ (b = true → t) ∧ (b = false → f)

/-! ### A state that tells less, its tokens and boxes under other numbers -/
mutual
def ren (rt rb : List (Nat × Nat)) : AV → AV
  | .own t => .own ((look rt t).getD t)
  | .box b off => .box ((look rb b).getD b) off
  | .bsl b n sz => .bsl ((look rb b).getD b) n sz
  | .elt t sz i off => .elt ((look rt t).getD t) sz i off
  | .agg vs => .agg (rens rt rb vs)
  | .tup vs => .tup (rens rt rb vs)
  | .fn f vs => .fn f (rens rt rb vs)
  | .any => .any
  | .int k n => .int k n
  | .bool b => .bool b
  | .str s => .str s
  | .ro rows => .ro rows
  | .rop vs off => .rop (rens rt rb vs) off
  | .nilp => .nilp
  | .nils => .nils
def rens (rt rb : List (Nat × Nat)) : List AV → List AV
  | [] => []
  | v :: vs => ren rt rb v :: rens rt rb vs
end
mutual
/-- All tokens and boxes that are named are on the lists. -/
def known (rt rb : List (Nat × Nat)) : AV → Bool
  | .own t => (look rt t).isSome
  | .box b off => (look rb b).isSome
  | .bsl b n sz => (look rb b).isSome
  | .elt t sz i off => (look rt t).isSome
  | .agg vs => knowns rt rb vs
  | .tup vs => knowns rt rb vs
  | .fn f vs => knowns rt rb vs
  | .rop vs _ => knowns rt rb vs
  | _ => true
def knowns (rt rb : List (Nat × Nat)) : List AV → Bool
  | [] => true
  | v :: vs => known rt rb v && knowns rt rb vs
end
def WeakS (rt rb : List (Nat × Nat)) (σ : St) : List (Nat × AV) → Prop
  | [] => True
  | (i, av) :: r => known rt rb av = true ∧ σ.g i = ren rt rb av ∧ WeakS rt rb σ r
def WeakT (rt : List (Nat × Nat)) (σ : St) : List (Nat × Option Tok) → Prop
  | [] => True
  | (t, some tk) :: r => (∃ n, look rt t = some n ∧ σ.T n = some tk) ∧ WeakT rt σ r
  | (t, none) :: r => (look rt t).isSome = true ∧ WeakT rt σ r
def WeakB (rt rb : List (Nat × Nat)) (σ : St) : List (Nat × Option (List AV)) → Prop
  | [] => True
  | (b, some vs) :: r => (∃ n, look rb b = some n ∧ knowns rt rb vs = true ∧ σ.B n = some (rens rt rb vs)) ∧ WeakB rt rb σ r
  | (b, none) :: r => (look rb b).isSome = true ∧ WeakB rt rb σ r
/-- The lists name what the new state has, each once. -/
def WeakBy (rt rb : List (Nat × Nat)) (σ σ0 : St) : Prop :=
  ((rt.map (·.2)).Nodup ∧ (rb.map (·.2)).Nodup) ∧ ((rt.all fun p => (look σ0.t p.1).isSome) = true ∧ (rb.all fun p => (look σ0.b p.1).isSome) = true) ∧ WeakS rt rb σ σ0.s ∧ WeakT rt σ σ0.t ∧ WeakB rt rb σ σ0.b
def Weak0 (σ σ0 : St) : Prop := ∃ rt rb, WeakBy rt rb σ σ0
/-- A nil slice becomes a token; a cell of a box is forgotten. -/
inductive Nils : St → St → Prop where
  | done (σ : St) : Nils σ σ
  | slot {σ σ1 : St} (i t : Nat) (ap : Option (TypeId × Nat)) (h : σ.g i = .nils) (ht : look σ.t t = none) (hk : Nils ⟨(i, .own t) :: σ.s, (t, some ⟨[], ap⟩) :: σ.t, σ.b⟩ σ1) : Nils σ σ1
  | cell {σ σ1 : St} (b j t : Nat) (ap : Option (TypeId × Nat)) (vs : List AV) (hb : σ.B b = some vs) (h : vs[j]? = some .nils) (ht : look σ.t t = none) (hk : Nils ⟨σ.s, (t, some ⟨[], ap⟩) :: σ.t, (b, some (vs.set j (.own t))) :: σ.b⟩ σ1) : Nils σ σ1
  | drop {σ σ1 : St} (b j : Nat) (vs : List AV) (hb : σ.B b = some vs) (hk : Nils ⟨σ.s, σ.t, (b, some (vs.set j .any)) :: σ.b⟩ σ1) : Nils σ σ1
def Weak (σ σ0 : St) : Prop := ∃ σ1, Nils σ σ1 ∧ Weak0 σ1 σ0

inductive Wk : St → St → Prop where
  | nil (σ : St) : Wk σ σ
  | cons {σ σ1 σ2 : St} (h : Weak σ σ1) (k : Wk σ1 σ2) : Wk σ σ2
theorem Wk.one {σ σ1 : St} (h : Weak σ σ1) : Wk σ σ1 := .cons h (.nil σ1)
theorem Wk.trans {a b c : St} (h : Wk a b) (k : Wk b c) : Wk a c := by
  induction h with
  | nil σ => exact k
  | cons h _ ih => exact .cons h (ih k)
/-- A region without guards. -/
def plain : Code → Bool
  | .region _ ops _ => ops.toList.all fun o => o.guard.isNone
  | _ => false
/-- Between two statements the state may be told with less, but behind a region without guards. -/
def seqW (p : Bool) (K : St → Prop) (σ : St) : Prop := match p with
  | true => K σ
  | false => ∃ σ1, Wk σ σ1 ∧ K σ1
def awp (P : Program) : Code → (AE → St → Prop) → St → Prop
  | .skip, Q, σ => Q .normal σ
  | .region id ops draw, Q, σ => aops P ops (id * 1000) 0 ops.toList σ (Q .normal)
  | .seq a b, Q, σ => awp P a (AE.then (seqW (plain a) (awp P b Q)) Q) σ
  | .cond c t f, Q, σ => ACond (σ.e c) (awp P t Q σ) (awp P f Q σ)
  | .block id body, Q, σ => awp P body (AE.inBlock id Q) σ
  | .loop body, Q, σ => ∀ L : St → Prop, (∀ σ, awp P body (AE.then (fun σ' => ∃ σ1, Wk σ' σ1 ∧ L σ1) Q) σ → L σ) → ∃ σ1, Wk σ σ1 ∧ L σ1
  | .exit id, Q, σ => Q (.exit id) σ
  | .ret, Q, σ => Q .ret σ
  | _, _, _ => False

/-! ### Results -/
mutual
def RetR : AV → RV → St → (St → Prop) → Prop
  | .int k n, .int k' m, σ, K => k = k' ∧ n = m ∧ K σ
  | .bool b, .bool c, σ, K => b = c ∧ K σ
  | .str s, .str s', σ, K => s = s' ∧ K σ
  | .nilp, .nilp, σ, K => K σ
  | .nils, .ow _ rows, σ, K => rows = [] ∧ K σ
  | .bsl _ n _, .ow _ rows, σ, K => n = 0 ∧ rows = [] ∧ K σ
  | .own t, .ow ap rows, σ, K => ∃ tk, σ.T t = some tk ∧ tk.rows = rows ∧ (ap = none ∨ tk.ap = ap) ∧ K (σ.killT t)
  | .ro rows, .ow ap rows', σ, K => ap = none ∧ rows = [] ∧ rows' = [] ∧ K σ
  | .ro rows, .ro rows', σ, K => rows = rows' ∧ K σ
  | .agg vs, .agg rs, σ, K => RetRs vs rs σ K
  | .tup vs, .tup rs, σ, K => RetRs vs rs σ K
  | _, _, _, _ => False
def RetRs : List AV → List RV → St → (St → Prop) → Prop
  | [], [], σ, K => K σ
  | v :: vs, r :: rs, σ, K => RetR v r σ fun σ' => RetRs vs rs σ' K
  | _, _, _, _ => False
end
def ResA (P : Program) (σ : St) : List ResultVar → (List AV → Prop) → Prop
  | [], K => K []
  | .tmp t :: r, K => ResA P σ r fun vs => K (σ.g t :: vs)
  | .cell a t :: r, K => ∃ v, LoadA P σ.T σ.B t (σ.g a) v ∧ ResA P σ r fun vs => K (v :: vs)
def RetOk (P : Program) (l : List ResultVar) (r : RV) (σ : St) : Prop :=
  ResA P σ l fun vs => match vs with
    | [v] => RetR v r σ fun _ => True
    | vs => RetR (.tup vs) r σ fun _ => True
end Go.Proofs.Ytfbnlkaggggmiaa.Ab
