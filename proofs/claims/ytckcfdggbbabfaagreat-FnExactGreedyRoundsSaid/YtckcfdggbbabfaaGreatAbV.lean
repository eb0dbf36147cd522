/-
  The abstract walk as rules, third part: memory, calls, results, loops.
-/
import Derived.Test.YtckcfdggbbabfaaGreatAbU
import Derived.IntWalk
namespace Go.Proofs.YtckcfdggbbabfaaGreat.Ab
set_option linter.unusedVariables false
open Go.RowKit
section
variable {P:Program} {σ:St} {K:St→Prop} {Q:AE→St→Prop}
def jX (t:TI):Prop:=match t with| .str =>True|_=>False
@[go_sem] theorem fW:jX .str =True:=rfl
@[go_sem] theorem dA {t:TypeId} {rows:List (List D)} {K:AV→Prop}:QX P t (.ro rows) σ K=slX (ti P t) fun _=>K (.int .i64 rows.length):=by
 simp only [QX,OM,slX]
 generalize ti P t=q
 cases q <;> simp
@[go_sem] theorem aM {t:TypeId} {t':Nat} {K:AV→Prop}:QX P t (.own t') σ K=slX (ti P t) fun _=>optX (σ.T t') fun tk=>K (.int .i64 tk.rows.length):=by
 simp only [QX,OM,slX,optX]
 generalize ti P t=q
 cases q with
 |sl e=>exact propext ⟨fun ⟨v,⟨tk,h1,h2⟩,h3⟩=>⟨tk,h1,h2 ▸ h3⟩,fun ⟨tk,h1,h3⟩=>⟨_,⟨tk,h1,rfl⟩,h3⟩⟩
 |_=>simp
@[go_sem] theorem aN {t:TypeId} {t' g:Nat} {p:Pth} {K:AV→Prop}:QX P t (.sub t' g p) σ K=slX (ti P t) fun _=>optX (subR σ.T t' g p) fun rows=>K (.int .i64 rows.length):=by
 simp only [QX,OM,slX,optX]
 generalize ti P t=q
 cases q with
 |sl e=>exact propext ⟨fun ⟨v,⟨tk,h1,h2⟩,h3⟩=>⟨tk,h1,h2 ▸ h3⟩,fun ⟨tk,h1,h3⟩=>⟨_,⟨tk,h1,rfl⟩,h3⟩⟩
 |_=>simp
def U1 (t:TI) (K:TypeId→TypeId→Prop):Prop:=match t with| .map k e=>K k e|_=>False
@[go_sem] theorem fX {k e:TypeId} {K:TypeId→TypeId→Prop}:U1 (.map k e) K=K k e:=rfl
def Tc (o:Option (List AV)) (K:KT→List (List D)→Prop):Prop:=∃q rows,o=some [.mpc q rows] ∧K q rows
@[go_sem] theorem eH {q:KT} {rows:List (List D)} {K:KT→List (List D)→Prop}:Tc (some [.mpc q rows]) K=K q rows:=by
 simp only [Tc,Option.some.injEq,List.cons.injEq,AV.mpc.injEq,and_true]
 exact propext ⟨fun ⟨q',r',⟨h1,h2⟩,h3⟩=>h1 ▸ h2 ▸ h3,fun h=>⟨q,rows,⟨rfl,rfl⟩,h⟩⟩
@[go_sem] theorem aO {t:TypeId} {b:Nat} {K:AV→Prop}:QX P t (.mpr b) σ K=U1 (ti P t) fun _ _=>Tc (σ.B b) fun _ rows=>K (.int .i64 rows.length):=by
 simp only [QX,OM,U1,Tc]
 generalize ti P t=q
 cases q with
 |map k e=>exact propext ⟨fun ⟨v,⟨q,rows,h1,h2⟩,h3⟩=>⟨q,rows,h1,h2 ▸ h3⟩,fun ⟨q,rows,h1,h3⟩=>⟨_,⟨q,rows,h1,rfl⟩,h3⟩⟩
 |_=>simp
def Mt {α:Type} (v:α) (K:α→Prop):Prop:=∃y,v=y∧K y
theorem IU {α:Type} {v:α} {K:α→Prop}:Mt v K=K v:=by simp [Mt]
def bxX (pos:Nat) (cs:Option (List AV)) (dst:Option Tmp) (v:AV) (σ:St) (K:St→Prop):Prop:=optX cs fun vs=>AU (look σ.b pos=none) (K ((σ.put dst v).setB pos vs))
def bxZ (pos:Nat) (cs:Option (List AV)) (dst:Option Tmp) (v:AV) (σ:St) (K:St→Prop):Prop:=bxX pos cs dst v σ K
theorem dB {pos:Nat} {cs:Option (List AV)} {dst:Option Tmp} {v:AV}:bxX pos cs dst v σ K=Az cs fun o=>bxZ pos o dst v σ K:=rfl
@[go_sem ↓] theorem fY {pos:Nat} {vs:List AV} {dst:Option Tmp} {v:AV}:bxZ pos (some vs) dst v σ K=AU (look σ.b pos=none) (K ((σ.put dst v).setB pos vs)):=by simp [bxZ,bxX,optX]
theorem IV {dst:Option Tmp} {v:AV} {pos:Nat} {vs:List AV}:σ.add dst ⟨v,[],[(pos,vs)]⟩=(σ.put dst v).setB pos vs:=by cases dst <;> rfl
attribute [go_sem] cellsOf
theorem fZ {pos:Nat} {dst:Option Tmp} {t:TypeId} {x:Operand}:opX P pos dst (.box t x) σ K=bxX pos (cellsOf (σ.e x)) dst (.box pos 0) σ K:=by
 rw [Nj (fun _=>by simp only [aop])]
 simp only [Ev,bxX]
 split
 ·rename_i vs h
  rw [h,GP]
  refine propext ⟨?_,?_⟩
  ·rintro ⟨r,rfl,-,h1,h2⟩
   exact⟨h1.1,by rw [← IV]; exact h2⟩
  ·rintro ⟨h1,h2⟩
   exact⟨_,rfl,trivial,⟨h1,trivial⟩,by rw [IV]; exact h2⟩
 ·rename_i h
  rw [h,RO]
  simp
theorem aP {pos:Nat} {dst:Option Tmp} {t:TypeId}:opX P pos dst (.alloc t) σ K=AU (0<(tz P t).length) (bxX pos (some ((tz P t).map zAV)) dst (.box pos 0) σ K):=by
 rw [Nj (fun _=>by simp only [aop])]
 simp only [Ev,bxX,GP,AU]
 refine propext ⟨?_,?_⟩
 ·rintro ⟨r,⟨vs,rfl,h0,rfl⟩,-,h1,h2⟩
  exact⟨h0,h1.1,by rw [← IV]; exact h2⟩
 ·rintro ⟨h0,h1,h2⟩
  exact⟨_,⟨_,rfl,h0,rfl⟩,trivial,⟨h1,trivial⟩,by rw [IV]; exact h2⟩
attribute [go_sem] zAV
def pvs (σ:St):List (Nat × Operand)→List (Nat × AV)
 | [] =>[]
 |x::xs=>(x.1,σ.e x.2)::pvs σ xs
theorem V0 {xs:List (Nat × Operand)}:pvs σ xs=xs.map fun x=>(x.1,σ.e x.2):=by induction xs with|nil=>rfl|cons x xs ih=>simp [pvs,ih]
attribute [go_sem] pvs C9
def bsX (P:Program) (pos:Nat) (e:TypeId) (n:Nat) (parts:List (Nat × AV)) (dst:Option Tmp) (σ:St) (K:St→Prop):Prop:=
 AU (parts.length=n∧n*tsz P e≤16777216∧0<tsz P e∧(tz P e).length =tsz P e) (bxX pos (C9 (tsz P e) 0 parts) dst (.bsl pos n (tsz P e)) σ K)
@[go_sem ↓] theorem aQ {pos:Nat} {dst:Option Tmp} {t:TypeId} {n:Nat} {parts:List (Nat × Operand)}:opX P pos dst (.buildSlice t n parts.toArray) σ K=slX (ti P t) fun e=>Az (pvs σ parts) fun ps=>bsX P pos e n ps dst σ K:=by
 rw [Nj (fun _=>by simp only [aop])]
 simp only [Ev,slX,Az,V0]
 generalize ti P t=q
 split
 ·simp only [Xv,bsX,bxX,AU]
  refine propext ⟨?_,?_⟩
  ·rintro ⟨r,⟨h1,h2,h3,h4,h5⟩,-,h6,h7⟩
   split at h5
   ·rename_i vs h8
    subst h5
    rw [h8,GP]
    exact⟨⟨h1,h2,h3,h4⟩,h6.1,by rw [← IV]; exact h7⟩
   ·exact h5.elim
  ·rintro ⟨⟨h1,h2,h3,h4⟩,vs,h8,h6,h7⟩
   exact⟨⟨_,[],[(pos,vs)]⟩,⟨h1,h2,h3,h4,by rw [h8]⟩,trivial,⟨h6,trivial⟩,by rw [IV]; exact h7⟩
 ·simp
attribute [go_sem] bsX
attribute [go_sem] KI
def Td (P:Program) (t:TI) (K:List (Nat × TypeId)→Prop):Prop:=match t with| .st fs=>K fs| .arr n el=>AU (0<tsz P el) (K (KI (tsz P el) el n 0))|_=>False
@[go_sem] theorem aR {fs:List (Nat × TypeId)} {K:List (Nat × TypeId)→Prop}:Td P (.st fs) K=K fs:=rfl
def bpX (P:Program) (fs:List (Nat × TypeId)) (vs:List AV) (ps:List (Nat × AV)) (K:AV→Prop):Prop:=∃ws,JS P fs vs ps=some ws∧K (.agg ws)
@[go_sem] theorem aS {fs:List (Nat × TypeId)} {vs:List AV} {K:AV→Prop}:bpX P fs vs [] K=K (.agg vs):=by simp [bpX,JS]
@[go_sem] theorem Yo {fs:List (Nat × TypeId)} {vs:List AV} {f:Nat} {v:AV} {ps:List (Nat × AV)} {K:AV→Prop}:bpX P fs vs ((f,v)::ps) K=optX fs[f]? fun q=>optX (cellsOf v) fun cs=>AU (cs.length=tsz P q.2 ∧q.1 +cs.length≤vs.length) (Az (splice vs q.1 cs) fun vs=>bpX P fs vs ps K):=by
 unfold bpX optX AU Az
 rw [JS]
 cases fs[f]? with
 |none=>simp
 | some q=>
  cases cellsOf v with
  |none=>simp
  | some cs=>
   by_cases hc:cs.length=tsz P q.2 ∧q.1 +cs.length≤vs.length
   ·simp only [if_pos hc,Option.some.injEq,exists_eq_left']
    exact propext ⟨fun h=>⟨hc,h⟩,fun h=>h.2⟩
   ·simp only [if_neg hc,Option.some.injEq,exists_eq_left']
    refine propext ⟨?_,?_⟩
    ·rintro ⟨_,h,_⟩; cases h
    ·intro h; exact absurd h.1 hc
theorem aT {pos:Nat} {dst:Option Tmp} {t:TypeId} {parts:List (Nat × Operand)}:opX P pos dst (.build t parts.toArray) σ K=Td P (ti P t) fun fs=>AU ((fs.all fun q=>decide (0<tsz P q.2))=true∧0<(tz P t).length) (bpX P fs ((tz P t).map zAV) (pvs σ parts) fun v=>K (σ.put dst v)):=by
 rw [Fw (p:=fun v=>Td P (ti P t) fun fs=>AU ((fs.all fun q=>decide (0<tsz P q.2))=true∧0<(tz P t).length) (bpX P fs ((tz P t).map zAV) (pvs σ parts) fun u=>v=u)) (fun _=>by simp only [aop]) (fun r=>by
  simp only [Ev,Td,AU,bpX,V0]
  generalize ti P t=q
  cases q with
  |st fs=>
   refine propext ⟨?_,?_⟩
   ·rintro ⟨h1,h2,vs,h3,rfl⟩; exact⟨_,⟨⟨h1,h2⟩,vs,h3,rfl⟩,rfl⟩
   ·rintro ⟨v,⟨⟨h1,h2⟩,vs,h3,rfl⟩,rfl⟩; exact⟨h1,h2,vs,h3,rfl⟩
  |arr n el=>
   refine propext ⟨?_,?_⟩
   ·rintro ⟨h0,h1,h2,vs,h3,rfl⟩; exact⟨_,⟨h0,⟨h1,h2⟩,vs,h3,rfl⟩,rfl⟩
   ·rintro ⟨v,⟨h0,⟨h1,h2⟩,vs,h3,rfl⟩,rfl⟩; exact⟨h0,h1,h2,vs,h3,rfl⟩
  |_=>simp)]
 unfold Td AU bpX
 generalize ti P t=q
 cases q with
 |st fs=>
  refine propext ⟨?_,?_⟩
  ·rintro ⟨v,⟨h1,vs,h3,rfl⟩,hk⟩; exact⟨h1,vs,h3,hk⟩
  ·rintro ⟨h1,vs,h3,hk⟩; exact⟨_,⟨h1,vs,h3,rfl⟩,hk⟩
 |arr n el=>
  refine propext ⟨?_,?_⟩
  ·rintro ⟨v,⟨h0,h1,vs,h3,rfl⟩,hk⟩; exact⟨h0,h1,vs,h3,hk⟩
  ·rintro ⟨h0,h1,vs,h3,hk⟩; exact⟨_,⟨h0,h1,vs,h3,rfl⟩,hk⟩
 |_=>simp
attribute [go_sem] zD zDs
@[go_sem] theorem fc {n:Int}:leX n n=True:=eq_true (Int.le_refl n)
def mkX (P:Program) (pos:Nat) (e:TypeId) (n m:AV) (dst:Option Tmp) (σ:St) (K:St→Prop):Prop:=match n,m with
 | .int .i64 n,.int .i64 m=>AU (leX n m) (AU (0≤n∧m.toNat*P.bytesOf e≤281474976710656∧m≤4611686018427387904) (AU (0<tsz P e∧(tz P e).length =tsz P e) (optX (zDs (tz P e)) fun z=>AU (look σ.t (pos*16)=none) (Mt (List.replicate n.toNat z) fun rows=>K ((σ.put dst (.own (pos*16))).setT (pos*16) ⟨rows,some (tsz P e),0,false⟩)))))
 |_,_=>False
@[go_sem] theorem aU {pos:Nat} {e:TypeId} {n m:Int} {dst:Option Tmp}:mkX P pos e (.int .i64 n) (.int .i64 m) dst σ K=AU (leX n m) (AU (0≤n∧m.toNat*P.bytesOf e≤281474976710656∧m≤4611686018427387904) (AU (0<tsz P e∧(tz P e).length =tsz P e) (optX (zDs (tz P e)) fun z=>AU (look σ.t (pos*16)=none) (Mt (List.replicate n.toNat z) fun rows=>K ((σ.put dst (.own (pos*16))).setT (pos*16) ⟨rows,some (tsz P e),0,false⟩))))):=rfl
theorem V1 {dst:Option Tmp} {v:AV} {n:Nat} {tk:Tok}:σ.add dst ⟨v,[(n,tk)],[]⟩=(σ.put dst v).setT n tk:=by cases dst <;> rfl
theorem Te {pos:Nat} {dst:Option Tmp} {t:TypeId} {l c:Operand}:opX P pos dst (.makeSlice t l c) σ K=slX (ti P t) fun e=>mkX P pos e (σ.e l) (σ.e c) dst σ K:=by
 rw [Nj (fun _=>by simp only [aop])]
 simp only [Ev,slX,mkX]
 generalize ti P t=q
 cases q with
 | sl e=>
  generalize σ.e l=u
  generalize σ.e c=v
  split
  ·rename_i el n m h1
   cases h1
   simp only [be,AU,optX,IU]
   refine propext ⟨?_,?_⟩
   ·rintro ⟨r,⟨k1,k2,k3,k4,k5,k6,z,k7,rfl⟩,k8,-,k9⟩
    exact⟨k1,⟨k2,k3,k4⟩,⟨k5,k6⟩,z,k7,k8.1,by rw [← V1]; exact k9⟩
   ·rintro ⟨k1,⟨k2,k3,k4⟩,⟨k5,k6⟩,z,k7,k8,k9⟩
    exact⟨⟨_,[(pos*16,⟨_,some (tsz P e),0,false⟩)],[]⟩,⟨k1,k2,k3,k4,k5,k6,z,k7,rfl⟩,⟨k8,trivial⟩,trivial,by rw [V1]; exact k9⟩
  ·rename_i hno
   have:∀p:Prop,(∃r:Res,False∧p)=False:=fun p=>by simp
   simp only [false_and,exists_false]
   refine propext ⟨False.elim,fun h=>?_⟩
   split at h
   ·exact hno e _ _ rfl rfl rfl
   ·exact h
 |_=>simp
def RQ (P:Program) (L:Bool) (pos:Nat) (f:FuncId) (args:List AV) (as:Option (List AV)) (dst:Option Tmp) (σ:St) (K:St→Prop) (_:Wrap L):Prop:=
 ((∃bs rv,as=some bs∧AC P f bs rv∧CV σ (conv (pos*16) rv).2 ∧K (σ.add dst ⟨(conv (pos*16) rv).1,(conv (pos*16) rv).2,[]⟩))∨
  ∃bs rv qt qb,AG P f bs [] [] rv qt qb∧cls (fun _=>none) (fun _=>none) args=some bs∧((qt=[] ∧Qu rv=true∧K (σ.add dst ⟨rv,[],[]⟩))∨(∃q tk,qt=[(q,tk)] ∧rv= .own q∧tk.gen=0∧look σ.t (pos*16)=none∧K (σ.add dst ⟨.own (pos*16),[(pos*16,tk)],[]⟩))∨(∃q k,rv= .box q k)∧K (σ.add dst ⟨.rop [] 0,[],[]⟩)))∨
 (L=true∧Vc P f args σ fun v σ'=>K (σ'.put dst v))
def clX (P:Program) (L:Bool) (pos:Nat) (g:AV) (args:List AV) (dst:Option Tmp) (σ:St) (K:St→Prop) (w:Wrap L):Prop:=match g with
 | .fn f caps=>RQ P L pos f (args++caps) (cls σ.T σ.B (args++caps)) dst σ K w
 |_=>False
@[go_sem] theorem dC {L:Bool} {wL:Wrap L} {pos:Nat} {f:FuncId} {caps args:List AV} {dst:Option Tmp}:clX P L pos (.fn f caps) args dst σ K wL=Az (args++caps) fun vs=>Az (cls σ.T σ.B vs) fun r=>RQ P L pos f vs r dst σ K wL:=rfl
theorem dD {L:Bool} {wL:Wrap L} {pos:Nat} {dst:Option Tmp} {g:Operand} {args:List Operand} {ts:Array TypeId}:opL P L pos dst (.call ⟨.value g,args.toArray,ts⟩) σ K wL=clX P L pos (σ.e g) (evs σ args) dst σ K wL:=by
 have h1:opX P pos dst (.call ⟨.value g,args.toArray,ts⟩) σ K=match σ.e g with
   | .fn f caps=>(∃bs rv,cls σ.T σ.B (evs σ args++caps)=some bs∧AC P f bs rv∧CV σ (conv (pos*16) rv).2 ∧K (σ.add dst ⟨(conv (pos*16) rv).1,(conv (pos*16) rv).2,[]⟩))∨
     ∃bs rv qt qb,AG P f bs [] [] rv qt qb∧cls (fun _=>none) (fun _=>none) (evs σ args++caps)=some bs∧((qt=[] ∧Qu rv=true∧K (σ.add dst ⟨rv,[],[]⟩))∨(∃q tk,qt=[(q,tk)] ∧rv= .own q∧tk.gen=0∧look σ.t (pos*16)=none∧K (σ.add dst ⟨.own (pos*16),[(pos*16,tk)],[]⟩))∨(∃q k,rv= .box q k)∧K (σ.add dst ⟨.rop [] 0,[],[]⟩))
   |_=>False:=by
  rw [Nj (fun _=>by simp only [aop])]
  simp only [Ev,Ow,R0]
  generalize σ.e g=v
  split
  ·refine propext ⟨?_,?_⟩
   ·rintro ⟨r,h1,h2,-,h4⟩
    rcases h1 with h1|h1
    ·split at h1
     ·rename_i as has
      obtain⟨rv,h5,rfl⟩:=h1
      exact .inl ⟨as,rv,has,h5,h2,h4⟩
     ·exact h1.elim
    ·obtain⟨as,rv,qt,qb,h5,h6,h7⟩:=h1
     rcases h7 with ⟨h7,h8,rfl⟩|⟨q,tk,h7,h8,h9,rfl⟩|⟨h7,rfl⟩
     ·exact .inr ⟨as,rv,qt,qb,h5,h6,.inl ⟨h7,h8,h4⟩⟩
     ·exact .inr ⟨as,rv,qt,qb,h5,h6,.inr (.inl ⟨q,tk,h7,h8,h9,h2.1,h4⟩)⟩
     ·exact .inr ⟨as,rv,qt,qb,h5,h6,.inr (.inr ⟨h7,h4⟩)⟩
   ·rintro (⟨bs,rv,h1,h5,h2,h4⟩|⟨bs,rv,qt,qb,h5,h6,⟨h7,h8,h4⟩|⟨q,tk,h7,h8,h9,h2,h4⟩|⟨h7,h4⟩⟩)
    ·exact⟨⟨(conv (pos*16) rv).1,(conv (pos*16) rv).2,[]⟩,.inl (by rw [h1]; exact⟨rv,h5,rfl⟩),h2,trivial,h4⟩
    ·exact⟨⟨rv,[],[]⟩,.inr ⟨bs,rv,qt,qb,h5,h6,.inl ⟨h7,h8,rfl⟩⟩,trivial,trivial,h4⟩
    ·exact⟨⟨.own (pos*16),[(pos*16,tk)],[]⟩,.inr ⟨bs,rv,qt,qb,h5,h6,.inr (.inl ⟨q,tk,h7,h8,h9,rfl⟩)⟩,⟨h2,trivial⟩,trivial,h4⟩
    ·exact⟨⟨.rop [] 0,[],[]⟩,.inr ⟨bs,rv,qt,qb,h5,h6,.inr (.inr ⟨h7,rfl⟩)⟩,trivial,trivial,h4⟩
  ·simp
 have h2:opL P L pos dst (.call ⟨.value g,args.toArray,ts⟩) σ K wL=(opX P pos dst (.call ⟨.value g,args.toArray,ts⟩) σ K∨(L=true∧KL P ⟨dst,.call ⟨.value g,args.toArray,ts⟩,0, "",#[],none⟩ σ K)):=by
  have hA:O1 ⟨dst,.call ⟨.value g,args.toArray,ts⟩,0, "",#[],none⟩=false:=rfl
  have hS:SliK P pos ⟨dst,.call ⟨.value g,args.toArray,ts⟩,0, "",#[],none⟩ σ K=False:=rfl
  unfold opL OO opX
  rw [hA,hS]; simp
 rw [h2,h1]
 unfold clX RQ KL
 simp only [R0]
 generalize σ.e g=v
 cases v <;> simp
attribute [go_sem] cl cls toD toDs toA toAs GJ FS Option.map_some Option.map_none
theorem V2 {pos:Nat} {f:FuncId} {args bs:List AV} {dst:Option Tmp} {rv:RV} (h:AC P f bs rv) (hf:CV σ (conv (pos*16) rv).2) (hk:K (σ.add dst ⟨(conv (pos*16) rv).1,(conv (pos*16) rv).2,[]⟩)) {L:Bool} {wL:Wrap L}:RQ P L pos f args (some bs) dst σ K wL:=
 .inl (.inl ⟨bs,rv,rfl,h,hf,hk⟩)
@[go_sem] theorem dE:CV σ [] =True:=rfl
@[go_sem] theorem bw {n:Nat} {tk:Tok} {l:List (Nat × Tok)}:CV σ ((n,tk)::l)=(look σ.t n=none∧CV σ l):=rfl
attribute [go_sem] conv Ed addT addB
@[go_sem] theorem fe {s t b} {d:Tmp} {r:Res}:St.add ⟨s,t,b⟩ (some d) r=⟨(d,r.v)::s,addT t r.t,addB b r.b⟩:=rfl
@[go_sem] theorem ff {s t b} {r:Res}:St.add ⟨s,t,b⟩ none r=⟨s,addT t r.t,addB b r.b⟩:=rfl
section
variable {z:Bool}
@[go_sem] theorem aV {K:List D→St→Prop}:Bi z [] σ K=K [] σ:=by rw [Bi]
@[go_sem] theorem aW {k:IntKind} {n:Int} {vs:List AV} {K:List D→St→Prop}:Bi z (.int k n::vs) σ K=Bi z vs σ fun ds σ'=>K (.int k n::ds) σ':=by rw [Bi]
@[go_sem] theorem Yp {vs:List AV} {K:List D→St→Prop}:Bi z (.nils ::vs) σ K=Bi z vs σ fun ds σ'=>K (Sl z::ds) σ':=by rw [Bi]
@[go_sem] theorem jY:Sl false= .sl [] :=rfl
@[go_sem] theorem jZ:Sl true= .fz [] :=rfl
@[go_sem] theorem dF {rows:List (List D)} {vs:List AV} {K:List D→St→Prop}:Bi z (.ro rows::vs) σ K=AU (z=true) (Bi z vs σ fun ds σ'=>K (.fz rows::ds) σ'):=by rw [Bi]; rfl
@[go_sem ↓] theorem iO {b n sz:Nat} {K:List (List D)→St→Prop}:Xw z b n sz σ K=AU (1000≤b) (AU (0<sz) (optX (σ.B b) fun vs=>optX (J1 z vs) fun ds=>AU (ds.length=n*sz) (Az (B8 sz n ds) fun rows=>K rows (σ.killB b)))):=rfl
@[go_sem] theorem fg {s t b} {x:Nat}:St.killB ⟨s,t,b⟩ x=⟨s,t,(x,none)::b⟩:=rfl
attribute [go_sem] JT litD J1 unD unDs
@[go_sem] theorem aX {t:Nat} {vs:List AV} {K:List D→St→Prop}:Bi z (.own t::vs) σ K=optX (σ.T t) fun tk=>AU (okZ z tk=true) (Bi z vs (σ.killT t) fun ds σ'=>K (.sl tk.rows::ds) σ'):=by rw [Bi]; rfl
end
def stX (P:Program) (t:TypeId) (a:AV) (cs:Option (List AV)) (σ:St) (K:St→Prop):Prop:=
 optX cs fun cs=>AU (cs.length=tsz P t∧0<tsz P t∧cs.all AV.one=true) (match a with
  | .box b off=>∃vs,σ.B b=some vs∧isMp vs=false∧off+cs.length≤vs.length∧K (σ.setB b (splice vs off cs))
  | .elt t' sz i off=>∃tk0,σ.T t'=some tk0∧Bi tk0.z cs σ fun ds σ'=>∃tk row,(σ'.T t'=some tk∧tk.z=tk0.z)∧tk.rows[i]? =some row∧row.length=sz∧off+ds.length≤sz∧K (σ'.setT t' ⟨tk.rows.set i (splice row off ds),tk.sz,if DN row off ds=true then tk.gen else tk.gen+1,tk.z⟩)
  | .els t' g p sz i off=>Bi false cs σ fun ds σ'=>∃rows,subR σ'.T t' g p=some rows∧∃row,rows[i]? =some row∧(p≠ [] ∧row.length=sz∧off+ds.length≤sz∧DN row off ds=true)∧∃tk,σ'.T t'=some tk∧K (σ'.setT t' ⟨putR p tk.rows (.sl (rows.set i (splice row off ds))),tk.sz,tk.gen,tk.z⟩)
  |_=>False)
theorem aY {pos:Nat} {dst:Option Tmp} {t:TypeId} {a x:Operand}:opX P pos dst (.store t a x) σ K=stX P t (σ.e a) (cellsOf (σ.e x)) σ fun σ'=>K (σ'.put dst .any):=by
 unfold opX
 simp only [aop,Ly,stX]
 split
 ·rename_i cs h
  rw [h,GP]
  unfold AU
  refine propext ⟨?_,?_⟩
  ·rintro ⟨h1,h2,h3,h4⟩; exact⟨⟨h1,h2,h3⟩,h4⟩
  ·rintro ⟨⟨h1,h2,h3⟩,h4⟩; exact⟨h1,h2,h3,h4⟩
 ·rename_i h
  rw [h,RO]
@[go_sem] theorem aZ {t:TypeId} {b off:Nat} {cs:List AV}:stX P t (.box b off) (some cs) σ K=AU (cs.length=tsz P t∧0<tsz P t∧cs.all AV.one=true) (optX (σ.B b) fun vs=>AU (isMp vs=false) (AU (off+cs.length≤vs.length) (Az (splice vs off cs) fun vs'=>K (σ.setB b vs')))):=by
 rw [stX,GP]; rfl
@[go_sem] theorem aa {t:TypeId} {t' g sz i off:Nat} {p:Pth} {cs:List AV}:stX P t (.els t' g p sz i off) (some cs) σ K=AU (cs.length=tsz P t∧0<tsz P t∧cs.all AV.one=true) (Bi false cs σ fun ds σ'=>optX (subR σ'.T t' g p) fun rows=>optX rows[i]? fun row=>AU (p≠ [] ∧row.length=sz∧off+ds.length≤sz∧DN row off ds=true) (optX (σ'.T t') fun tk=>Mt (putR p tk.rows (.sl (rows.set i (splice row off ds)))) fun rows'=>K (σ'.setT t' ⟨rows',tk.sz,tk.gen,tk.z⟩))):=by
 rw [stX,GP]
 simp only [AU,optX,IU]
@[go_sem] theorem ae {t:TypeId} {t' sz i off:Nat} {cs:List AV}:stX P t (.elt t' sz i off) (some cs) σ K=AU (cs.length=tsz P t∧0<tsz P t∧cs.all AV.one=true) (optX (σ.T t') fun tk0=>Bi tk0.z cs σ fun ds σ'=>optX (σ'.T t') fun tk=>AU (tk.z=tk0.z) (optX tk.rows[i]? fun row=>AU (row.length=sz∧off+ds.length≤sz) (Mt (tk.rows.set i (splice row off ds)) fun rows=>K (σ'.setT t' ⟨rows,tk.sz,if DN row off ds=true then tk.gen else tk.gen+1,tk.z⟩)))):=by
 rw [stX,GP]
 simp only [AU,optX,IU]
 congr 1
 congr 1
 funext tk0
 congr 1
 congr 1
 funext ds σ'
 refine propext ⟨?_,?_⟩
 ·rintro ⟨tk,row,⟨h1,h0⟩,h2,h3,h4,h5⟩; exact⟨tk,h1,h0,row,h2,⟨h3,h4⟩,h5⟩
 ·rintro ⟨tk,h1,h0,row,h2,⟨h3,h4⟩,h5⟩; exact⟨tk,row,⟨h1,h0⟩,h2,h3,h4,h5⟩
section
variable {z:Bool}
@[go_sem] theorem XG {e:TypeId} {sz:Nat} {K:List (List D)→St→Prop}:Ox z e sz .nils σ K=K [] σ:=rfl
@[go_sem] theorem Yq {e:TypeId} {sz b n sz':Nat} {K:List (List D)→St→Prop}:Ox z e sz (.bsl b n sz') σ K=if n=0 then K [] σ else AU (sz'=sz) (Xw z b n sz σ K):=rfl
@[go_sem] theorem Yr {e:TypeId} {sz t:Nat} {K:List (List D)→St→Prop}:Ox z e sz (.own t) σ K=optX (σ.T t) fun tk=>AU (tk.sz=some sz∧okZ z tk=true) (K tk.rows (σ.killT t)):=rfl
@[go_sem] theorem XH {sz:Nat} {K:List (List D)→St→Prop}:ON z sz .nils σ K=K [] σ:=rfl
@[go_sem] theorem Ys {sz b n sz':Nat} {K:List (List D)→St→Prop}:ON z sz (.bsl b n sz') σ K=optX (σ.B b) fun vs=>AU (sz'=sz∧vs.length=n*sz∧vs.all AV.one=true) (Bi z vs σ fun ds σ'=>Az (B8 sz n ds) fun rows=>K rows σ'):=by
 simp only [ON,optX,AU,Az]
 refine propext ⟨?_,?_⟩
 ·rintro ⟨vs,h1,h2,h3,h4,h5⟩; exact⟨vs,h1,⟨h2,h3,h4⟩,h5⟩
 ·rintro ⟨vs,h1,⟨h2,h3,h4⟩,h5⟩; exact⟨vs,h1,h2,h3,h4,h5⟩
@[go_sem] theorem ah {sz:Nat} {rows:List (List D)} {K:List (List D)→St→Prop}:ON false sz (.ro rows) σ K=AU (∀row ∈ rows,row.length=sz∧∀d ∈ row,d.flat=true) (K rows σ):=rfl
end
attribute [go_sem] B8
def zX (K:Bool→Prop):Prop:=∃z,K z
def zY (K:Bool→Prop) (_:Wrap K):Prop:=∃z,K z
@[go_sem ↓] theorem kF {K:Bool→Prop}:zX K=zY K ⟨⟩:=rfl
theorem Dt {K:Bool→Prop} {w:Wrap K} (z:Bool) (h:K z):zY K w:=⟨z,h⟩
def apX (P:Program) (pos:Nat) (e:TypeId) (x y:AV) (dst:Option Tmp) (σ:St) (K:St→Prop):Prop:=
 AU (0<tsz P e∧(tz P e).length =tsz P e) (zX fun z=>Ox z e (tsz P e) x σ fun rows σ1=>ON z (tsz P e) y σ1 fun rows2 σ2=>
   AU ((rows.length+rows2.length)*P.bytesOf e≤140737488355328∧rows.length+rows2.length≤maxLen) (AU (look σ2.t (pos*16)=none) (K ((σ2.setT (pos*16) ⟨rows++rows2,some (tsz P e),0,z⟩).put dst (.own (pos*16))))))
theorem Yt {pos:Nat} {dst:Option Tmp} {x y:Operand} {t:TypeId}:opX P pos dst (.call ⟨.builtin .append,List.toArray [x,y],List.toArray [t,t]⟩) σ K=slX (ti P t) fun e=>apX P pos e (σ.e x) (σ.e y) dst σ K:=by
 unfold opX
 simp only [aop,UR,slX,true_and]
 generalize ti P t=q
 split
 ·rename_i e
  show (0<tsz P e∧(tz P e).length =tsz P e∧_)=((0<tsz P e∧(tz P e).length =tsz P e)∧_)
  rw [and_assoc]
  congr 1
  congr 1
  show (∃z,_)=(∃z,_)
  congr 1
  funext z
  congr 1
  funext rows σ1
  congr 1
  funext rows2 σ2
  show (_∧_∧_∧_)=((_∧_)∧_∧_)
  rw [and_assoc]
 ·rename_i h
  cases q with
  |sl e=>exact(h e rfl).elim
  |_=>rfl
end
attribute [go_sem ↓] dB
attribute [go_sem ↓] dA aM aN aO aR aS Yo aU dC aV aW Yp dF aX aZ ae aa XG Yq Yr XH Ys ah
end Go.Proofs.YtckcfdggbbabfaaGreat.Ab
namespace Go.Proofs.YtckcfdggbbabfaaGreat.Ab
set_option linter.unusedVariables false
open Go.RowKit
section
variable {P:Program} {σ:St} {K:St→Prop} {Q:AE→St→Prop}
@[go_sem] theorem dG {n:Int} (h1: -9223372036854775808≤n) (h2:n≤9223372036854775807):IntKind.i64.wrap n=n:=Go.IntWalk.i64_in n ⟨h1,h2⟩
@[go_sem ↓] theorem fh {K:List AV→Prop}:Ld P σ [] K=K [] :=rfl
@[go_sem ↓] theorem fi {t:Tmp} {l:List ResultVar} {K:List AV→Prop}:Ld P σ (.tmp t::l) K=Az (σ.g t) fun v=>Ld P σ l fun vs=>K (v::vs):=rfl
@[go_sem ↓] theorem eI {a:Tmp} {t:TypeId} {l:List ResultVar} {K:List AV→Prop}:Ld P σ (.cell a t::l) K=Ms P t (σ.g a) σ fun v=>Ld P σ l fun vs=>K (v::vs):=rfl
@[go_sem] theorem ai {k:IntKind} {n m:Int}:Co (.int k n) (.int k m) σ K=AU (n=m) (K σ):=by simp [Co,AU]
@[go_sem] theorem Yu {b c:Bool}:Co (.bool b) (.bool c) σ K=AU (b=c) (K σ):=by simp [Co,AU]
@[go_sem] theorem Yv {ap:Option Nat} {rows:List (List D)}:Co .nils (.ow ap rows) σ K=AU (rows=[]) (K σ):=by simp [Co,AU]
@[go_sem] theorem aj {t:Nat} {ap:Option Nat} {rows:List (List D)}:Co (.own t) (.ow ap rows) σ K=optX (σ.T t) fun tk=>AU (tk.rows=rows) (AU (ap=none∨tk.sz=ap) (AU (tk.z=false) (K (σ.killT t)))):=by simp only [Co,AU,optX]
@[go_sem] theorem ak {vs:List AV} {rs:List RV}:Co (.agg vs) (.agg rs) σ K=Hp vs rs σ K:=by simp only [Co]
@[go_sem] theorem am {vs:List AV} {rs:List RV}:Co (.tup vs) (.tup rs) σ K=Hp vs rs σ K:=by simp only [Co]
@[go_sem] theorem Yw:Hp [] [] σ K=K σ:=by simp only [Hp]
@[go_sem] theorem XI {v:AV} {vs:List AV} {r:RV} {rs:List RV}:Hp (v::vs) (r::rs) σ K=Co v r σ fun σ'=>Hp vs rs σ' K:=by simp only [Hp]
def XJ (r:RV) (σ:St) (vs:List AV):Prop:=match vs with
 | [v] =>Co v r σ fun _=>True
 |vs=>Co (.tup vs) r σ fun _=>True
@[go_sem ↓] theorem iP {r:RV}:XJ r σ [] =Co (.tup []) r σ fun _=>True:=rfl
@[go_sem ↓] theorem iQ {r:RV} {v:AV}:XJ r σ [v] =Co v r σ fun _=>True:=rfl
@[go_sem ↓] theorem iR {r:RV} {v u:AV} {vs:List AV}:XJ r σ (v::u::vs)=Co (.tup (v::u::vs)) r σ fun _=>True:=rfl
def endX (P:Program) (l:List ResultVar) (r:RV) (q:AE) (σ:St):Prop:=match q with| .exit _=>False|_=>Ld P σ l (XJ r σ)
@[go_sem ↓] theorem dH {l:List ResultVar} {r:RV}:endX P l r .normal σ=Ld P σ l (XJ r σ):=rfl
@[go_sem ↓] theorem iS {l:List ResultVar} {r:RV}:endX P l r .ret σ=Ld P σ l (XJ r σ):=rfl
theorem fj (hm:P.follows .mixedOrders =true) {f:FuncId} {fn:Func} {c:Code} {l:List ResultVar} {args:List AV} {r:RV} (hf:P.funcs[f]? =some fn) (hb:fn.body=some c) (hr:fn.results=l.toArray) (hnm:(fn.name == "runtime.NumGoroutine")=false)
  (hn:decide (args.length≤fn.ntmps)=true) (hok:FC fn.ntmps c=true) (h:awp P c (endX P l r) (st0 args)):AC P f args r:=by
 refine Up hm hf hb hnm (of_decide_eq_true hn) hok ?_
 have e:endQ P fn.results.toList r=endX P l r:=by
  rw [hr]
  funext q σ
  cases q <;> rfl
 rw [e]
 exact h
attribute [go_sem] st0 Pe
def Yx {X:Type} (R:X→Prop) (inv:X→St) (μ:X→Nat) (x:X) (σ:St):Prop:=∃x',Zh σ (inv x')∧R x'∧μ x'<μ x
def dI {X:Type} (R:X→Prop) (inv:X→St) (μ:X→Nat) (x:X) (σ:St) (_:Wrap R) (_:Wrap inv) (_:Wrap μ) (_:Wrap x):Prop:=Yx R inv μ x σ
@[go_sem ↓] theorem eJ {X:Type} {R:X→Prop} {inv:X→St} {μ:X→Nat} {x:X} {σ:St}:Yx R inv μ x σ=dI R inv μ x σ ⟨⟩ ⟨⟩ ⟨⟩ ⟨⟩:=rfl
attribute [go_sem] JV Sp O2 O3 ren rens FG Ft List.nodup_nil List.all_nil List.all_cons AV.int.injEq AV.bool.injEq AV.str.injEq AV.ro.injEq AV.rop.injEq AV.agg.injEq AV.fn.injEq AV.own.injEq AV.box.injEq AV.bsl.injEq AV.elt.injEq List.cons.injEq Tok.mk.injEq Option.isSome_some exists_eq_left' exists_eq_left
end
attribute [go_sem ↓] ai Yu Yv aj ak am Yw XI
end Go.Proofs.YtckcfdggbbabfaaGreat.Ab
namespace Go.Proofs.YtckcfdggbbabfaaGreat.Ab
set_option linter.unusedVariables false
open Go.RowKit
section
variable {P:Program} {σ:St} {K:St→Prop} {pos:Nat} {dst:Option Tmp} {t t' s d:TypeId} {x y a b c g l:Operand} {f i:Nat} {op:BinOp}
def slY (t:TI) (K:TypeId→Prop) (_:Wrap K):Prop:=slX t K
@[go_sem ↓] theorem ja {t:TI} {K:TypeId→Prop}:slX t K=slY t K ⟨⟩:=rfl
@[go_sem] theorem jb {e:TypeId} {K:TypeId→Prop} {w:Wrap K}:slY (.sl e) K w=K e:=rfl
def bz (t:TI) (K:IntKind→Prop) (_:Wrap K):Prop:=TY t K
@[go_sem ↓] theorem fk {t:TI} {K:IntKind→Prop}:TY t K=bz t K ⟨⟩:=rfl
@[go_sem] theorem eK {k:IntKind} {K:IntKind→Prop} {w:Wrap K}:bz (.int k) K w=K k:=rfl
def stY (P:Program) (t:TI) (K:List (Nat × TypeId)→Prop) (_:Wrap K):Prop:=Td P t K
@[go_sem ↓] theorem jc {t:TI} {K:List (Nat × TypeId)→Prop}:Td P t K=stY P t K ⟨⟩:=rfl
@[go_sem] theorem jd {fs:List (Nat × TypeId)} {K:List (Nat × TypeId)→Prop} {w:Wrap K}:stY P (.st fs) K w=K fs:=rfl
@[go_sem] theorem iT {n:Nat} {el:TypeId} {K:List (Nat × TypeId)→Prop} {w:Wrap K}:stY P (.arr n el) K w=AU (0<tsz P el) (Az (KI (tsz P el) el n 0) K):=rfl
def fl (rows:List (List D)) (n:Int) (sz:Nat) (K:List D→Prop) (_:Wrap K):Prop:=Ta rows n sz K
@[go_sem ↓] theorem iU {rows:List (List D)} {n:Int} {sz:Nat} {K:List D→Prop}:Ta rows n sz K=fl rows n sz K ⟨⟩:=rfl
def fo {α:Type} (v:α) (K:α→Prop) (_:Wrap K):Prop:=Mt v K
@[go_sem ↓] theorem iV {α:Type} {v:α} {K:α→Prop}:Mt v K=fo v K ⟨⟩:=rfl
theorem BP {α:Type} {v:α} {K:α→Prop} {w:Wrap K} (y:α) (h:v=y) (hk:K y):fo v K w:=⟨y,h,hk⟩
def KA (n:Nat) (rs:List RV) (K:List AV→List (Nat × Tok)→Prop) (_:Wrap K):Prop:=K (Ed n rs).1 (Ed n rs).2
def cv1 (n:Nat) (r:RV) (K:AV→List (Nat × Tok)→Prop):Prop:=K (conv n r).1 (conv n r).2
section
variable {n:Nat} {rs us:List RV} {L:List AV→List (Nat × Tok)→Prop} {L1:AV→List (Nat × Tok)→Prop} {w:Wrap L}
@[go_sem] theorem an:KA n [] L w=L [] [] :=rfl
@[go_sem] theorem aq {k:IntKind} {x:Int}:KA n (.int k x::rs) L w=KA n rs (fun vs ts=>L (.int k x::vs) ts) ⟨⟩:=by simp only [KA,Ed,conv,List.length_nil,Nat.add_zero,List.nil_append]
@[go_sem] theorem Yy {b:Bool}:KA n (.bool b::rs) L w=KA n rs (fun vs ts=>L (.bool b::vs) ts) ⟨⟩:=by simp only [KA,Ed,conv,List.length_nil,Nat.add_zero,List.nil_append]
@[go_sem] theorem dJ {ap:Option Nat} {x:List (List D)}:KA n (.ow ap x::rs) L w=KA (n+1) rs (fun vs ts=>L (.own n::vs) ((n,⟨x,ap,0,false⟩)::ts)) ⟨⟩:=by simp only [KA,Ed,conv,List.length_nil,List.length_cons,Nat.zero_add,List.cons_append,List.nil_append]
@[go_sem] theorem ar:KA n (.agg us::rs) L w=KA n us (fun ws ts=>KA (n+ts.length) rs (fun vs ts'=>L (.agg ws::vs) (ts++ts')) ⟨⟩) ⟨⟩:=by simp only [KA,Ed,conv]
@[go_sem ↓] theorem iW {k:IntKind} {x:Int}:cv1 n (.int k x) L1=L1 (.int k x) [] :=rfl
@[go_sem ↓] theorem ft {b:Bool}:cv1 n (.bool b) L1=L1 (.bool b) [] :=rfl
@[go_sem ↓] theorem iX {x:ByteArray}:cv1 n (.str x) L1=L1 (.str x) [] :=rfl
@[go_sem ↓] theorem je {x:List (List D)}:cv1 n (.ro x) L1=L1 .any [] :=rfl
@[go_sem ↓] theorem fu:cv1 n .nilp L1=L1 .nilp [] :=rfl
@[go_sem ↓] theorem jf {ap:Option Nat} {x:List (List D)}:cv1 n (.ow ap x) L1=L1 (.own n) [(n,⟨x,ap,0,false⟩)] :=rfl
@[go_sem ↓] theorem iY:cv1 n (.agg us) L1=KA n us (fun ws ts=>L1 (.agg ws) ts) ⟨⟩:=by simp only [KA,cv1,conv]
@[go_sem ↓] theorem iZ:cv1 n (.tup us) L1=KA n us (fun ws ts=>L1 (.tup ws) ts) ⟨⟩:=by simp only [KA,cv1,conv]
end
attribute [go_sem ↓] an aq Yy dJ ar
def OC (P:Program) (L:Bool) (pos:Nat) (f:FuncId) (args:List AV) (as:Option (List AV)) (dst:Option Tmp) (σ:St) (K:St→Prop) (_:Wrap K) (w:Wrap L):Prop:=RQ P L pos f args as dst σ K w
@[go_sem ↓] theorem fv {L:Bool} {wL:Wrap L} {f:FuncId} {args:List AV} {as:Option (List AV)}:RQ P L pos f args as dst σ K wL=OC P L pos f args as dst σ K ⟨⟩ wL:=rfl
theorem AI {f:FuncId} {args bs:List AV} {w:Wrap K} {rv:RV} (h:AC P f bs rv) (hk:Az (pos*16) fun m=>cv1 m rv fun v ts=>AU (CV σ ts) (K (σ.add dst ⟨v,ts,[]⟩))) {L:Bool} {wL:Wrap L}:OC P L pos f args (some bs) dst σ K w wL:=V2 h hk.1 hk.2
theorem Kg {f:FuncId} {args bs:List AV} {w:Wrap K} {rv:RV} {o:Option (List AV)} (e:o=some bs) (h:AC P f bs rv) (hk:Az (pos*16) fun m=>cv1 m rv fun v ts=>AU (CV σ ts) (K (σ.add dst ⟨v,ts,[]⟩))) {L:Bool} {wL:Wrap L}:OC P L pos f args o dst σ K w wL:=by
 subst e; exact V2 h hk.1 hk.2
theorem Yz {f:FuncId} {args bs:List AV} {w:Wrap K} {rv:AV} {o:Option (List AV)} (h:AG P f bs [] [] rv [] []) (e:cls (fun _=>none) (fun _=>none) args=some bs) (hp:Qu rv=true) (hk:K (σ.add dst ⟨rv,[],[]⟩)) {L:Bool} {wL:Wrap L}:OC P L pos f args o dst σ K w wL:=.inl (.inr ⟨bs,rv,[],[],h,e,.inl ⟨rfl,hp,hk⟩⟩)
theorem dK {f:FuncId} {args bs:List AV} {w:Wrap K} {q k:Nat} {qt:List (Nat × Tok)} {qb:List (Nat × List AV)} {o:Option (List AV)} (h:AG P f bs [] [] (.box q k) qt qb) (e:cls (fun _=>none) (fun _=>none) args=some bs) (hk:K (σ.add dst ⟨.rop [] 0,[],[]⟩)) {L:Bool} {wL:Wrap L}:OC P L pos f args o dst σ K w wL:=.inl (.inr ⟨bs,.box q k,qt,qb,h,e,.inr (.inr ⟨⟨q,k,rfl⟩,hk⟩)⟩)
attribute [go_sem] Qu
def Tf (y:Way) (as:List AV) (pt:List (Nat × Tok)) (pb:List (Nat × List AV)) (qt:List (Nat × Tok)) (qb:List (Nat × List AV)):Bool:=
 decide (((y.rt++y.nt).map (·.2)).Nodup)&&decide (((y.rt++y.nt).map (·.1)).Nodup)&&decide (((y.rb.map (·.2.1))++y.nb.map (·.2)).Nodup)&&decide (((y.rb.map (·.1))++y.nb.map (·.1)).Nodup)&&
 (y.rt.all fun p=>(look pt p.1).isSome)&&(y.rb.all fun p=>(look pb p.1).isSome)&&(y.nt.all fun p=>(look pt p.1).isNone)&&(y.nb.all fun p=>(look pb p.1).isNone)&&decide ((pt.map (·.1)).Nodup)&&decide ((pb.map (·.1)).Nodup)&&
 (pb.all fun p=>(look qb p.1).isSome)&&KJ y.rt y.cv&&(y.md||noZ qt)&&Xx as pt pb&&(y.rt.all fun p=>decide (p.1 <1000)||(look qt p.1).isNone)
def Pl:List (Nat × Nat)→List (Nat × Option Tok)→Prop
 | [],_=>True
 |(_,n)::r,t=>look t n=none∧Pl r t
def Mu:List (Nat × Nat)→List (Nat × Option (List AV))→Prop
 | [],_=>True
 |(_,n)::r,t=>look t n=none∧Mu r t
def Tg (y:Way) (args as:List AV) (pt:List (Nat × Tok)) (pb:List (Nat × List AV)) (σ1:St):Prop:=
 Pl y.nt σ1.t∧Mu y.nb σ1.b∧N2 y.rt σ1 pt∧Fs y σ1 (σ1.less y) pb∧PasL y (σ1.less y) args as
theorem OD {t:List (Nat × Option Tok)}:∀ {l:List (Nat × Nat)},Pl l t→∀p ∈ l,(look t p.2).isNone =true
 | [],_,p,h=>by cases h
 |(c,n)::l,hf,p,h=>by
  simp only [Pl] at hf
  rcases List.mem_cons.1 h with rfl|h
  ·rw [hf.1]; rfl
  ·exact OD hf.2 p h
theorem Mv {t:List (Nat × Option (List AV))}:∀ {l:List (Nat × Nat)},Mu l t→∀p ∈ l,(look t p.2).isNone =true
 | [],_,p,h=>by cases h
 |(c,n)::l,hf,p,h=>by
  simp only [Mu] at hf
  rcases List.mem_cons.1 h with rfl|h
  ·rw [hf.1]; rfl
  ·exact Mv hf.2 p h
theorem Th {f:FuncId} {args:List AV} {σ:St} {as:List AV} {pt:List (Nat × Tok)} {pb:List (Nat × List AV)} {r:AV} {qt:List (Nat × Tok)} {qb:List (Nat × List AV)} {K:AV→St→Prop} (y:Way) (h:AG P f as pt pb r qt qb) (hB:Tf y as pt pb qt qb=true)
  (hc:CW y.cv σ fun σ1=>AU (Tg y args as pt pb σ1) (Bp y.cv (σ1.after y qt qb) fun σ2=>K (bak y r) σ2)):Qv P f args σ K:=by
 refine⟨y,as,pt,pb,r,qt,qb,h,Hv (fun σ1 h=>?_) hc⟩
 unfold Tf at hB
 simp only [Bool.and_eq_true,decide_eq_true_eq,and_assoc] at hB
 obtain⟨b1,b2,b3,b4,b5,b6,b7,b8,b9,b10,b11,b12,bm,b13,b14⟩:=hB
 obtain⟨⟨h1,h2,h3,h4,h5⟩,h6⟩:=h
 refine⟨⟨b1,b2,b3,b4,b5,b6,?_,?_,b9,b10⟩,h3,h4,h5,b11,⟨b12,bm⟩,b13,b14,h6⟩
 ·rw [List.all_eq_true] at b7 ⊢
  intro p hp
  rw [b7 p hp,OD h1 p hp]; rfl
 ·rw [List.all_eq_true] at b8 ⊢
  intro p hp
  rw [b8 p hp,Mv h2 p hp]; rfl
theorem dL {L:Bool} {wL:Wrap L} {f:FuncId} {args:List AV} {o:Option (List AV)} {w:Wrap K} {as:List AV} {pt:List (Nat × Tok)} {pb:List (Nat × List AV)} {r:AV} {qt:List (Nat × Tok)} {qb:List (Nat × List AV)} (y:Way) (hL:L=true) (h:AG P f as pt pb r qt qb) (hB:Tf y as pt pb qt qb=true)
  (hc:CW y.cv σ fun σ1=>AU (Tg y args as pt pb σ1) (Bp y.cv (σ1.after y qt qb) fun σ2=>K (σ2.put dst (bak y r)))):OC P L pos f args o dst σ K w wL:=.inr ⟨hL,[],Th (K:=fun v σ'=>K (σ'.put dst v)) y h hB hc⟩
theorem U2 {L:Bool} {wL:Wrap L} {f:FuncId} {args:List AV} {o:Option (List AV)} {w:Wrap K} {as:List AV} {pt:List (Nat × Tok)} {pb:List (Nat × List AV)} {r:AV} {qt:List (Nat × Tok)} {qb:List (Nat × List AV)} (bs:List Nat) (y:Way) (hL:L=true) (h:AG P f as pt pb r qt qb) (hB:Tf y as pt pb qt qb=true)
  (hc:FzK bs args σ fun args σ=>CW y.cv σ fun σ1=>AU (Tg y args as pt pb σ1) (Bp y.cv (σ1.after y qt qb) fun σ2=>K (σ2.put dst (bak y r)))):OC P L pos f args o dst σ K w wL:=.inr ⟨hL,bs,Pg (fun args σ hc=>Th (K:=fun v σ'=>K (σ'.put dst v)) y h hB hc) hc⟩
@[go_sem ↓] theorem ia {args:List AV} {K:List AV→St→Prop}:FzK [] args σ K=K args σ:=rfl
@[go_sem ↓] theorem fw {b:Nat} {r:List Nat} {args:List AV} {s:List (Nat × AV)} {t:List (Nat × Option Tok)} {bb:List (Nat × Option (List AV))} {K:List AV→St→Prop}:FzK (b::r) args ⟨s,t,bb⟩ K=optX ((look bb b).join) fun vs=>AU (1000≤b∧isMp vs=false) (Az (args.map (fzA b vs)) fun args'=>FzK r args' ⟨s,t,(b,none)::bb⟩ K):=rfl
section
variable {b:Nat} {vs:List AV}
@[go_sem] theorem ib {x n sz:Nat}:fzA b vs (.bsl x n sz)=(cl (fun _=>none) (only b vs) (.bsl x n sz)).getD (.bsl x n sz):=rfl
@[go_sem] theorem ic {x off:Nat}:fzA b vs (.box x off)=(cl (fun _=>none) (only b vs) (.box x off)).getD (.box x off):=rfl
@[go_sem] theorem ie {us:List AV}:fzA b vs (.agg us)=(cl (fun _=>none) (only b vs) (.agg us)).getD (.agg us):=rfl
@[go_sem] theorem ig {k:IntKind} {n:Int}:fzA b vs (.int k n)= .int k n:=rfl
@[go_sem] theorem fx {x:Bool}:fzA b vs (.bool x)= .bool x:=rfl
@[go_sem] theorem ii {x:ByteArray}:fzA b vs (.str x)= .str x:=rfl
@[go_sem] theorem jg {x:List (List D)}:fzA b vs (.ro x)= .ro x:=rfl
@[go_sem] theorem ij {x:Nat}:fzA b vs (.own x)= .own x:=rfl
@[go_sem] theorem ik {x:List AV} {off:Nat}:fzA b vs (.rop x off)= .rop x off:=rfl
@[go_sem] theorem il {t sz i off:Nat}:fzA b vs (.elt t sz i off)= .elt t sz i off:=rfl
@[go_sem] theorem jh {f:FuncId} {x:List AV}:fzA b vs (.fn f x)= .fn f x:=rfl
@[go_sem] theorem fy:fzA b vs .nilp = .nilp :=rfl
@[go_sem] theorem f5:fzA b vs .nils = .nils :=rfl
@[go_sem] theorem im {x:Nat}:fzA b vs (.mpr x)= .mpr x:=rfl
@[go_sem] theorem io:fzA b vs .any = .any :=rfl
end
attribute [go_sem] Option.getD_some Option.getD_none Option.join_some Option.bind_some Option.bind_none only
attribute [go_sem] ne_eq true_imp_iff implies_true false_imp_iff DN D.flat kept Tg Pl Mu N2 St.less N3 Oy Oz O0 US UT St.after bak baks Fs
@[go_sem ↓] theorem eL:CW [] σ K=K σ:=by rw [CW]
@[go_sem ↓] theorem eM {n t' g sz i j:Nat} {r:List (Nat × AV × Option Nat)} {s:List (Nat × AV)} {t:List (Nat × Option Tok)} {b:List (Nat × Option (List AV))}:CW ((n,.sub t' g [(sz,i,j)],none)::r) ⟨s,t,b⟩ K=
  AU (look t n=none∧n≠t') (optX (look t t').join fun tk=>AU (tk.gen=g) (optX (getP [(sz,i,j)] tk.rows) fun rows=>Mt (putR [(sz,i,j)] tk.rows .gone) fun rows'=>CW r ⟨s,(n,some ⟨rows,none,0,tk.z⟩)::(t',some ⟨rows',tk.sz,g,tk.z⟩)::t,b⟩ K)):=by
 rw [CW]
 simp only [AU,optX,IU,List.length_cons,List.length_nil,true_and,Nat.zero_add]
 refine propext ⟨?_,?_⟩
 ·rintro ⟨h2,tk,rows,h4,h5,h6,h7,h8⟩; exact⟨⟨h2,h7⟩,tk,h4,h5,rows,h6,h8⟩
 ·rintro ⟨⟨h2,h7⟩,tk,h4,h5,rows,h6,h8⟩; exact⟨h2,tk,rows,h4,h5,h6,h7,h8⟩
@[go_sem ↓] theorem ip:Bp [] σ K=K σ:=by rw [Bp]
def unX (n:Nat) (K:St→Prop) (σ:St):Prop:=K {σ with t:=(n,none)::σ.t}
@[go_sem ↓] theorem ji {n:Nat} {s:List (Nat × AV)} {t:List (Nat × Option Tok)} {b:List (Nat × Option (List AV))}:unX n K ⟨s,t,b⟩=K ⟨s,(n,none)::t,b⟩:=rfl
def unS (n t' g:Nat) (p:Pth) (K:St→Prop) (σ:St):Prop:=match σ.T n with
 |some tn=>∃tk,σ.T t'=some tk∧QU p tk.rows=some .gone ∧(n≠t'∧okZ tk.z tn=true)∧K {σ with t:=(n,none)::(t',some ⟨putR p tk.rows (.sl tn.rows),tk.sz,if tn.gen=0∧tk.gen=g then g else tk.gen+tn.gen+1,tk.z⟩)::σ.t}
 |none=>K σ
@[go_sem ↓] theorem iq {n t' g:Nat} {p:Pth} {z:Option Nat} {r:List (Nat × AV × Option Nat)}:Bp ((n,.sub t' g p,z)::r) σ K=Bp r σ (unS n t' g p K):=by rw [Bp]; rfl
def unO (o:Option Tok) (n t' g:Nat) (p:Pth) (K:St→Prop) (σ:St):Prop:=match o with
 |some tn=>AU (n≠t') (optX (σ.T t') fun tk=>AU (okZ tk.z tn=true) (AU (QU p tk.rows=some .gone) (Mt (putR p tk.rows (.sl tn.rows)) fun rows=>K ⟨σ.s,(n,none)::(t',some ⟨rows,tk.sz,if tn.gen=0∧tk.gen=g then g else tk.gen+tn.gen+1,tk.z⟩)::σ.t,σ.b⟩)))
 |none=>K σ
@[go_sem ↓] theorem jj {n t' g:Nat} {p:Pth} {s:List (Nat × AV)} {t:List (Nat × Option Tok)} {b:List (Nat × Option (List AV))}:unS n t' g p K ⟨s,t,b⟩=unO (look t n).join n t' g p K ⟨s,t,b⟩:=by
 unfold unS unO
 have e:St.T ⟨s,t,b⟩ n=(look t n).join :=rfl
 rw [e]
 cases (look t n).join with
 |none=>rfl
 |some tn=>
  simp only [AU,optX,IU]
  refine propext ⟨?_,?_⟩
  ·rintro ⟨tk,h1,h2,⟨h3,h0⟩,h4⟩; exact⟨h3,tk,h1,h0,h2,h4⟩
  ·rintro ⟨h3,tk,h1,h0,h2,h4⟩; exact⟨tk,h1,h2,⟨h3,h0⟩,h4⟩
@[go_sem] theorem f7 {n t' g:Nat} {p:Pth} {tn:Tok}:unO (some tn) n t' g p K σ=AU (n≠t') (optX (σ.T t') fun tk=>AU (okZ tk.z tn=true) (AU (QU p tk.rows=some .gone) (Mt (putR p tk.rows (.sl tn.rows)) fun rows=>K ⟨σ.s,(n,none)::(t',some ⟨rows,tk.sz,if tn.gen=0∧tk.gen=g then g else tk.gen+tn.gen+1,tk.z⟩)::σ.t,σ.b⟩))):=rfl
@[go_sem] theorem f8 {n t' g:Nat} {p:Pth}:unO none n t' g p K σ=K σ:=rfl
theorem Y0 {α:Type} {l:List α} {i:Nat} {x y:α} (h:l[i]? =some x):(l.set i y)[i]? =some y:=List.getElem?_set_self (Aa h)
theorem Eg {rows r:List (List D)} {sz i j:Nat} {row:List D} (h:rows[i]? =some row) (hl:row.length=sz) (hj:row[j]? =some (.sl r)):getP [(sz,i,j)] rows=some r:=by
 simp only [getP,h,hl,if_true,hj]
theorem MI {rows:List (List D)} {sz i j:Nat} {row:List D} {d d':D} (h:rows[i]? =some row) (hj:row[j]? =some d'):putR [(sz,i,j)] rows d=rows.set i (row.set j d):=by
 unfold putR
 rw [Ab.put,h]
 simp only [hj,Ab.put]
theorem au {rows:List (List D)} {sz i j:Nat} {row:List D} {d d':D} (h:rows[i]? =some row) (hj:row[j]? =some d'):(putR [(sz,i,j)] rows d)[i]? =some (row.set j d):=by
 rw [MI h hj]; exact Y0 h
section
variable {y:Way} {σ0:St}
@[go_sem] theorem f9:PasL y σ0 [] [] =True:=by simp only [PasL]
@[go_sem] theorem eN {a b:AV} {as bs:List AV}:PasL y σ0 (a::as) (b::bs)=(Fq y σ0 a b∧PasL y σ0 as bs):=by simp only [PasL]
@[go_sem] theorem ir {n c:Nat}:Fq y σ0 (.own n) (.own c)=(look y.rt c=some n∨∃z,∃m,look y.rt c=some m∧look y.cv m=some (.own n,z)):=by
 simp only [Fq]
 refine propext ⟨?_,?_⟩
 ·rintro ⟨m,h1,h2|⟨z,h2⟩⟩
  ·cases h2; exact .inl h1
  ·exact .inr ⟨z,m,h1,h2⟩
 ·rintro (h|⟨z,m,h1,h2⟩)
  ·exact⟨n,h,.inl rfl⟩
  ·exact⟨m,h1,.inr ⟨z,h2⟩⟩
def cvX (o:Option (AV × Option Nat)) (a:AV):Prop:=match o with|some x=>x.1 =a|none=>False
theorem aw {o:Option (AV × Option Nat)} {a:AV}:(∃z,o=some (a,z))=cvX o a:=by
 unfold cvX
 cases o with
 |none=>simp
 |some x=>obtain⟨b,z⟩:=x; simp
def rtX (o:Option Nat) (K:Nat→Prop):Prop:=match o with|some n=>K n|none=>False
@[go_sem] theorem gA {n:Nat} {K:Nat→Prop}:rtX (some n) K=K n:=rfl
@[go_sem] theorem gB {x:AV × Option Nat} {a:AV}:cvX (some x) a=(x.1 =a):=rfl
theorem ax {o:Option Nat} {p:Nat→Prop}:(∃n,o=some n∧p n)=rtX o p:=by
 cases o <;> simp [rtX]
@[go_sem] theorem it {t g c:Nat} {p:Pth}:Fq y σ0 (.sub t g p) (.own c)=rtX (look y.rt c) fun n=>cvX (look y.cv n) (.sub t g p):=by
 rw [← ax]
 simp only [Fq,reduceCtorEq,false_or,aw]
@[go_sem] theorem iu {n off b off':Nat}:Fq y σ0 (.box n off) (.box b off')=match look y.rb b with|some q=>n=q.1 ∧off=q.2 +off'|none=>False:=by
 simp only [Fq,AV.box.injEq]
 cases look y.rb b <;> simp
@[go_sem] theorem iw {vs us:List AV}:Fq y σ0 (.agg vs) (.agg us)=PasL y σ0 vs us:=by simp only [Fq]
@[go_sem] theorem iy {n b:Nat}:Fq y σ0 (.mpr n) (.mpr b)=match look y.rb b with|some q=>n=q.1 |none=>False:=by
 simp only [Fq,AV.mpr.injEq]
 cases look y.rb b <;> simp
def clW (y:Way) (σ0:St) (a:AV):Option AV:=cl (if y.md=true then fun _=>none else σ0.T) (if y.md=true then fun _=>none else σ0.B) a
@[go_sem] theorem iz {a:AV} {k:IntKind} {n:Int}:Fq y σ0 a (.int k n)=(clW y σ0 a=some (.int k n)):=by cases a <;> simp only [Fq,clW]
@[go_sem] theorem jk {a:AV} {rows:List (List D)}:Fq y σ0 a (.ro rows)=(clW y σ0 a=some (.ro rows)):=by cases a <;> simp only [Fq,clW]
@[go_sem] theorem i0 {a:AV} {vs:List AV} {off:Nat}:Fq y σ0 a (.rop vs off)=(clW y σ0 a=some (.rop vs off)):=by cases a <;> simp only [Fq,clW]
@[go_sem] theorem i3 {a:AV} {q:KT} {rows:List (List D)}:Fq y σ0 a (.mpc q rows)=(clW y σ0 a=some (.mpc q rows)):=by cases a <;> simp only [Fq,clW]
@[go_sem] theorem jl {cv rt rb nt nb} {a:AV}:clW ⟨cv,rt,rb,nt,nb,true⟩ σ0 a=cl (fun _=>none) (fun _=>none) a:=by simp [clW]
@[go_sem] theorem jm {cv rt rb nt nb} {a:AV}:clW ⟨cv,rt,rb,nt,nb,false⟩ σ0 a=cl σ0.T σ0.B a:=by simp [clW]
end
def gC (P:Program) (t:TypeId) (v:AV) (σ:St) (K:Bool→Prop) (_:Wrap K):Prop:=Zz P t v σ K
theorem Y1 {rows:List (List D)} {K:Bool→Prop} {w:Wrap K} (h:slP (ti P t)) (h0:rows=[] →K true) (h1:K false):gC P t (.ro rows) σ K w:=Z0 h h0 h1
@[go_sem ↓] theorem eO:opX P pos dst (.makeMap t none) σ K=optX (Va P t) fun q=>AU (look σ.b pos=none) (K ((σ.put dst (.mpr pos)).setB pos [.mpc q []])):=by
 rw [Nj (fun _=>by simp only [aop])]
 simp only [Ev,optX,AU]
 refine propext ⟨?_,?_⟩
 ·rintro ⟨r,⟨q,h1,rfl⟩,-,h2,h3⟩
  exact⟨q,h1,h2.1,by rw [← IV]; exact h3⟩
 ·rintro ⟨q,h1,h2,h3⟩
  exact⟨_,⟨q,h1,rfl⟩,trivial,⟨h2,trivial⟩,by rw [IV]; exact h3⟩
def lkR (ok:Bool) (o:Option D) (z:AV) (K:AV→Prop):Prop:=K (if ok=true then .tup [(o.map ofD).getD z,.bool o.isSome] else (o.map ofD).getD z)
@[go_sem] theorem jo {o:Option D} {z:AV} {K:AV→Prop}:lkR false o z K=Az ((o.map ofD).getD z) K:=by simp [lkR,Az]
def lkX (P:Program) (t:TypeId) (u v:AV) (ok:Bool) (σ:St) (K:AV→Prop):Prop:=∃r,N0 P σ.B t u v ok r∧K r
@[go_sem] theorem i4 {b:Nat} {v:AV} {ok:Bool} {K:AV→Prop}:lkX P t (.mpr b) v ok σ K=U1 (ti P t) fun kt et=>Tc (σ.B b) fun q rows=>AU (Sk P kt=some q) (optX (keyD v) fun k=>AU (Rj q k=true) (optX (tz1 P et) fun z=>Az (zAV z) fun z'=>Az (Hm k rows) fun o=>lkR ok o z' K)):=by
 simp only [lkX,N0,U1,Tc,AU,optX,Az,lkR]
 generalize ti P t=w
 cases w with
 |map kt et=>
  simp only
  refine propext ⟨?_,?_⟩
  ·rintro ⟨r,⟨q,rows,h1,h2,k,h3,h4,z,h5,rfl⟩,h6⟩; exact⟨q,rows,h1,h2,k,h3,h4,z,h5,h6⟩
  ·rintro ⟨q,rows,h1,h2,k,h3,h4,z,h5,h6⟩; exact⟨_,⟨q,rows,h1,h2,k,h3,h4,z,h5,rfl⟩,h6⟩
 |_=>simp
@[go_sem ↓] theorem gD {ok:Bool}:opX P pos dst (.lookup t x y ok) σ K=Az (σ.e x) fun u=>Az (σ.e y) fun v=>lkX P t u v ok σ fun r=>K (σ.put dst r):=
 Fw (p:=fun v=>N0 P σ.B t (σ.e x) (σ.e y) ok v) (fun _=>by simp only [aop]) (fun r=>by simp only [Ev])
def RR (a:AV):Option D:=match JT [a] with|some [d] =>some d|_=>none
@[go_sem] theorem eP {k:IntKind} {n:Int}:RR (.int k n)=some (.int k n):=rfl
@[go_sem] theorem dM {b:Bool}:RR (.bool b)=some (.bool b):=rfl
@[go_sem] theorem eQ {s:ByteArray}:RR (.str s)=some (.str s):=rfl
theorem Y2 {a:AV} {d:D}:JT [a] =some [d] ↔RR a=some d:=by
 unfold RR
 cases a <;> simp [JT]
def muX (P:Program) (t:TypeId) (u v x:AV) (σ:St) (K:St→Prop):Prop:=Sm P t u v x σ K
@[go_sem] theorem i5 {b:Nat} {v x:AV}:muX P t (.mpr b) v x σ K=U1 (ti P t) fun kt et=>Tc (σ.B b) fun q rows=>AU (rows.length<68719476736) (AU (Sk P kt=some q) (optX (keyD v) fun k=>AU (Rj q k=true) (optX (RR x) fun d=>Mt (mput k d rows) fun rows'=>K (σ.setB b [.mpc q rows'])))):=by
 simp only [muX,Sm,U1,Tc,AU,optX,IU]
 generalize ti P t=w
 cases w with
 |map kt et=>
  simp only [Y2]
 |_=>rfl
@[go_sem ↓] theorem cA {m i:Operand}:opX P pos dst (.mapUpdate t m i x) σ K=Az (σ.e m) fun u=>Az (σ.e i) fun v=>Az (σ.e x) fun z=>muX P t u v z σ fun σ'=>K (σ'.put dst .any):=by
 unfold opX
 simp only [aop,Az,muX]
attribute [go_sem] keyD
@[go_sem] theorem gE {k:IntKind} {n:Int}:Rj (.int k) (.int k n)=true:=by simp [Rj]
@[go_sem] theorem gF {s:ByteArray}:Rj .str (.str s)=true:=rfl
@[go_sem ↓] theorem jp:opX P pos dst (.pick c a b) σ K=Az (σ.e c) fun u=>Az (σ.e a) fun v=>Az (σ.e b) fun w=>Pk u v w fun v=>K (σ.put dst v):=cp
@[go_sem ↓] theorem jq:opX P pos dst (.load t a) σ K=Az (σ.e a) fun u=>Ms P t u σ fun v=>K (σ.put dst v):=cq
@[go_sem ↓] theorem dN:opX P pos dst (.nilCheck x) σ K=Az (σ.e x) fun u=>Rz u fun v=>K (σ.put dst v):=Uz
@[go_sem ↓] theorem eR {y:Tmp}:opX P pos dst (.binOp op t x (.tmp y) t') σ K=Az (σ.e x) fun u=>Az (σ.g y) fun v=>FU P op t u v fun v=>K (σ.put dst v):=W7
@[go_sem ↓] theorem eS {k:IntKind} {n:Int}:opX P pos dst (.binOp op t x (.const (.int k n)) t') σ K=Az (σ.e x) fun u=>FU P op t u (.int k n) fun v=>K (σ.put dst v):=W8
@[go_sem ↓] theorem gG:opX P pos dst (.binOp .eql t x (.const (.slice none 0 0)) t') σ K=Az (σ.e x) fun u=>gC P t u σ (fun b=>K (σ.put dst (.bool b))) ⟨⟩:=Yg
@[go_sem ↓] theorem jr {op:UnOp}:opX P pos dst (.unOp op t x) σ K=Az (σ.e x) fun u=>aC op u fun v=>K (σ.put dst v):=cw
@[go_sem ↓] theorem eU:opX P pos dst (.convert s d x) σ K=Az (σ.e x) fun u=>TX P s d u σ fun v=>K (σ.put dst v):=XA
@[go_sem ↓] theorem cB:opX P pos dst (.fieldAddr s x f) σ K=Az (σ.e x) fun u=>faX P s u f fun v=>K (σ.put dst v):=TZ
@[go_sem ↓] theorem cC:opX P pos dst (.indexAddr t x y) σ K=Az (σ.e x) fun u=>Az (σ.e y) fun v=>iaX P t u v σ fun v=>K (σ.put dst v):=Tb
@[go_sem ↓] theorem i6 {l h:Option Operand}:opX P pos dst (.slice t x l h none) σ K=Az (σ.e x) fun u=>XD P σ.T t u (l.map σ.e) (h.map σ.e) fun v=>K (σ.put dst v):=Vz
theorem gH {t el:TypeId} {x:Operand} {l h:Option Operand} {n:Nat} {tk:Tok} {i j:Int} {r:List (List D)} {L:Bool} {w1 w2 w3} (he:σ.e x= .own n) (hT:σ.T n=some tk) (hu:ti P t= .sl el) (hz:0<tsz P el) (hr:∀row ∈ tk.rows,row.length=tsz P el) (hi:bndI (l.map σ.e) 0=some i) (hj:bndI (h.map σ.e) tk.rows.length=some j) (hc:cutL tk.rows i j=some r)
  (k:K (σ.put dst (.par n (tsz P el) i.toNat (j - i).toNat))):Ux P L pos dst (.slice t x l h none) (.own n) σ K w1 w2 w3:=by
 refine .inl ?_
 rw [Vz,he]
 exact⟨_,.inr ⟨tk,hT,el,hu,⟨hz,hr⟩,i,hi,j,hj,r,hc,rfl⟩,k⟩
@[go_sem ↓] theorem i7:opX P pos dst (.index t x y) σ K=Az (σ.e x) fun u=>Az (σ.e y) fun v=>elX P t u v fun v=>K (σ.put dst v):=aJ
@[go_sem ↓] theorem eV:opX P pos dst (.extract x i) σ K=Az (σ.e x) fun u=>XE u i fun v=>K (σ.put dst v):=XF
@[go_sem ↓] theorem kG:opX P pos dst (.call ⟨.builtin .len,List.toArray [x],List.toArray [t]⟩) σ K=Az (σ.e x) fun u=>QX P t u σ fun v=>K (σ.put dst v):=fT
@[go_sem ↓] theorem kH {ts:Array TypeId}:opX P pos dst (.call ⟨.builtin .max,List.toArray [x,y],ts⟩) σ K=Az (σ.e x) fun u=>Az (σ.e y) fun v=>OP (fun n m=>if n<m then m else n) u v fun v=>K (σ.put dst v):=fU
@[go_sem ↓] theorem kI {ts:Array TypeId}:opX P pos dst (.call ⟨.builtin .min,List.toArray [x,y],ts⟩) σ K=Az (σ.e x) fun u=>Az (σ.e y) fun v=>OP (fun n m=>if m<n then m else n) u v fun v=>K (σ.put dst v):=fV
@[go_sem ↓] theorem kJ:opX P pos dst (.box t x) σ K=Az (cellsOf (σ.e x)) fun cs=>bxX pos cs dst (.box pos 0) σ K:=fZ
@[go_sem ↓] theorem i8:opX P pos dst (.alloc t) σ K=AU (0<(tz P t).length) (Az ((tz P t).map zAV) fun vs=>bxX pos (some vs) dst (.box pos 0) σ K):=aP
@[go_sem ↓] theorem i9 {parts:List (Nat × Operand)}:opX P pos dst (.build t parts.toArray) σ K=Td P (ti P t) fun fs=>AU ((fs.all fun q=>decide (0<tsz P q.2))=true∧0<(tz P t).length) (Az ((tz P t).map zAV) fun vs=>Az (pvs σ parts) fun ps=>bpX P fs vs ps fun v=>K (σ.put dst v)):=aT
@[go_sem ↓] theorem cD:opX P pos dst (.makeSlice t l c) σ K=slX (ti P t) fun e=>Az (σ.e l) fun u=>Az (σ.e c) fun v=>mkX P pos e u v dst σ K:=Te
@[go_sem ↓] theorem js {L:Bool} {wL:Wrap L} {args:List Operand} {ts:Array TypeId}:opL P L pos dst (.call ⟨.value g,args.toArray,ts⟩) σ K wL=Az (σ.e g) fun u=>Az (evs σ args) fun vs=>clX P L pos u vs dst σ K wL:=dD
@[go_sem ↓] theorem jA:opX P pos dst (.store t a x) σ K=Az (σ.e a) fun u=>Az (cellsOf (σ.e x)) fun cs=>stX P t u cs σ fun σ'=>K (σ'.put dst .any):=aY
@[go_sem ↓] theorem gI:opX P pos dst (.call ⟨.builtin .append,List.toArray [x,y],List.toArray [t,t]⟩) σ K=slX (ti P t) fun e=>Az (σ.e x) fun u=>Az (σ.e y) fun v=>apX P pos e u v dst σ K:=Yt
def apE (P:Program) (pos:Nat) (e:TypeId) (u v:AV) (dst:Option Tmp) (σ:St) (K:St→Prop):Prop:=Vb u=true∧match v with
 | .ro rows=>(0<tsz P e∧(tz P e).length =tsz P e)∧∃z,roZ z (tsz P e) rows fun rows=>(rows.length*P.bytesOf e≤140737488355328∧rows.length≤maxLen)∧look σ.t (pos*16)=none∧K ((σ.setT (pos*16) ⟨rows,some (tsz P e),0,z⟩).put dst (.own (pos*16)))
 |_=>False
theorem Y3 {z:Bool} {sz:Nat} {rows:List (List D)} {K K':List (List D)→Prop} (h:∀r,K r→K' r) (k:roZ z sz rows K):roZ z sz rows K':=by
 cases z
 ·exact⟨k.1,h _ k.2⟩
 ·exact⟨k.1,h _ k.2⟩
def roX (z:Bool) (sz:Nat) (rows:List (List D)) (K:List (List D)→Prop):Prop:=roZ z sz rows K
@[go_sem] theorem kK {sz:Nat} {rows:List (List D)} {K:List (List D)→Prop}:roX false sz rows K=AU (∀row ∈ rows,row.length=sz∧∀d ∈ row,d.flat=true) (K rows):=rfl
@[go_sem] theorem jt {e:TypeId} {u:AV} {rows:List (List D)}:apE P pos e u (.ro rows) dst σ K=AU (Vb u=true) (AU (0<tsz P e∧(tz P e).length =tsz P e) (zX fun z=>roX z (tsz P e) rows fun rows=>AU (rows.length*P.bytesOf e≤140737488355328∧rows.length≤maxLen) (AU (look σ.t (pos*16)=none) (Mt rows fun rows=>K ((σ.setT (pos*16) ⟨rows,some (tsz P e),0,z⟩).put dst (.own (pos*16))))))):=by simp only [IU]; rfl
@[go_sem ↓] theorem ju:opE P pos dst (.call ⟨.builtin .append,List.toArray [x,y],List.toArray [t,t]⟩) σ K=slX (ti P t) fun e=>Az (σ.e x) fun u=>Az (σ.e y) fun v=>apE P pos e u v dst σ K:=by
 unfold opE
 simp only [Ev,ed,slX,true_and,Az]
 generalize σ.e x=u
 generalize σ.e y=v
 refine propext ⟨?_,?_⟩
 ·rintro ⟨r,⟨h1,h2⟩,h3,h4,h5⟩
  split at h2
  ·rename_i el rows hel
   obtain⟨h6,z,h7⟩:=h2
   rw [hel]
   refine⟨h1,h6,z,Y3 (fun rows h8=>?_) h7⟩
   obtain⟨h9,rfl⟩:=h8
   refine⟨h9,h3.1,?_⟩
   cases dst <;> exact h5
  ·exact h2.elim
 ·intro h
  generalize hti:ti P t=q at h ⊢
  cases q with
  | sl el=>
   cases v with
   | ro rows=>
    obtain⟨h1,h6,z,h7⟩:=h
    cases z with
    |false=>
     obtain⟨h8,h9,h10,h5⟩:=h7
     exact⟨_,⟨h1,h6,false,h8,h9,rfl⟩,⟨h10,trivial⟩,trivial,by cases dst <;> exact h5⟩
    |true=>
     obtain⟨h8,h9,h10,h5⟩:=h7
     exact⟨_,⟨h1,h6,true,h8,h9,rfl⟩,⟨h10,trivial⟩,trivial,by cases dst <;> exact h5⟩
   |_=>exact h.2.elim
  |_=>exact h.elim
@[go_sem ↓] theorem jv {e:TypeId} {u v:AV}:apX P pos e u v dst σ K=AU (0<tsz P e∧(tz P e).length =tsz P e) (zX fun z=>Ox z e (tsz P e) u σ fun rows σ1=>ON z (tsz P e) v σ1 fun rows2 σ2=>
   AU ((rows.length+rows2.length)*P.bytesOf e≤140737488355328∧rows.length+rows2.length≤maxLen) (AU (look σ2.t (pos*16)=none) (Mt (rows++rows2) fun rows=>K ((σ2.setT (pos*16) ⟨rows,some (tsz P e),0,z⟩).put dst (.own (pos*16)))))):=by simp only [IU]; rfl
end
attribute [go_sem] zAV
section
variable {P:Program} {σ:St} {K:St→Prop} {ops:Array Oper} {base cut i:Nat}
@[go_sem] theorem dO {x:Oper} {xs b:List Oper} {w1:Wrap ops} {w2} {w3:Wrap K} {w4:Wrap cut}:Ke P ops base cut i (List.append (x::xs) b) σ K w1 w2 w3 w4=Ke P ops base cut i (x::List.append xs b) σ K w1 ⟨⟩ w3 w4:=rfl
@[go_sem] theorem eW {b:List Oper} {w1:Wrap ops} {w2} {w3:Wrap K} {w4:Wrap cut}:Ke P ops base cut i (List.append [] b) σ K w1 w2 w3 w4=Ke P ops base cut i b σ K w1 ⟨⟩ w3 w4:=rfl
@[go_sem ↓] theorem Zf {b:List Oper} {j:Nat} {K:Tmp→Prop}:Mr (List.toArray (List.append [] b)) j K=Mr b.toArray j K:=rfl
end
end Go.Proofs.YtckcfdggbbabfaaGreat.Ab
