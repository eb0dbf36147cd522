/-
  The abstract walk as rules, third part: memory, calls, results, loops.
-/
import Derived.Test.YtckcfdggbbabfaaGreatAbU
import Derived.IntWalk
namespace Go.Proofs.YtckcfdggbbabfaaGreat.Ab
set_option linter.unusedVariables false
open Go.RowKit
section
variable {P:Program} {σ:St} {K:St→Prop} {Q:AE→St→Prop}
def i8 (t:TI):Prop:=match t with| .str =>True|_=>False
@[go_sem] theorem fH:i8 .str =True:=rfl
@[go_sem] theorem ct {t:TypeId} {rows:List (List D)} {K:AV→Prop}:QW P t (.ro rows) σ K=slX (ti P t) fun _=>K (.int .i64 rows.length):=by
 simp only [QW,ON,slX]
 generalize ti P t=q
 cases q <;> simp
@[go_sem] theorem aL {t:TypeId} {t':Nat} {K:AV→Prop}:QW P t (.own t') σ K=slX (ti P t) fun _=>optX (σ.T t') fun tk=>K (.int .i64 tk.rows.length):=by
 simp only [QW,ON,slX,optX]
 generalize ti P t=q
 cases q with
 |sl e=>exact propext ⟨fun ⟨v,⟨tk,h1,h2⟩,h3⟩=>⟨tk,h1,h2 ▸ h3⟩,fun ⟨tk,h1,h3⟩=>⟨_,⟨tk,h1,rfl⟩,h3⟩⟩
 |_=>simp
@[go_sem] theorem aM {t:TypeId} {t' g:Nat} {p:Pth} {K:AV→Prop}:QW P t (.sub t' g p) σ K=slX (ti P t) fun _=>optX (subR σ.T t' g p) fun rows=>K (.int .i64 rows.length):=by
 simp only [QW,ON,slX,optX]
 generalize ti P t=q
 cases q with
 |sl e=>exact propext ⟨fun ⟨v,⟨tk,h1,h2⟩,h3⟩=>⟨tk,h1,h2 ▸ h3⟩,fun ⟨tk,h1,h3⟩=>⟨_,⟨tk,h1,rfl⟩,h3⟩⟩
 |_=>simp
def Uq (t:TI) (K:TypeId→TypeId→Prop):Prop:=match t with| .map k e=>K k e|_=>False
@[go_sem] theorem fI {k e:TypeId} {K:TypeId→TypeId→Prop}:Uq (.map k e) K=K k e:=rfl
def TS (o:Option (List AV)) (K:KT→List (List D)→Prop):Prop:=∃q rows,o=some [.mpc q rows] ∧K q rows
@[go_sem] theorem dw {q:KT} {rows:List (List D)} {K:KT→List (List D)→Prop}:TS (some [.mpc q rows]) K=K q rows:=by
 simp only [TS,Option.some.injEq,List.cons.injEq,AV.mpc.injEq,and_true]
 exact propext ⟨fun ⟨q',r',⟨h1,h2⟩,h3⟩=>h1 ▸ h2 ▸ h3,fun h=>⟨q,rows,⟨rfl,rfl⟩,h⟩⟩
@[go_sem] theorem aN {t:TypeId} {b:Nat} {K:AV→Prop}:QW P t (.mpr b) σ K=Uq (ti P t) fun _ _=>TS (σ.B b) fun _ rows=>K (.int .i64 rows.length):=by
 simp only [QW,ON,Uq,TS]
 generalize ti P t=q
 cases q with
 |map k e=>exact propext ⟨fun ⟨v,⟨q,rows,h1,h2⟩,h3⟩=>⟨q,rows,h1,h2 ▸ h3⟩,fun ⟨q,rows,h1,h3⟩=>⟨_,⟨q,rows,h1,rfl⟩,h3⟩⟩
 |_=>simp
def Mo {α:Type} (v:α) (K:α→Prop):Prop:=∃y,v=y∧K y
theorem Ia {α:Type} {v:α} {K:α→Prop}:Mo v K=K v:=by simp [Mo]
def bxX (pos:Nat) (cs:Option (List AV)) (dst:Option Tmp) (v:AV) (σ:St) (K:St→Prop):Prop:=optX cs fun vs=>Aa (look σ.b pos=none) (K ((σ.put dst v).setB pos vs))
def bxZ (pos:Nat) (cs:Option (List AV)) (dst:Option Tmp) (v:AV) (σ:St) (K:St→Prop):Prop:=bxX pos cs dst v σ K
theorem cu {pos:Nat} {cs:Option (List AV)} {dst:Option Tmp} {v:AV}:bxX pos cs dst v σ K=BK cs fun o=>bxZ pos o dst v σ K:=rfl
@[go_sem ↓] theorem fJ {pos:Nat} {vs:List AV} {dst:Option Tmp} {v:AV}:bxZ pos (some vs) dst v σ K=Aa (look σ.b pos=none) (K ((σ.put dst v).setB pos vs)):=by simp [bxZ,bxX,optX]
theorem Ib {dst:Option Tmp} {v:AV} {pos:Nat} {vs:List AV}:σ.add dst ⟨v,[],[(pos,vs)]⟩=(σ.put dst v).setB pos vs:=by cases dst <;> rfl
attribute [go_sem] cellsOf
theorem fK {pos:Nat} {dst:Option Tmp} {t:TypeId} {x:Operand}:opX P pos dst (.box t x) σ K=bxX pos (cellsOf (σ.e x)) dst (.box pos 0) σ K:=by
 rw [Nk (fun _=>by simp only [aop])]
 simp only [Ev,bxX]
 split
 ·rename_i vs h
  rw [h,GW]
  refine propext ⟨?_,?_⟩
  ·rintro ⟨r,rfl,-,h1,h2⟩
   exact⟨h1.1,by rw [← Ib]; exact h2⟩
  ·rintro ⟨h1,h2⟩
   exact⟨_,rfl,trivial,⟨h1,trivial⟩,by rw [Ib]; exact h2⟩
 ·rename_i h
  rw [h,RO]
  simp
theorem aO {pos:Nat} {dst:Option Tmp} {t:TypeId}:opX P pos dst (.alloc t) σ K=Aa (0<(tz P t).length) (bxX pos (some ((tz P t).map zAV)) dst (.box pos 0) σ K):=by
 rw [Nk (fun _=>by simp only [aop])]
 simp only [Ev,bxX,GW,Aa]
 refine propext ⟨?_,?_⟩
 ·rintro ⟨r,⟨vs,rfl,h0,rfl⟩,-,h1,h2⟩
  exact⟨h0,h1.1,by rw [← Ib]; exact h2⟩
 ·rintro ⟨h0,h1,h2⟩
  exact⟨_,⟨_,rfl,h0,rfl⟩,trivial,⟨h1,trivial⟩,by rw [Ib]; exact h2⟩
attribute [go_sem] zAV
def pvs (σ:St):List (Nat × Operand)→List (Nat × AV)
 | [] =>[]
 |x::xs=>(x.1,σ.e x.2)::pvs σ xs
theorem Vs {xs:List (Nat × Operand)}:pvs σ xs=xs.map fun x=>(x.1,σ.e x.2):=by induction xs with|nil=>rfl|cons x xs ih=>simp [pvs,ih]
attribute [go_sem] pvs DM
def bsX (P:Program) (pos:Nat) (e:TypeId) (n:Nat) (parts:List (Nat × AV)) (dst:Option Tmp) (σ:St) (K:St→Prop):Prop:=
 Aa (parts.length=n∧n*tsz P e≤16777216∧0<tsz P e∧(tz P e).length =tsz P e) (bxX pos (DM (tsz P e) 0 parts) dst (.bsl pos n (tsz P e)) σ K)
@[go_sem ↓] theorem aP {pos:Nat} {dst:Option Tmp} {t:TypeId} {n:Nat} {parts:List (Nat × Operand)}:opX P pos dst (.buildSlice t n parts.toArray) σ K=slX (ti P t) fun e=>BK (pvs σ parts) fun ps=>bsX P pos e n ps dst σ K:=by
 rw [Nk (fun _=>by simp only [aop])]
 simp only [Ev,slX,BK,Vs]
 generalize ti P t=q
 split
 ·simp only [Xp,bsX,bxX,Aa]
  refine propext ⟨?_,?_⟩
  ·rintro ⟨r,⟨h1,h2,h3,h4,h5⟩,-,h6,h7⟩
   split at h5
   ·rename_i vs h8
    subst h5
    rw [h8,GW]
    exact⟨⟨h1,h2,h3,h4⟩,h6.1,by rw [← Ib]; exact h7⟩
   ·exact h5.elim
  ·rintro ⟨⟨h1,h2,h3,h4⟩,vs,h8,h6,h7⟩
   exact⟨⟨_,[],[(pos,vs)]⟩,⟨h1,h2,h3,h4,by rw [h8]⟩,trivial,⟨h6,trivial⟩,by rw [Ib]; exact h7⟩
 ·simp
attribute [go_sem] bsX
attribute [go_sem] KG
def TT (P:Program) (t:TI) (K:List (Nat × TypeId)→Prop):Prop:=match t with| .st fs=>K fs| .arr n el=>Aa (0<tsz P el) (K (KG (tsz P el) el n 0))|_=>False
@[go_sem] theorem aQ {fs:List (Nat × TypeId)} {K:List (Nat × TypeId)→Prop}:TT P (.st fs) K=K fs:=rfl
def bpX (P:Program) (fs:List (Nat × TypeId)) (vs:List AV) (ps:List (Nat × AV)) (K:AV→Prop):Prop:=∃ws,JU P fs vs ps=some ws∧K (.agg ws)
@[go_sem] theorem aR {fs:List (Nat × TypeId)} {vs:List AV} {K:AV→Prop}:bpX P fs vs [] K=K (.agg vs):=by simp [bpX,JU]
@[go_sem] theorem Yj {fs:List (Nat × TypeId)} {vs:List AV} {f:Nat} {v:AV} {ps:List (Nat × AV)} {K:AV→Prop}:bpX P fs vs ((f,v)::ps) K=optX fs[f]? fun q=>optX (cellsOf v) fun cs=>Aa (cs.length=tsz P q.2 ∧q.1 +cs.length≤vs.length) (BK (splice vs q.1 cs) fun vs=>bpX P fs vs ps K):=by
 unfold bpX optX Aa BK
 rw [JU]
 cases fs[f]? with
 |none=>simp
 | some q=>
  cases cellsOf v with
  |none=>simp
  | some cs=>
   by_cases hc:cs.length=tsz P q.2 ∧q.1 +cs.length≤vs.length
   ·simp only [if_pos hc,Option.some.injEq,exists_eq_left']
    exact propext ⟨fun h=>⟨hc,h⟩,fun h=>h.2⟩
   ·simp only [if_neg hc,Option.some.injEq,exists_eq_left']
    refine propext ⟨?_,?_⟩
    ·rintro ⟨_,h,_⟩; cases h
    ·intro h; exact absurd h.1 hc
theorem aS {pos:Nat} {dst:Option Tmp} {t:TypeId} {parts:List (Nat × Operand)}:opX P pos dst (.build t parts.toArray) σ K=TT P (ti P t) fun fs=>Aa ((fs.all fun q=>decide (0<tsz P q.2))=true∧0<(tz P t).length) (bpX P fs ((tz P t).map zAV) (pvs σ parts) fun v=>K (σ.put dst v)):=by
 rw [HJ (p:=fun v=>TT P (ti P t) fun fs=>Aa ((fs.all fun q=>decide (0<tsz P q.2))=true∧0<(tz P t).length) (bpX P fs ((tz P t).map zAV) (pvs σ parts) fun u=>v=u)) (fun _=>by simp only [aop]) (fun r=>by
  simp only [Ev,TT,Aa,bpX,Vs]
  generalize ti P t=q
  cases q with
  |st fs=>
   refine propext ⟨?_,?_⟩
   ·rintro ⟨h1,h2,vs,h3,rfl⟩; exact⟨_,⟨⟨h1,h2⟩,vs,h3,rfl⟩,rfl⟩
   ·rintro ⟨v,⟨⟨h1,h2⟩,vs,h3,rfl⟩,rfl⟩; exact⟨h1,h2,vs,h3,rfl⟩
  |arr n el=>
   refine propext ⟨?_,?_⟩
   ·rintro ⟨h0,h1,h2,vs,h3,rfl⟩; exact⟨_,⟨h0,⟨h1,h2⟩,vs,h3,rfl⟩,rfl⟩
   ·rintro ⟨v,⟨h0,⟨h1,h2⟩,vs,h3,rfl⟩,rfl⟩; exact⟨h0,h1,h2,vs,h3,rfl⟩
  |_=>simp)]
 unfold TT Aa bpX
 generalize ti P t=q
 cases q with
 |st fs=>
  refine propext ⟨?_,?_⟩
  ·rintro ⟨v,⟨h1,vs,h3,rfl⟩,hk⟩; exact⟨h1,vs,h3,hk⟩
  ·rintro ⟨h1,vs,h3,hk⟩; exact⟨_,⟨h1,vs,h3,rfl⟩,hk⟩
 |arr n el=>
  refine propext ⟨?_,?_⟩
  ·rintro ⟨v,⟨h0,h1,vs,h3,rfl⟩,hk⟩; exact⟨h0,h1,vs,h3,hk⟩
  ·rintro ⟨h0,h1,vs,h3,hk⟩; exact⟨_,⟨h0,h1,vs,h3,rfl⟩,hk⟩
 |_=>simp
attribute [go_sem] zD zDs
@[go_sem] theorem fL {n:Int}:leX n n=True:=eq_true (Int.le_refl n)
def mkX (P:Program) (pos:Nat) (e:TypeId) (n m:AV) (dst:Option Tmp) (σ:St) (K:St→Prop):Prop:=match n,m with
 | .int .i64 n,.int .i64 m=>Aa (leX n m) (Aa (0≤n∧m.toNat*P.bytesOf e≤281474976710656∧m≤4611686018427387904) (Aa (0<tsz P e∧(tz P e).length =tsz P e) (optX (zDs (tz P e)) fun z=>Aa (look σ.t (pos*16)=none) (Mo (List.replicate n.toNat z) fun rows=>K ((σ.put dst (.own (pos*16))).setT (pos*16) ⟨rows,some (tsz P e),0,false⟩)))))
 |_,_=>False
@[go_sem] theorem aT {pos:Nat} {e:TypeId} {n m:Int} {dst:Option Tmp}:mkX P pos e (.int .i64 n) (.int .i64 m) dst σ K=Aa (leX n m) (Aa (0≤n∧m.toNat*P.bytesOf e≤281474976710656∧m≤4611686018427387904) (Aa (0<tsz P e∧(tz P e).length =tsz P e) (optX (zDs (tz P e)) fun z=>Aa (look σ.t (pos*16)=none) (Mo (List.replicate n.toNat z) fun rows=>K ((σ.put dst (.own (pos*16))).setT (pos*16) ⟨rows,some (tsz P e),0,false⟩))))):=rfl
theorem Vt {dst:Option Tmp} {v:AV} {n:Nat} {tk:Tok}:σ.add dst ⟨v,[(n,tk)],[]⟩=(σ.put dst v).setT n tk:=by cases dst <;> rfl
theorem TU {pos:Nat} {dst:Option Tmp} {t:TypeId} {l c:Operand}:opX P pos dst (.makeSlice t l c) σ K=slX (ti P t) fun e=>mkX P pos e (σ.e l) (σ.e c) dst σ K:=by
 rw [Nk (fun _=>by simp only [aop])]
 simp only [Ev,slX,mkX]
 generalize ti P t=q
 cases q with
 | sl e=>
  generalize σ.e l=u
  generalize σ.e c=v
  split
  ·rename_i el n m h1
   cases h1
   simp only [bW,Aa,optX,Ia]
   refine propext ⟨?_,?_⟩
   ·rintro ⟨r,⟨k1,k2,k3,k4,k5,k6,z,k7,rfl⟩,k8,-,k9⟩
    exact⟨k1,⟨k2,k3,k4⟩,⟨k5,k6⟩,z,k7,k8.1,by rw [← Vt]; exact k9⟩
   ·rintro ⟨k1,⟨k2,k3,k4⟩,⟨k5,k6⟩,z,k7,k8,k9⟩
    exact⟨⟨_,[(pos*16,⟨_,some (tsz P e),0,false⟩)],[]⟩,⟨k1,k2,k3,k4,k5,k6,z,k7,rfl⟩,⟨k8,trivial⟩,trivial,by rw [Vt]; exact k9⟩
  ·rename_i hno
   have:∀p:Prop,(∃r:Res,False∧p)=False:=fun p=>by simp
   simp only [false_and,exists_false]
   refine propext ⟨False.elim,fun h=>?_⟩
   split at h
   ·exact hno e _ _ rfl rfl rfl
   ·exact h
 |_=>simp
def RP (P:Program) (L:Bool) (pos:Nat) (f:FuncId) (args:List AV) (as:Option (List AV)) (dst:Option Tmp) (σ:St) (K:St→Prop) (_:Wrap L):Prop:=
 ((∃bs rv,as=some bs∧AC P f bs rv∧Cd σ (conv (pos*16) rv).2 ∧K (σ.add dst ⟨(conv (pos*16) rv).1,(conv (pos*16) rv).2,[]⟩))∨
  ∃bs rv qt,AG P f bs [] [] rv qt [] ∧cls (fun _=>none) (fun _=>none) args=some bs∧((qt=[] ∧Qu rv=true∧K (σ.add dst ⟨rv,[],[]⟩))∨∃q tk,qt=[(q,tk)] ∧rv= .own q∧tk.gen=0∧look σ.t (pos*16)=none∧K (σ.add dst ⟨.own (pos*16),[(pos*16,tk)],[]⟩)))∨
 (L=true∧VV P f args σ fun v σ'=>K (σ'.put dst v))
def clX (P:Program) (L:Bool) (pos:Nat) (g:AV) (args:List AV) (dst:Option Tmp) (σ:St) (K:St→Prop) (w:Wrap L):Prop:=match g with
 | .fn f caps=>RP P L pos f (args++caps) (cls σ.T σ.B (args++caps)) dst σ K w
 |_=>False
@[go_sem] theorem cw {L:Bool} {wL:Wrap L} {pos:Nat} {f:FuncId} {caps args:List AV} {dst:Option Tmp}:clX P L pos (.fn f caps) args dst σ K wL=BK (args++caps) fun vs=>BK (cls σ.T σ.B vs) fun r=>RP P L pos f vs r dst σ K wL:=rfl
theorem cy {L:Bool} {wL:Wrap L} {pos:Nat} {dst:Option Tmp} {g:Operand} {args:List Operand} {ts:Array TypeId}:opL P L pos dst (.call ⟨.value g,args.toArray,ts⟩) σ K wL=clX P L pos (σ.e g) (evs σ args) dst σ K wL:=by
 have h1:opX P pos dst (.call ⟨.value g,args.toArray,ts⟩) σ K=match σ.e g with
   | .fn f caps=>(∃bs rv,cls σ.T σ.B (evs σ args++caps)=some bs∧AC P f bs rv∧Cd σ (conv (pos*16) rv).2 ∧K (σ.add dst ⟨(conv (pos*16) rv).1,(conv (pos*16) rv).2,[]⟩))∨
     ∃bs rv qt,AG P f bs [] [] rv qt [] ∧cls (fun _=>none) (fun _=>none) (evs σ args++caps)=some bs∧((qt=[] ∧Qu rv=true∧K (σ.add dst ⟨rv,[],[]⟩))∨∃q tk,qt=[(q,tk)] ∧rv= .own q∧tk.gen=0∧look σ.t (pos*16)=none∧K (σ.add dst ⟨.own (pos*16),[(pos*16,tk)],[]⟩))
   |_=>False:=by
  rw [Nk (fun _=>by simp only [aop])]
  simp only [Ev,Oz,Rw]
  generalize σ.e g=v
  split
  ·refine propext ⟨?_,?_⟩
   ·rintro ⟨r,h1,h2,-,h4⟩
    rcases h1 with h1|h1
    ·split at h1
     ·rename_i as has
      obtain⟨rv,h5,rfl⟩:=h1
      exact .inl ⟨as,rv,has,h5,h2,h4⟩
     ·exact h1.elim
    ·obtain⟨as,rv,qt,h5,h6,h7⟩:=h1
     rcases h7 with ⟨h7,h8,rfl⟩|⟨q,tk,h7,h8,h9,rfl⟩
     ·exact .inr ⟨as,rv,qt,h5,h6,.inl ⟨h7,h8,h4⟩⟩
     ·exact .inr ⟨as,rv,qt,h5,h6,.inr ⟨q,tk,h7,h8,h9,h2.1,h4⟩⟩
   ·rintro (⟨bs,rv,h1,h5,h2,h4⟩|⟨bs,rv,qt,h5,h6,⟨h7,h8,h4⟩|⟨q,tk,h7,h8,h9,h2,h4⟩⟩)
    ·exact⟨⟨(conv (pos*16) rv).1,(conv (pos*16) rv).2,[]⟩,.inl (by rw [h1]; exact⟨rv,h5,rfl⟩),h2,trivial,h4⟩
    ·exact⟨⟨rv,[],[]⟩,.inr ⟨bs,rv,qt,h5,h6,.inl ⟨h7,h8,rfl⟩⟩,trivial,trivial,h4⟩
    ·exact⟨⟨.own (pos*16),[(pos*16,tk)],[]⟩,.inr ⟨bs,rv,qt,h5,h6,.inr ⟨q,tk,h7,h8,h9,rfl⟩⟩,⟨h2,trivial⟩,trivial,h4⟩
  ·simp
 have h2:opL P L pos dst (.call ⟨.value g,args.toArray,ts⟩) σ K wL=(opX P pos dst (.call ⟨.value g,args.toArray,ts⟩) σ K∨(L=true∧KI P ⟨dst,.call ⟨.value g,args.toArray,ts⟩,0, "",#[],none⟩ σ K)):=by
  have hA:O4 ⟨dst,.call ⟨.value g,args.toArray,ts⟩,0, "",#[],none⟩=false:=rfl
  have hS:SliK P pos ⟨dst,.call ⟨.value g,args.toArray,ts⟩,0, "",#[],none⟩ σ K=False:=rfl
  unfold opL OQ opX
  rw [hA,hS]; simp
 rw [h2,h1]
 unfold clX RP KI
 simp only [Rw]
 generalize σ.e g=v
 cases v <;> simp
attribute [go_sem] cl cls toD toDs toA toAs GO FT Option.map_some Option.map_none
theorem Vu {pos:Nat} {f:FuncId} {args bs:List AV} {dst:Option Tmp} {rv:RV} (h:AC P f bs rv) (hf:Cd σ (conv (pos*16) rv).2) (hk:K (σ.add dst ⟨(conv (pos*16) rv).1,(conv (pos*16) rv).2,[]⟩)) {L:Bool} {wL:Wrap L}:RP P L pos f args (some bs) dst σ K wL:=
 .inl (.inl ⟨bs,rv,rfl,h,hf,hk⟩)
@[go_sem] theorem cz:Cd σ [] =True:=rfl
@[go_sem] theorem bp {n:Nat} {tk:Tok} {l:List (Nat × Tok)}:Cd σ ((n,tk)::l)=(look σ.t n=none∧Cd σ l):=rfl
attribute [go_sem] conv Ei addT addB
@[go_sem] theorem fM {s t b} {d:Tmp} {r:Res}:St.add ⟨s,t,b⟩ (some d) r=⟨(d,r.v)::s,addT t r.t,addB b r.b⟩:=rfl
@[go_sem] theorem fN {s t b} {r:Res}:St.add ⟨s,t,b⟩ none r=⟨s,addT t r.t,addB b r.b⟩:=rfl
section
variable {z:Bool}
@[go_sem] theorem aU {K:List D→St→Prop}:Bp z [] σ K=K [] σ:=by rw [Bp]
@[go_sem] theorem aV {k:IntKind} {n:Int} {vs:List AV} {K:List D→St→Prop}:Bp z (.int k n::vs) σ K=Bp z vs σ fun ds σ'=>K (.int k n::ds) σ':=by rw [Bp]
@[go_sem] theorem Yk {vs:List AV} {K:List D→St→Prop}:Bp z (.nils ::vs) σ K=Bp z vs σ fun ds σ'=>K (Sc z::ds) σ':=by rw [Bp]
@[go_sem] theorem i9:Sc false= .sl [] :=rfl
@[go_sem] theorem jA:Sc true= .fz [] :=rfl
@[go_sem] theorem c8 {rows:List (List D)} {vs:List AV} {K:List D→St→Prop}:Bp z (.ro rows::vs) σ K=Aa (z=true) (Bp z vs σ fun ds σ'=>K (.fz rows::ds) σ'):=by rw [Bp]; rfl
@[go_sem ↓] theorem gz {b n sz:Nat} {K:List (List D)→St→Prop}:Xq z b n sz σ K=Aa (1000≤b) (Aa (0<sz) (optX (σ.B b) fun vs=>optX (Jx z vs) fun ds=>Aa (ds.length=n*sz) (BK (CE sz n ds) fun rows=>K rows (σ.killB b)))):=rfl
@[go_sem] theorem fO {s t b} {x:Nat}:St.killB ⟨s,t,b⟩ x=⟨s,t,(x,none)::b⟩:=rfl
attribute [go_sem] JV litD Jx unD unDs
@[go_sem] theorem aW {t:Nat} {vs:List AV} {K:List D→St→Prop}:Bp z (.own t::vs) σ K=optX (σ.T t) fun tk=>Aa (okZ z tk=true) (Bp z vs (σ.killT t) fun ds σ'=>K (.sl tk.rows::ds) σ'):=by rw [Bp]; rfl
end
def stX (P:Program) (t:TypeId) (a:AV) (cs:Option (List AV)) (σ:St) (K:St→Prop):Prop:=
 optX cs fun cs=>Aa (cs.length=tsz P t∧0<tsz P t∧cs.all AV.one=true) (match a with
  | .box b off=>∃vs,σ.B b=some vs∧isMp vs=false∧off+cs.length≤vs.length∧K (σ.setB b (splice vs off cs))
  | .elt t' sz i off=>∃tk0,σ.T t'=some tk0∧Bp tk0.z cs σ fun ds σ'=>∃tk row,(σ'.T t'=some tk∧tk.z=tk0.z)∧tk.rows[i]? =some row∧row.length=sz∧off+ds.length≤sz∧K (σ'.setT t' ⟨tk.rows.set i (splice row off ds),tk.sz,if DX row off ds=true then tk.gen else tk.gen+1,tk.z⟩)
  | .els t' g p sz i off=>Bp false cs σ fun ds σ'=>∃rows,subR σ'.T t' g p=some rows∧∃row,rows[i]? =some row∧(p≠ [] ∧row.length=sz∧off+ds.length≤sz∧DX row off ds=true)∧∃tk,σ'.T t'=some tk∧K (σ'.setT t' ⟨putR p tk.rows (.sl (rows.set i (splice row off ds))),tk.sz,tk.gen,tk.z⟩)
  |_=>False)
theorem aX {pos:Nat} {dst:Option Tmp} {t:TypeId} {a x:Operand}:opX P pos dst (.store t a x) σ K=stX P t (σ.e a) (cellsOf (σ.e x)) σ fun σ'=>K (σ'.put dst .any):=by
 unfold opX
 simp only [aop,Lp,stX]
 split
 ·rename_i cs h
  rw [h,GW]
  unfold Aa
  refine propext ⟨?_,?_⟩
  ·rintro ⟨h1,h2,h3,h4⟩; exact⟨⟨h1,h2,h3⟩,h4⟩
  ·rintro ⟨⟨h1,h2,h3⟩,h4⟩; exact⟨h1,h2,h3,h4⟩
 ·rename_i h
  rw [h,RO]
@[go_sem] theorem aY {t:TypeId} {b off:Nat} {cs:List AV}:stX P t (.box b off) (some cs) σ K=Aa (cs.length=tsz P t∧0<tsz P t∧cs.all AV.one=true) (optX (σ.B b) fun vs=>Aa (isMp vs=false) (Aa (off+cs.length≤vs.length) (BK (splice vs off cs) fun vs'=>K (σ.setB b vs')))):=by
 rw [stX,GW]; rfl
@[go_sem] theorem aZ {t:TypeId} {t' g sz i off:Nat} {p:Pth} {cs:List AV}:stX P t (.els t' g p sz i off) (some cs) σ K=Aa (cs.length=tsz P t∧0<tsz P t∧cs.all AV.one=true) (Bp false cs σ fun ds σ'=>optX (subR σ'.T t' g p) fun rows=>optX rows[i]? fun row=>Aa (p≠ [] ∧row.length=sz∧off+ds.length≤sz∧DX row off ds=true) (optX (σ'.T t') fun tk=>Mo (putR p tk.rows (.sl (rows.set i (splice row off ds)))) fun rows'=>K (σ'.setT t' ⟨rows',tk.sz,tk.gen,tk.z⟩))):=by
 rw [stX,GW]
 simp only [Aa,optX,Ia]
@[go_sem] theorem aa {t:TypeId} {t' sz i off:Nat} {cs:List AV}:stX P t (.elt t' sz i off) (some cs) σ K=Aa (cs.length=tsz P t∧0<tsz P t∧cs.all AV.one=true) (optX (σ.T t') fun tk0=>Bp tk0.z cs σ fun ds σ'=>optX (σ'.T t') fun tk=>Aa (tk.z=tk0.z) (optX tk.rows[i]? fun row=>Aa (row.length=sz∧off+ds.length≤sz) (Mo (tk.rows.set i (splice row off ds)) fun rows=>K (σ'.setT t' ⟨rows,tk.sz,if DX row off ds=true then tk.gen else tk.gen+1,tk.z⟩)))):=by
 rw [stX,GW]
 simp only [Aa,optX,Ia]
 congr 1
 congr 1
 funext tk0
 congr 1
 congr 1
 funext ds σ'
 refine propext ⟨?_,?_⟩
 ·rintro ⟨tk,row,⟨h1,h0⟩,h2,h3,h4,h5⟩; exact⟨tk,h1,h0,row,h2,⟨h3,h4⟩,h5⟩
 ·rintro ⟨tk,h1,h0,row,h2,⟨h3,h4⟩,h5⟩; exact⟨tk,row,⟨h1,h0⟩,h2,h3,h4,h5⟩
section
variable {z:Bool}
@[go_sem] theorem XB {e:TypeId} {sz:Nat} {K:List (List D)→St→Prop}:O0 z e sz .nils σ K=K [] σ:=rfl
@[go_sem] theorem Yl {e:TypeId} {sz b n sz':Nat} {K:List (List D)→St→Prop}:O0 z e sz (.bsl b n sz') σ K=if n=0 then K [] σ else Aa (sz'=sz) (Xq z b n sz σ K):=rfl
@[go_sem] theorem Ym {e:TypeId} {sz t:Nat} {K:List (List D)→St→Prop}:O0 z e sz (.own t) σ K=optX (σ.T t) fun tk=>Aa (tk.sz=some sz∧okZ z tk=true) (K tk.rows (σ.killT t)):=rfl
@[go_sem] theorem XC {sz:Nat} {K:List (List D)→St→Prop}:OO z sz .nils σ K=K [] σ:=rfl
@[go_sem] theorem Yn {sz b n sz':Nat} {K:List (List D)→St→Prop}:OO z sz (.bsl b n sz') σ K=optX (σ.B b) fun vs=>Aa (sz'=sz∧vs.length=n*sz∧vs.all AV.one=true) (Bp z vs σ fun ds σ'=>BK (CE sz n ds) fun rows=>K rows σ'):=by
 simp only [OO,optX,Aa,BK]
 refine propext ⟨?_,?_⟩
 ·rintro ⟨vs,h1,h2,h3,h4,h5⟩; exact⟨vs,h1,⟨h2,h3,h4⟩,h5⟩
 ·rintro ⟨vs,h1,⟨h2,h3,h4⟩,h5⟩; exact⟨vs,h1,h2,h3,h4,h5⟩
@[go_sem] theorem ae {sz:Nat} {rows:List (List D)} {K:List (List D)→St→Prop}:OO false sz (.ro rows) σ K=Aa (∀row ∈ rows,row.length=sz∧∀d ∈ row,d.flat=true) (K rows σ):=rfl
end
attribute [go_sem] CE
def zX (K:Bool→Prop):Prop:=∃z,K z
def zY (K:Bool→Prop) (_:Wrap K):Prop:=∃z,K z
@[go_sem ↓] theorem jj {K:Bool→Prop}:zX K=zY K ⟨⟩:=rfl
theorem EP {K:Bool→Prop} {w:Wrap K} (z:Bool) (h:K z):zY K w:=⟨z,h⟩
def apX (P:Program) (pos:Nat) (e:TypeId) (x y:AV) (dst:Option Tmp) (σ:St) (K:St→Prop):Prop:=
 Aa (0<tsz P e∧(tz P e).length =tsz P e) (zX fun z=>O0 z e (tsz P e) x σ fun rows σ1=>OO z (tsz P e) y σ1 fun rows2 σ2=>
   Aa ((rows.length+rows2.length)*P.bytesOf e≤140737488355328∧rows.length+rows2.length≤maxLen) (Aa (look σ2.t (pos*16)=none) (K ((σ2.setT (pos*16) ⟨rows++rows2,some (tsz P e),0,z⟩).put dst (.own (pos*16))))))
theorem Yo {pos:Nat} {dst:Option Tmp} {x y:Operand} {t:TypeId}:opX P pos dst (.call ⟨.builtin .append,List.toArray [x,y],List.toArray [t,t]⟩) σ K=slX (ti P t) fun e=>apX P pos e (σ.e x) (σ.e y) dst σ K:=by
 unfold opX
 simp only [aop,UG,slX,true_and]
 generalize ti P t=q
 split
 ·rename_i e
  show (0<tsz P e∧(tz P e).length =tsz P e∧_)=((0<tsz P e∧(tz P e).length =tsz P e)∧_)
  rw [and_assoc]
  congr 1
  congr 1
  show (∃z,_)=(∃z,_)
  congr 1
  funext z
  congr 1
  funext rows σ1
  congr 1
  funext rows2 σ2
  show (_∧_∧_∧_)=((_∧_)∧_∧_)
  rw [and_assoc]
 ·rename_i h
  cases q with
  |sl e=>exact(h e rfl).elim
  |_=>rfl
end
attribute [go_sem ↓] cu
attribute [go_sem ↓] ct aL aM aN aQ aR Yj aT cw aU aV Yk c8 aW aY aa aZ XB Yl Ym XC Yn ae
end Go.Proofs.YtckcfdggbbabfaaGreat.Ab
namespace Go.Proofs.YtckcfdggbbabfaaGreat.Ab
set_option linter.unusedVariables false
open Go.RowKit
section
variable {P:Program} {σ:St} {K:St→Prop} {Q:AE→St→Prop}
@[go_sem] theorem c9 {n:Int} (h1: -9223372036854775808≤n) (h2:n≤9223372036854775807):IntKind.i64.wrap n=n:=Go.IntWalk.i64_in n ⟨h1,h2⟩
@[go_sem ↓] theorem fP {K:List AV→Prop}:LU P σ [] K=K [] :=rfl
@[go_sem ↓] theorem fQ {t:Tmp} {l:List ResultVar} {K:List AV→Prop}:LU P σ (.tmp t::l) K=BK (σ.g t) fun v=>LU P σ l fun vs=>K (v::vs):=rfl
@[go_sem ↓] theorem dx {a:Tmp} {t:TypeId} {l:List ResultVar} {K:List AV→Prop}:LU P σ (.cell a t::l) K=Mn P t (σ.g a) σ fun v=>LU P σ l fun vs=>K (v::vs):=rfl
@[go_sem] theorem ah {k:IntKind} {n m:Int}:C0 (.int k n) (.int k m) σ K=Aa (n=m) (K σ):=by simp [C0,Aa]
@[go_sem] theorem Yp {b c:Bool}:C0 (.bool b) (.bool c) σ K=Aa (b=c) (K σ):=by simp [C0,Aa]
@[go_sem] theorem Yq {ap:Option Nat} {rows:List (List D)}:C0 .nils (.ow ap rows) σ K=Aa (rows=[]) (K σ):=by simp [C0,Aa]
@[go_sem] theorem ai {t:Nat} {ap:Option Nat} {rows:List (List D)}:C0 (.own t) (.ow ap rows) σ K=optX (σ.T t) fun tk=>Aa (tk.rows=rows) (Aa (ap=none∨tk.sz=ap) (Aa (tk.z=false) (K (σ.killT t)))):=by simp only [C0,Aa,optX]
@[go_sem] theorem aj {vs:List AV} {rs:List RV}:C0 (.agg vs) (.agg rs) σ K=Ho vs rs σ K:=by simp only [C0]
@[go_sem] theorem ak {vs:List AV} {rs:List RV}:C0 (.tup vs) (.tup rs) σ K=Ho vs rs σ K:=by simp only [C0]
@[go_sem] theorem Yr:Ho [] [] σ K=K σ:=by simp only [Ho]
@[go_sem] theorem XD {v:AV} {vs:List AV} {r:RV} {rs:List RV}:Ho (v::vs) (r::rs) σ K=C0 v r σ fun σ'=>Ho vs rs σ' K:=by simp only [Ho]
def XE (r:RV) (σ:St) (vs:List AV):Prop:=match vs with
 | [v] =>C0 v r σ fun _=>True
 |vs=>C0 (.tup vs) r σ fun _=>True
@[go_sem ↓] theorem g7 {r:RV}:XE r σ [] =C0 (.tup []) r σ fun _=>True:=rfl
@[go_sem ↓] theorem g8 {r:RV} {v:AV}:XE r σ [v] =C0 v r σ fun _=>True:=rfl
@[go_sem ↓] theorem g9 {r:RV} {v u:AV} {vs:List AV}:XE r σ (v::u::vs)=C0 (.tup (v::u::vs)) r σ fun _=>True:=rfl
def endX (P:Program) (l:List ResultVar) (r:RV) (q:AE) (σ:St):Prop:=match q with| .exit _=>False|_=>LU P σ l (XE r σ)
@[go_sem ↓] theorem dA {l:List ResultVar} {r:RV}:endX P l r .normal σ=LU P σ l (XE r σ):=rfl
@[go_sem ↓] theorem hD {l:List ResultVar} {r:RV}:endX P l r .ret σ=LU P σ l (XE r σ):=rfl
theorem AY (hm:P.follows .mixedOrders =true) {f:FuncId} {fn:Func} {c:Code} {l:List ResultVar} {args:List AV} {r:RV} (hf:P.funcs[f]? =some fn) (hb:fn.body=some c) (hr:fn.results=l.toArray) (hnm:(fn.name == "runtime.NumGoroutine")=false)
  (hn:decide (args.length≤fn.ntmps)=true) (hok:Fw fn.ntmps c=true) (h:awp P c (endX P l r) (st0 args)):AC P f args r:=by
 refine Uf hm hf hb hnm (of_decide_eq_true hn) hok ?_
 have e:endQ P fn.results.toList r=endX P l r:=by
  rw [hr]
  funext q σ
  cases q <;> rfl
 rw [e]
 exact h
attribute [go_sem] st0 Ph
def Ys {X:Type} (R:X→Prop) (inv:X→St) (μ:X→Nat) (x:X) (σ:St):Prop:=∃x',Zg σ (inv x')∧R x'∧μ x'<μ x
def dB {X:Type} (R:X→Prop) (inv:X→St) (μ:X→Nat) (x:X) (σ:St) (_:Wrap R) (_:Wrap inv) (_:Wrap μ) (_:Wrap x):Prop:=Ys R inv μ x σ
@[go_sem ↓] theorem dy {X:Type} {R:X→Prop} {inv:X→St} {μ:X→Nat} {x:X} {σ:St}:Ys R inv μ x σ=dB R inv μ x σ ⟨⟩ ⟨⟩ ⟨⟩ ⟨⟩:=rfl
attribute [go_sem] UK Sg O5 O6 ren rens FG Ft List.nodup_nil List.all_nil List.all_cons AV.int.injEq AV.bool.injEq AV.str.injEq AV.ro.injEq AV.rop.injEq AV.agg.injEq AV.fn.injEq AV.own.injEq AV.box.injEq AV.bsl.injEq AV.elt.injEq List.cons.injEq Tok.mk.injEq Option.isSome_some exists_eq_left' exists_eq_left
end
attribute [go_sem ↓] ah Yp Yq ai aj ak Yr XD
end Go.Proofs.YtckcfdggbbabfaaGreat.Ab
namespace Go.Proofs.YtckcfdggbbabfaaGreat.Ab
set_option linter.unusedVariables false
open Go.RowKit
section
variable {P:Program} {σ:St} {K:St→Prop} {pos:Nat} {dst:Option Tmp} {t t' s d:TypeId} {x y a b c g l:Operand} {f i:Nat} {op:BinOp}
def slY (t:TI) (K:TypeId→Prop) (_:Wrap K):Prop:=slX t K
@[go_sem ↓] theorem jB {t:TI} {K:TypeId→Prop}:slX t K=slY t K ⟨⟩:=rfl
@[go_sem] theorem jC {e:TypeId} {K:TypeId→Prop} {w:Wrap K}:slY (.sl e) K w=K e:=rfl
def bq (t:TI) (K:IntKind→Prop) (_:Wrap K):Prop:=TO t K
@[go_sem ↓] theorem fR {t:TI} {K:IntKind→Prop}:TO t K=bq t K ⟨⟩:=rfl
@[go_sem] theorem d6 {k:IntKind} {K:IntKind→Prop} {w:Wrap K}:bq (.int k) K w=K k:=rfl
def stY (P:Program) (t:TI) (K:List (Nat × TypeId)→Prop) (_:Wrap K):Prop:=TT P t K
@[go_sem ↓] theorem jD {t:TI} {K:List (Nat × TypeId)→Prop}:TT P t K=stY P t K ⟨⟩:=rfl
@[go_sem] theorem jE {fs:List (Nat × TypeId)} {K:List (Nat × TypeId)→Prop} {w:Wrap K}:stY P (.st fs) K w=K fs:=rfl
@[go_sem] theorem hH {n:Nat} {el:TypeId} {K:List (Nat × TypeId)→Prop} {w:Wrap K}:stY P (.arr n el) K w=Aa (0<tsz P el) (BK (KG (tsz P el) el n 0) K):=rfl
def fS (rows:List (List D)) (n:Int) (sz:Nat) (K:List D→Prop) (_:Wrap K):Prop:=TQ rows n sz K
@[go_sem ↓] theorem hI {rows:List (List D)} {n:Int} {sz:Nat} {K:List D→Prop}:TQ rows n sz K=fS rows n sz K ⟨⟩:=rfl
def fT {α:Type} (v:α) (K:α→Prop) (_:Wrap K):Prop:=Mo v K
@[go_sem ↓] theorem hJ {α:Type} {v:α} {K:α→Prop}:Mo v K=fT v K ⟨⟩:=rfl
theorem BA {α:Type} {v:α} {K:α→Prop} {w:Wrap K} (y:α) (h:v=y) (hk:K y):fT v K w:=⟨y,h,hk⟩
def J7 (n:Nat) (rs:List RV) (K:List AV→List (Nat × Tok)→Prop) (_:Wrap K):Prop:=K (Ei n rs).1 (Ei n rs).2
def cv1 (n:Nat) (r:RV) (K:AV→List (Nat × Tok)→Prop):Prop:=K (conv n r).1 (conv n r).2
section
variable {n:Nat} {rs us:List RV} {L:List AV→List (Nat × Tok)→Prop} {L1:AV→List (Nat × Tok)→Prop} {w:Wrap L}
@[go_sem] theorem am:J7 n [] L w=L [] [] :=rfl
@[go_sem] theorem an {k:IntKind} {x:Int}:J7 n (.int k x::rs) L w=J7 n rs (fun vs ts=>L (.int k x::vs) ts) ⟨⟩:=by simp only [J7,Ei,conv,List.length_nil,Nat.add_zero,List.nil_append]
@[go_sem] theorem Yt {b:Bool}:J7 n (.bool b::rs) L w=J7 n rs (fun vs ts=>L (.bool b::vs) ts) ⟨⟩:=by simp only [J7,Ei,conv,List.length_nil,Nat.add_zero,List.nil_append]
@[go_sem] theorem dC {ap:Option Nat} {x:List (List D)}:J7 n (.ow ap x::rs) L w=J7 (n+1) rs (fun vs ts=>L (.own n::vs) ((n,⟨x,ap,0,false⟩)::ts)) ⟨⟩:=by simp only [J7,Ei,conv,List.length_nil,List.length_cons,Nat.zero_add,List.cons_append,List.nil_append]
@[go_sem] theorem aq:J7 n (.agg us::rs) L w=J7 n us (fun ws ts=>J7 (n+ts.length) rs (fun vs ts'=>L (.agg ws::vs) (ts++ts')) ⟨⟩) ⟨⟩:=by simp only [J7,Ei,conv]
@[go_sem ↓] theorem hU {k:IntKind} {x:Int}:cv1 n (.int k x) L1=L1 (.int k x) [] :=rfl
@[go_sem ↓] theorem fU {b:Bool}:cv1 n (.bool b) L1=L1 (.bool b) [] :=rfl
@[go_sem ↓] theorem hZ {x:ByteArray}:cv1 n (.str x) L1=L1 (.str x) [] :=rfl
@[go_sem ↓] theorem jF {x:List (List D)}:cv1 n (.ro x) L1=L1 .any [] :=rfl
@[go_sem ↓] theorem fV:cv1 n .nilp L1=L1 .nilp [] :=rfl
@[go_sem ↓] theorem jG {ap:Option Nat} {x:List (List D)}:cv1 n (.ow ap x) L1=L1 (.own n) [(n,⟨x,ap,0,false⟩)] :=rfl
@[go_sem ↓] theorem iA:cv1 n (.agg us) L1=J7 n us (fun ws ts=>L1 (.agg ws) ts) ⟨⟩:=by simp only [J7,cv1,conv]
@[go_sem ↓] theorem iB:cv1 n (.tup us) L1=J7 n us (fun ws ts=>L1 (.tup ws) ts) ⟨⟩:=by simp only [J7,cv1,conv]
end
attribute [go_sem ↓] am an Yt dC aq
def RQ (P:Program) (L:Bool) (pos:Nat) (f:FuncId) (args:List AV) (as:Option (List AV)) (dst:Option Tmp) (σ:St) (K:St→Prop) (_:Wrap K) (w:Wrap L):Prop:=RP P L pos f args as dst σ K w
@[go_sem ↓] theorem fW {L:Bool} {wL:Wrap L} {f:FuncId} {args:List AV} {as:Option (List AV)}:RP P L pos f args as dst σ K wL=RQ P L pos f args as dst σ K ⟨⟩ wL:=rfl
theorem AK {f:FuncId} {args bs:List AV} {w:Wrap K} {rv:RV} (h:AC P f bs rv) (hk:BK (pos*16) fun m=>cv1 m rv fun v ts=>Aa (Cd σ ts) (K (σ.add dst ⟨v,ts,[]⟩))) {L:Bool} {wL:Wrap L}:RQ P L pos f args (some bs) dst σ K w wL:=Vu h hk.1 hk.2
theorem Nl {f:FuncId} {args bs:List AV} {w:Wrap K} {rv:RV} {o:Option (List AV)} (e:o=some bs) (h:AC P f bs rv) (hk:BK (pos*16) fun m=>cv1 m rv fun v ts=>Aa (Cd σ ts) (K (σ.add dst ⟨v,ts,[]⟩))) {L:Bool} {wL:Wrap L}:RQ P L pos f args o dst σ K w wL:=by
 subst e; exact Vu h hk.1 hk.2
theorem Yu {f:FuncId} {args bs:List AV} {w:Wrap K} {rv:AV} {o:Option (List AV)} (h:AG P f bs [] [] rv [] []) (e:cls (fun _=>none) (fun _=>none) args=some bs) (hp:Qu rv=true) (hk:K (σ.add dst ⟨rv,[],[]⟩)) {L:Bool} {wL:Wrap L}:RQ P L pos f args o dst σ K w wL:=.inl (.inr ⟨bs,rv,[],h,e,.inl ⟨rfl,hp,hk⟩⟩)
attribute [go_sem] Qu
def Vv (y:Way) (as:List AV) (pt:List (Nat × Tok)) (pb:List (Nat × List AV)) (qt:List (Nat × Tok)) (qb:List (Nat × List AV)):Bool:=
 decide (((y.rt++y.nt).map (·.2)).Nodup)&&decide (((y.rt++y.nt).map (·.1)).Nodup)&&decide (((y.rb.map (·.2.1))++y.nb.map (·.2)).Nodup)&&decide (((y.rb.map (·.1))++y.nb.map (·.1)).Nodup)&&
 (y.rt.all fun p=>(look pt p.1).isSome)&&(y.rb.all fun p=>(look pb p.1).isSome)&&(y.nt.all fun p=>(look pt p.1).isNone)&&(y.nb.all fun p=>(look pb p.1).isNone)&&decide ((pt.map (·.1)).Nodup)&&decide ((pb.map (·.1)).Nodup)&&
 (pb.all fun p=>(look qb p.1).isSome)&&KH y.rt y.cv&&(y.md||noZ qt)&&Xr as pt pb&&(y.rt.all fun p=>decide (p.1 <1000)||(look qt p.1).isNone)
def Po:List (Nat × Nat)→List (Nat × Option Tok)→Prop
 | [],_=>True
 |(_,n)::r,t=>look t n=none∧Po r t
def Mp:List (Nat × Nat)→List (Nat × Option (List AV))→Prop
 | [],_=>True
 |(_,n)::r,t=>look t n=none∧Mp r t
def Vw (y:Way) (args as:List AV) (pt:List (Nat × Tok)) (pb:List (Nat × List AV)) (σ1:St):Prop:=
 Po y.nt σ1.t∧Mp y.nb σ1.b∧N4 y.rt σ1 pt∧Fs y σ1 (σ1.less y) pb∧PasL y (σ1.less y) args as
theorem OE {t:List (Nat × Option Tok)}:∀ {l:List (Nat × Nat)},Po l t→∀p ∈ l,(look t p.2).isNone =true
 | [],_,p,h=>by cases h
 |(c,n)::l,hf,p,h=>by
  simp only [Po] at hf
  rcases List.mem_cons.1 h with rfl|h
  ·rw [hf.1]; rfl
  ·exact OE hf.2 p h
theorem Mq {t:List (Nat × Option (List AV))}:∀ {l:List (Nat × Nat)},Mp l t→∀p ∈ l,(look t p.2).isNone =true
 | [],_,p,h=>by cases h
 |(c,n)::l,hf,p,h=>by
  simp only [Mp] at hf
  rcases List.mem_cons.1 h with rfl|h
  ·rw [hf.1]; rfl
  ·exact Mq hf.2 p h
theorem TV {f:FuncId} {args:List AV} {σ:St} {as:List AV} {pt:List (Nat × Tok)} {pb:List (Nat × List AV)} {r:AV} {qt:List (Nat × Tok)} {qb:List (Nat × List AV)} {K:AV→St→Prop} (y:Way) (h:AG P f as pt pb r qt qb) (hB:Vv y as pt pb qt qb=true)
  (hc:Cr y.cv σ fun σ1=>Aa (Vw y args as pt pb σ1) (CB y.cv (σ1.after y qt qb) fun σ2=>K (bak y r) σ2)):Qv P f args σ K:=by
 refine⟨y,as,pt,pb,r,qt,qb,h,Hu (fun σ1 h=>?_) hc⟩
 unfold Vv at hB
 simp only [Bool.and_eq_true,decide_eq_true_eq,and_assoc] at hB
 obtain⟨b1,b2,b3,b4,b5,b6,b7,b8,b9,b10,b11,b12,bm,b13,b14⟩:=hB
 obtain⟨⟨h1,h2,h3,h4,h5⟩,h6⟩:=h
 refine⟨⟨b1,b2,b3,b4,b5,b6,?_,?_,b9,b10⟩,h3,h4,h5,b11,⟨b12,bm⟩,b13,b14,h6⟩
 ·rw [List.all_eq_true] at b7 ⊢
  intro p hp
  rw [b7 p hp,OE h1 p hp]; rfl
 ·rw [List.all_eq_true] at b8 ⊢
  intro p hp
  rw [b8 p hp,Mq h2 p hp]; rfl
theorem AP {L:Bool} {wL:Wrap L} {f:FuncId} {args:List AV} {o:Option (List AV)} {w:Wrap K} {as:List AV} {pt:List (Nat × Tok)} {pb:List (Nat × List AV)} {r:AV} {qt:List (Nat × Tok)} {qb:List (Nat × List AV)} (y:Way) (hL:L=true) (h:AG P f as pt pb r qt qb) (hB:Vv y as pt pb qt qb=true)
  (hc:Cr y.cv σ fun σ1=>Aa (Vw y args as pt pb σ1) (CB y.cv (σ1.after y qt qb) fun σ2=>K (σ2.put dst (bak y r)))):RQ P L pos f args o dst σ K w wL:=.inr ⟨hL,[],TV (K:=fun v σ'=>K (σ'.put dst v)) y h hB hc⟩
theorem Ur {L:Bool} {wL:Wrap L} {f:FuncId} {args:List AV} {o:Option (List AV)} {w:Wrap K} {as:List AV} {pt:List (Nat × Tok)} {pb:List (Nat × List AV)} {r:AV} {qt:List (Nat × Tok)} {qb:List (Nat × List AV)} (bs:List Nat) (y:Way) (hL:L=true) (h:AG P f as pt pb r qt qb) (hB:Vv y as pt pb qt qb=true)
  (hc:FzK bs args σ fun args σ=>Cr y.cv σ fun σ1=>Aa (Vw y args as pt pb σ1) (CB y.cv (σ1.after y qt qb) fun σ2=>K (σ2.put dst (bak y r)))):RQ P L pos f args o dst σ K w wL:=.inr ⟨hL,bs,Pj (fun args σ hc=>TV (K:=fun v σ'=>K (σ'.put dst v)) y h hB hc) hc⟩
@[go_sem ↓] theorem iC {args:List AV} {K:List AV→St→Prop}:FzK [] args σ K=K args σ:=rfl
@[go_sem ↓] theorem fX {b:Nat} {r:List Nat} {args:List AV} {s:List (Nat × AV)} {t:List (Nat × Option Tok)} {bb:List (Nat × Option (List AV))} {K:List AV→St→Prop}:FzK (b::r) args ⟨s,t,bb⟩ K=optX ((look bb b).join) fun vs=>Aa (1000≤b∧isMp vs=false) (BK (args.map (fzA b vs)) fun args'=>FzK r args' ⟨s,t,(b,none)::bb⟩ K):=rfl
section
variable {b:Nat} {vs:List AV}
@[go_sem] theorem iD {x n sz:Nat}:fzA b vs (.bsl x n sz)=(cl (fun _=>none) (only b vs) (.bsl x n sz)).getD (.bsl x n sz):=rfl
@[go_sem] theorem iE {x off:Nat}:fzA b vs (.box x off)=(cl (fun _=>none) (only b vs) (.box x off)).getD (.box x off):=rfl
@[go_sem] theorem iF {us:List AV}:fzA b vs (.agg us)=(cl (fun _=>none) (only b vs) (.agg us)).getD (.agg us):=rfl
@[go_sem] theorem iG {k:IntKind} {n:Int}:fzA b vs (.int k n)= .int k n:=rfl
@[go_sem] theorem fY {x:Bool}:fzA b vs (.bool x)= .bool x:=rfl
@[go_sem] theorem iH {x:ByteArray}:fzA b vs (.str x)= .str x:=rfl
@[go_sem] theorem jH {x:List (List D)}:fzA b vs (.ro x)= .ro x:=rfl
@[go_sem] theorem iI {x:Nat}:fzA b vs (.own x)= .own x:=rfl
@[go_sem] theorem iJ {x:List AV} {off:Nat}:fzA b vs (.rop x off)= .rop x off:=rfl
@[go_sem] theorem iK {t sz i off:Nat}:fzA b vs (.elt t sz i off)= .elt t sz i off:=rfl
@[go_sem] theorem jI {f:FuncId} {x:List AV}:fzA b vs (.fn f x)= .fn f x:=rfl
@[go_sem] theorem fZ:fzA b vs .nilp = .nilp :=rfl
@[go_sem] theorem fc:fzA b vs .nils = .nils :=rfl
@[go_sem] theorem iL {x:Nat}:fzA b vs (.mpr x)= .mpr x:=rfl
@[go_sem] theorem iM:fzA b vs .any = .any :=rfl
end
attribute [go_sem] Option.getD_some Option.getD_none Option.join_some Option.bind_some Option.bind_none only
attribute [go_sem] ne_eq true_imp_iff implies_true false_imp_iff DX D.flat kept Vw Po Mp N4 St.less N5 O1 O2 O3 UH UI St.after bak baks Fs
@[go_sem ↓] theorem d7:Cr [] σ K=K σ:=by rw [Cr]
@[go_sem ↓] theorem d8 {n t' g sz i j:Nat} {r:List (Nat × AV × Option Nat)} {s:List (Nat × AV)} {t:List (Nat × Option Tok)} {b:List (Nat × Option (List AV))}:Cr ((n,.sub t' g [(sz,i,j)],none)::r) ⟨s,t,b⟩ K=
  Aa (look t n=none∧n≠t') (optX (look t t').join fun tk=>Aa (tk.gen=g) (optX (getP [(sz,i,j)] tk.rows) fun rows=>Mo (putR [(sz,i,j)] tk.rows .gone) fun rows'=>Cr r ⟨s,(n,some ⟨rows,none,0,tk.z⟩)::(t',some ⟨rows',tk.sz,g,tk.z⟩)::t,b⟩ K)):=by
 rw [Cr]
 simp only [Aa,optX,Ia,List.length_cons,List.length_nil,true_and,Nat.zero_add]
 refine propext ⟨?_,?_⟩
 ·rintro ⟨h2,tk,rows,h4,h5,h6,h7,h8⟩; exact⟨⟨h2,h7⟩,tk,h4,h5,rows,h6,h8⟩
 ·rintro ⟨⟨h2,h7⟩,tk,h4,h5,rows,h6,h8⟩; exact⟨h2,tk,rows,h4,h5,h6,h7,h8⟩
@[go_sem ↓] theorem iN:CB [] σ K=K σ:=by rw [CB]
def unX (n:Nat) (K:St→Prop) (σ:St):Prop:=K {σ with t:=(n,none)::σ.t}
@[go_sem ↓] theorem jJ {n:Nat} {s:List (Nat × AV)} {t:List (Nat × Option Tok)} {b:List (Nat × Option (List AV))}:unX n K ⟨s,t,b⟩=K ⟨s,(n,none)::t,b⟩:=rfl
def unS (n t' g:Nat) (p:Pth) (K:St→Prop) (σ:St):Prop:=match σ.T n with
 |some tn=>∃tk,σ.T t'=some tk∧OP p tk.rows=some .gone ∧(n≠t'∧okZ tk.z tn=true)∧K {σ with t:=(n,none)::(t',some ⟨putR p tk.rows (.sl tn.rows),tk.sz,if tn.gen=0∧tk.gen=g then g else tk.gen+tn.gen+1,tk.z⟩)::σ.t}
 |none=>K σ
@[go_sem ↓] theorem iO {n t' g:Nat} {p:Pth} {z:Option Nat} {r:List (Nat × AV × Option Nat)}:CB ((n,.sub t' g p,z)::r) σ K=CB r σ (unS n t' g p K):=by rw [CB]; rfl
def unO (o:Option Tok) (n t' g:Nat) (p:Pth) (K:St→Prop) (σ:St):Prop:=match o with
 |some tn=>Aa (n≠t') (optX (σ.T t') fun tk=>Aa (okZ tk.z tn=true) (Aa (OP p tk.rows=some .gone) (Mo (putR p tk.rows (.sl tn.rows)) fun rows=>K ⟨σ.s,(n,none)::(t',some ⟨rows,tk.sz,if tn.gen=0∧tk.gen=g then g else tk.gen+tn.gen+1,tk.z⟩)::σ.t,σ.b⟩)))
 |none=>K σ
@[go_sem ↓] theorem jK {n t' g:Nat} {p:Pth} {s:List (Nat × AV)} {t:List (Nat × Option Tok)} {b:List (Nat × Option (List AV))}:unS n t' g p K ⟨s,t,b⟩=unO (look t n).join n t' g p K ⟨s,t,b⟩:=by
 unfold unS unO
 have e:St.T ⟨s,t,b⟩ n=(look t n).join :=rfl
 rw [e]
 cases (look t n).join with
 |none=>rfl
 |some tn=>
  simp only [Aa,optX,Ia]
  refine propext ⟨?_,?_⟩
  ·rintro ⟨tk,h1,h2,⟨h3,h0⟩,h4⟩; exact⟨h3,tk,h1,h0,h2,h4⟩
  ·rintro ⟨h3,tk,h1,h0,h2,h4⟩; exact⟨tk,h1,h2,⟨h3,h0⟩,h4⟩
@[go_sem] theorem fe {n t' g:Nat} {p:Pth} {tn:Tok}:unO (some tn) n t' g p K σ=Aa (n≠t') (optX (σ.T t') fun tk=>Aa (okZ tk.z tn=true) (Aa (OP p tk.rows=some .gone) (Mo (putR p tk.rows (.sl tn.rows)) fun rows=>K ⟨σ.s,(n,none)::(t',some ⟨rows,tk.sz,if tn.gen=0∧tk.gen=g then g else tk.gen+tn.gen+1,tk.z⟩)::σ.t,σ.b⟩))):=rfl
@[go_sem] theorem ff {n t' g:Nat} {p:Pth}:unO none n t' g p K σ=K σ:=rfl
theorem Ke {α:Type} {l:List α} {i:Nat} {x y:α} (h:l[i]? =some x):(l.set i y)[i]? =some y:=List.getElem?_set_self (Af h)
theorem D0 {rows r:List (List D)} {sz i j:Nat} {row:List D} (h:rows[i]? =some row) (hl:row.length=sz) (hj:row[j]? =some (.sl r)):getP [(sz,i,j)] rows=some r:=by
 simp only [getP,h,hl,if_true,hj]
theorem Us {rows:List (List D)} {sz i j:Nat} {row:List D} {d:D} (h:rows[i]? =some row) (hl:row.length=sz) (hj:row[j]? =some d):OP [(sz,i,j)] rows=some d:=by
 simp only [OP,h,hl,if_true,hj]
theorem GX {rows:List (List D)} {sz i j:Nat} {row:List D} {d d':D} (h:rows[i]? =some row) (hj:row[j]? =some d'):putR [(sz,i,j)] rows d=rows.set i (row.set j d):=by
 unfold putR
 rw [Ab.put,h]
 simp only [hj,Ab.put]
theorem ar {rows:List (List D)} {sz i j:Nat} {row:List D} {d d':D} (h:rows[i]? =some row) (hj:row[j]? =some d'):(putR [(sz,i,j)] rows d)[i]? =some (row.set j d):=by
 rw [GX h hj]; exact Ke h
section
variable {y:Way} {σ0:St}
@[go_sem] theorem fg:PasL y σ0 [] [] =True:=by simp only [PasL]
@[go_sem] theorem d9 {a b:AV} {as bs:List AV}:PasL y σ0 (a::as) (b::bs)=(Fq y σ0 a b∧PasL y σ0 as bs):=by simp only [PasL]
@[go_sem] theorem iP {n c:Nat}:Fq y σ0 (.own n) (.own c)=(look y.rt c=some n∨∃z,∃m,look y.rt c=some m∧look y.cv m=some (.own n,z)):=by
 simp only [Fq]
 refine propext ⟨?_,?_⟩
 ·rintro ⟨m,h1,h2|⟨z,h2⟩⟩
  ·cases h2; exact .inl h1
  ·exact .inr ⟨z,m,h1,h2⟩
 ·rintro (h|⟨z,m,h1,h2⟩)
  ·exact⟨n,h,.inl rfl⟩
  ·exact⟨m,h1,.inr ⟨z,h2⟩⟩
def cvX (o:Option (AV × Option Nat)) (a:AV):Prop:=match o with|some x=>x.1 =a|none=>False
theorem au {o:Option (AV × Option Nat)} {a:AV}:(∃z,o=some (a,z))=cvX o a:=by
 unfold cvX
 cases o with
 |none=>simp
 |some x=>obtain⟨b,z⟩:=x; simp
def rtX (o:Option Nat) (K:Nat→Prop):Prop:=match o with|some n=>K n|none=>False
@[go_sem] theorem fh {n:Nat} {K:Nat→Prop}:rtX (some n) K=K n:=rfl
@[go_sem] theorem fi {x:AV × Option Nat} {a:AV}:cvX (some x) a=(x.1 =a):=rfl
theorem aw {o:Option Nat} {p:Nat→Prop}:(∃n,o=some n∧p n)=rtX o p:=by
 cases o <;> simp [rtX]
@[go_sem] theorem iQ {t g c:Nat} {p:Pth}:Fq y σ0 (.sub t g p) (.own c)=rtX (look y.rt c) fun n=>cvX (look y.cv n) (.sub t g p):=by
 rw [← aw]
 simp only [Fq,reduceCtorEq,false_or,au]
@[go_sem] theorem iR {n off b off':Nat}:Fq y σ0 (.box n off) (.box b off')=match look y.rb b with|some q=>n=q.1 ∧off=q.2 +off'|none=>False:=by
 simp only [Fq,AV.box.injEq]
 cases look y.rb b <;> simp
@[go_sem] theorem iS {vs us:List AV}:Fq y σ0 (.agg vs) (.agg us)=PasL y σ0 vs us:=by simp only [Fq]
@[go_sem] theorem iT {n b:Nat}:Fq y σ0 (.mpr n) (.mpr b)=match look y.rb b with|some q=>n=q.1 |none=>False:=by
 simp only [Fq,AV.mpr.injEq]
 cases look y.rb b <;> simp
def clW (y:Way) (σ0:St) (a:AV):Option AV:=cl (if y.md=true then fun _=>none else σ0.T) (if y.md=true then fun _=>none else σ0.B) a
@[go_sem] theorem iU {a:AV} {k:IntKind} {n:Int}:Fq y σ0 a (.int k n)=(clW y σ0 a=some (.int k n)):=by cases a <;> simp only [Fq,clW]
@[go_sem] theorem jL {a:AV} {rows:List (List D)}:Fq y σ0 a (.ro rows)=(clW y σ0 a=some (.ro rows)):=by cases a <;> simp only [Fq,clW]
@[go_sem] theorem iV {a:AV} {vs:List AV} {off:Nat}:Fq y σ0 a (.rop vs off)=(clW y σ0 a=some (.rop vs off)):=by cases a <;> simp only [Fq,clW]
@[go_sem] theorem iW {a:AV} {q:KT} {rows:List (List D)}:Fq y σ0 a (.mpc q rows)=(clW y σ0 a=some (.mpc q rows)):=by cases a <;> simp only [Fq,clW]
@[go_sem] theorem jM {cv rt rb nt nb} {a:AV}:clW ⟨cv,rt,rb,nt,nb,true⟩ σ0 a=cl (fun _=>none) (fun _=>none) a:=by simp [clW]
@[go_sem] theorem jN {cv rt rb nt nb} {a:AV}:clW ⟨cv,rt,rb,nt,nb,false⟩ σ0 a=cl σ0.T σ0.B a:=by simp [clW]
end
def fj (P:Program) (t:TypeId) (v:AV) (σ:St) (K:Bool→Prop) (_:Wrap K):Prop:=Zy P t v σ K
theorem Yv {rows:List (List D)} {K:Bool→Prop} {w:Wrap K} (h:slP (ti P t)) (h0:rows=[] →K true) (h1:K false):fj P t (.ro rows) σ K w:=Zz h h0 h1
@[go_sem ↓] theorem eA:opX P pos dst (.makeMap t none) σ K=optX (VT P t) fun q=>Aa (look σ.b pos=none) (K ((σ.put dst (.mpr pos)).setB pos [.mpc q []])):=by
 rw [Nk (fun _=>by simp only [aop])]
 simp only [Ev,optX,Aa]
 refine propext ⟨?_,?_⟩
 ·rintro ⟨r,⟨q,h1,rfl⟩,-,h2,h3⟩
  exact⟨q,h1,h2.1,by rw [← Ib]; exact h3⟩
 ·rintro ⟨q,h1,h2,h3⟩
  exact⟨_,⟨q,h1,rfl⟩,trivial,⟨h2,trivial⟩,by rw [Ib]; exact h3⟩
def lkR (ok:Bool) (o:Option D) (z:AV) (K:AV→Prop):Prop:=K (if ok=true then .tup [(o.map ofD).getD z,.bool o.isSome] else (o.map ofD).getD z)
@[go_sem] theorem jO {o:Option D} {z:AV} {K:AV→Prop}:lkR false o z K=BK ((o.map ofD).getD z) K:=by simp [lkR,BK]
def lkX (P:Program) (t:TypeId) (u v:AV) (ok:Bool) (σ:St) (K:AV→Prop):Prop:=∃r,N2 P σ.B t u v ok r∧K r
@[go_sem] theorem iX {b:Nat} {v:AV} {ok:Bool} {K:AV→Prop}:lkX P t (.mpr b) v ok σ K=Uq (ti P t) fun kt et=>TS (σ.B b) fun q rows=>Aa (Sb P kt=some q) (optX (keyD v) fun k=>Aa (Rg q k=true) (optX (tz1 P et) fun z=>BK (zAV z) fun z'=>BK (Hl k rows) fun o=>lkR ok o z' K)):=by
 simp only [lkX,N2,Uq,TS,Aa,optX,BK,lkR]
 generalize ti P t=w
 cases w with
 |map kt et=>
  simp only
  refine propext ⟨?_,?_⟩
  ·rintro ⟨r,⟨q,rows,h1,h2,k,h3,h4,z,h5,rfl⟩,h6⟩; exact⟨q,rows,h1,h2,k,h3,h4,z,h5,h6⟩
  ·rintro ⟨q,rows,h1,h2,k,h3,h4,z,h5,h6⟩; exact⟨_,⟨q,rows,h1,h2,k,h3,h4,z,h5,rfl⟩,h6⟩
 |_=>simp
@[go_sem ↓] theorem fk {ok:Bool}:opX P pos dst (.lookup t x y ok) σ K=BK (σ.e x) fun u=>BK (σ.e y) fun v=>lkX P t u v ok σ fun r=>K (σ.put dst r):=
 HJ (p:=fun v=>N2 P σ.B t (σ.e x) (σ.e y) ok v) (fun _=>by simp only [aop]) (fun r=>by simp only [Ev])
def RR (a:AV):Option D:=match JV [a] with|some [d] =>some d|_=>none
@[go_sem] theorem eC {k:IntKind} {n:Int}:RR (.int k n)=some (.int k n):=rfl
@[go_sem] theorem dD {b:Bool}:RR (.bool b)=some (.bool b):=rfl
@[go_sem] theorem eD {s:ByteArray}:RR (.str s)=some (.str s):=rfl
theorem Yw {a:AV} {d:D}:JV [a] =some [d] ↔RR a=some d:=by
 unfold RR
 cases a <;> simp [JV]
def muX (P:Program) (t:TypeId) (u v x:AV) (σ:St) (K:St→Prop):Prop:=Sd P t u v x σ K
@[go_sem] theorem iY {b:Nat} {v x:AV}:muX P t (.mpr b) v x σ K=Uq (ti P t) fun kt et=>TS (σ.B b) fun q rows=>Aa (rows.length<68719476736) (Aa (Sb P kt=some q) (optX (keyD v) fun k=>Aa (Rg q k=true) (optX (RR x) fun d=>Mo (mput k d rows) fun rows'=>K (σ.setB b [.mpc q rows'])))):=by
 simp only [muX,Sd,Uq,TS,Aa,optX,Ia]
 generalize ti P t=w
 cases w with
 |map kt et=>
  simp only [Yw]
 |_=>rfl
@[go_sem ↓] theorem bt {m i:Operand}:opX P pos dst (.mapUpdate t m i x) σ K=BK (σ.e m) fun u=>BK (σ.e i) fun v=>BK (σ.e x) fun z=>muX P t u v z σ fun σ'=>K (σ'.put dst .any):=by
 unfold opX
 simp only [aop,BK,muX]
attribute [go_sem] keyD
@[go_sem] theorem fl {k:IntKind} {n:Int}:Rg (.int k) (.int k n)=true:=by simp [Rg]
@[go_sem] theorem fo {s:ByteArray}:Rg .str (.str s)=true:=rfl
@[go_sem ↓] theorem jP:opX P pos dst (.pick c a b) σ K=BK (σ.e c) fun u=>BK (σ.e a) fun v=>BK (σ.e b) fun w=>Pn u v w fun v=>K (σ.put dst v):=cf
@[go_sem ↓] theorem jQ:opX P pos dst (.load t a) σ K=BK (σ.e a) fun u=>Mn P t u σ fun v=>K (σ.put dst v):=cg
@[go_sem ↓] theorem dE:opX P pos dst (.nilCheck x) σ K=BK (σ.e x) fun u=>Rv u fun v=>K (σ.put dst v):=Uo
@[go_sem ↓] theorem eE {y:Tmp}:opX P pos dst (.binOp op t x (.tmp y) t') σ K=BK (σ.e x) fun u=>BK (σ.g y) fun v=>FV P op t u v fun v=>K (σ.put dst v):=W3
@[go_sem ↓] theorem eF {k:IntKind} {n:Int}:opX P pos dst (.binOp op t x (.const (.int k n)) t') σ K=BK (σ.e x) fun u=>FV P op t u (.int k n) fun v=>K (σ.put dst v):=W4
@[go_sem ↓] theorem ft:opX P pos dst (.binOp .eql t x (.const (.slice none 0 0)) t') σ K=BK (σ.e x) fun u=>fj P t u σ (fun b=>K (σ.put dst (.bool b))) ⟨⟩:=Yc
@[go_sem ↓] theorem jR {op:UnOp}:opX P pos dst (.unOp op t x) σ K=BK (σ.e x) fun u=>aB op u fun v=>K (σ.put dst v):=cm
@[go_sem ↓] theorem eG:opX P pos dst (.convert s d x) σ K=BK (σ.e x) fun u=>TN P s d u σ fun v=>K (σ.put dst v):=W6
@[go_sem ↓] theorem bu:opX P pos dst (.fieldAddr s x f) σ K=BK (σ.e x) fun u=>faX P s u f fun v=>K (σ.put dst v):=TP
@[go_sem ↓] theorem bv:opX P pos dst (.indexAddr t x y) σ K=BK (σ.e x) fun u=>BK (σ.e y) fun v=>iaX P t u v σ fun v=>K (σ.put dst v):=TR
@[go_sem ↓] theorem iZ:opX P pos dst (.index t x y) σ K=BK (σ.e x) fun u=>BK (σ.e y) fun v=>elX P t u v fun v=>K (σ.put dst v):=aI
@[go_sem ↓] theorem eH:opX P pos dst (.extract x i) σ K=BK (σ.e x) fun u=>W9 u i fun v=>K (σ.put dst v):=XA
@[go_sem ↓] theorem jk:opX P pos dst (.call ⟨.builtin .len,List.toArray [x],List.toArray [t]⟩) σ K=BK (σ.e x) fun u=>QW P t u σ fun v=>K (σ.put dst v):=fG
@[go_sem ↓] theorem jl:opX P pos dst (.box t x) σ K=BK (cellsOf (σ.e x)) fun cs=>bxX pos cs dst (.box pos 0) σ K:=fK
@[go_sem ↓] theorem ia:opX P pos dst (.alloc t) σ K=Aa (0<(tz P t).length) (BK ((tz P t).map zAV) fun vs=>bxX pos (some vs) dst (.box pos 0) σ K):=aO
@[go_sem ↓] theorem ib {parts:List (Nat × Operand)}:opX P pos dst (.build t parts.toArray) σ K=TT P (ti P t) fun fs=>Aa ((fs.all fun q=>decide (0<tsz P q.2))=true∧0<(tz P t).length) (BK ((tz P t).map zAV) fun vs=>BK (pvs σ parts) fun ps=>bpX P fs vs ps fun v=>K (σ.put dst v)):=aS
@[go_sem ↓] theorem bw:opX P pos dst (.makeSlice t l c) σ K=slX (ti P t) fun e=>BK (σ.e l) fun u=>BK (σ.e c) fun v=>mkX P pos e u v dst σ K:=TU
@[go_sem ↓] theorem jS {L:Bool} {wL:Wrap L} {args:List Operand} {ts:Array TypeId}:opL P L pos dst (.call ⟨.value g,args.toArray,ts⟩) σ K wL=BK (σ.e g) fun u=>BK (evs σ args) fun vs=>clX P L pos u vs dst σ K wL:=cy
@[go_sem ↓] theorem ic:opX P pos dst (.store t a x) σ K=BK (σ.e a) fun u=>BK (cellsOf (σ.e x)) fun cs=>stX P t u cs σ fun σ'=>K (σ'.put dst .any):=aX
@[go_sem ↓] theorem fu:opX P pos dst (.call ⟨.builtin .append,List.toArray [x,y],List.toArray [t,t]⟩) σ K=slX (ti P t) fun e=>BK (σ.e x) fun u=>BK (σ.e y) fun v=>apX P pos e u v dst σ K:=Yo
def apE (P:Program) (pos:Nat) (e:TypeId) (u v:AV) (dst:Option Tmp) (σ:St) (K:St→Prop):Prop:=VU u=true∧match v with
 | .ro rows=>(0<tsz P e∧(tz P e).length =tsz P e)∧∃z,roZ z (tsz P e) rows fun rows=>(rows.length*P.bytesOf e≤140737488355328∧rows.length≤maxLen)∧look σ.t (pos*16)=none∧K ((σ.setT (pos*16) ⟨rows,some (tsz P e),0,z⟩).put dst (.own (pos*16)))
 |_=>False
theorem Yx {z:Bool} {sz:Nat} {rows:List (List D)} {K K':List (List D)→Prop} (h:∀r,K r→K' r) (k:roZ z sz rows K):roZ z sz rows K':=by
 cases z
 ·exact⟨k.1,h _ k.2⟩
 ·exact⟨k.1,h _ k.2⟩
def roX (z:Bool) (sz:Nat) (rows:List (List D)) (K:List (List D)→Prop):Prop:=roZ z sz rows K
@[go_sem] theorem jm {sz:Nat} {rows:List (List D)} {K:List (List D)→Prop}:roX false sz rows K=Aa (∀row ∈ rows,row.length=sz∧∀d ∈ row,d.flat=true) (K rows):=rfl
@[go_sem] theorem jT {e:TypeId} {u:AV} {rows:List (List D)}:apE P pos e u (.ro rows) dst σ K=Aa (VU u=true) (Aa (0<tsz P e∧(tz P e).length =tsz P e) (zX fun z=>roX z (tsz P e) rows fun rows=>Aa (rows.length*P.bytesOf e≤140737488355328∧rows.length≤maxLen) (Aa (look σ.t (pos*16)=none) (Mo rows fun rows=>K ((σ.setT (pos*16) ⟨rows,some (tsz P e),0,z⟩).put dst (.own (pos*16))))))):=by simp only [Ia]; rfl
@[go_sem ↓] theorem jU:opE P pos dst (.call ⟨.builtin .append,List.toArray [x,y],List.toArray [t,t]⟩) σ K=slX (ti P t) fun e=>BK (σ.e x) fun u=>BK (σ.e y) fun v=>apE P pos e u v dst σ K:=by
 unfold opE
 simp only [Ev,eP,slX,true_and,BK]
 generalize σ.e x=u
 generalize σ.e y=v
 refine propext ⟨?_,?_⟩
 ·rintro ⟨r,⟨h1,h2⟩,h3,h4,h5⟩
  split at h2
  ·rename_i el rows hel
   obtain⟨h6,z,h7⟩:=h2
   rw [hel]
   refine⟨h1,h6,z,Yx (fun rows h8=>?_) h7⟩
   obtain⟨h9,rfl⟩:=h8
   refine⟨h9,h3.1,?_⟩
   cases dst <;> exact h5
  ·exact h2.elim
 ·intro h
  generalize hti:ti P t=q at h ⊢
  cases q with
  | sl el=>
   cases v with
   | ro rows=>
    obtain⟨h1,h6,z,h7⟩:=h
    cases z with
    |false=>
     obtain⟨h8,h9,h10,h5⟩:=h7
     exact⟨_,⟨h1,h6,false,h8,h9,rfl⟩,⟨h10,trivial⟩,trivial,by cases dst <;> exact h5⟩
    |true=>
     obtain⟨h8,h9,h10,h5⟩:=h7
     exact⟨_,⟨h1,h6,true,h8,h9,rfl⟩,⟨h10,trivial⟩,trivial,by cases dst <;> exact h5⟩
   |_=>exact h.2.elim
  |_=>exact h.elim
@[go_sem ↓] theorem jV {e:TypeId} {u v:AV}:apX P pos e u v dst σ K=Aa (0<tsz P e∧(tz P e).length =tsz P e) (zX fun z=>O0 z e (tsz P e) u σ fun rows σ1=>OO z (tsz P e) v σ1 fun rows2 σ2=>
   Aa ((rows.length+rows2.length)*P.bytesOf e≤140737488355328∧rows.length+rows2.length≤maxLen) (Aa (look σ2.t (pos*16)=none) (Mo (rows++rows2) fun rows=>K ((σ2.setT (pos*16) ⟨rows,some (tsz P e),0,z⟩).put dst (.own (pos*16)))))):=by simp only [Ia]; rfl
end
attribute [go_sem] zAV
section
variable {P:Program} {σ:St} {K:St→Prop} {ops:Array Oper} {base cut i:Nat}
@[go_sem] theorem dF {x:Oper} {xs b:List Oper} {w1:Wrap ops} {w2} {w3:Wrap K} {w4:Wrap cut}:Kc P ops base cut i (List.append (x::xs) b) σ K w1 w2 w3 w4=Kc P ops base cut i (x::List.append xs b) σ K w1 ⟨⟩ w3 w4:=rfl
@[go_sem] theorem eI {b:List Oper} {w1:Wrap ops} {w2} {w3:Wrap K} {w4:Wrap cut}:Kc P ops base cut i (List.append [] b) σ K w1 w2 w3 w4=Kc P ops base cut i b σ K w1 ⟨⟩ w3 w4:=rfl
@[go_sem ↓] theorem Ze {b:List Oper} {j:Nat} {K:Tmp→Prop}:Mm (List.toArray (List.append [] b)) j K=Mm b.toArray j K:=rfl
end
end Go.Proofs.YtckcfdggbbabfaaGreat.Ab
