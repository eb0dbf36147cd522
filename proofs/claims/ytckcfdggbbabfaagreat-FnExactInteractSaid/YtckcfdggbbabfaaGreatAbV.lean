/-
  The abstract walk as rules, third part: memory, calls, results, loops.
-/
import Derived.Test.YtckcfdggbbabfaaGreatAbU
import Derived.IntWalk
namespace Go.Proofs.YtckcfdggbbabfaaGreat.Ab
set_option linter.unusedVariables false
open Go.RowKit
section
variable {P:Program} {σ:St} {K:St→Prop} {Q:AE→St→Prop}
def dx (t:TI):Prop:=match t with| .str =>True|_=>False
@[go_sem] theorem gv:dx .str =True:=rfl
@[go_sem] theorem bF {t:TypeId} {s:ByteArray} {K:AV→Prop}:LW P t (.str s) σ K=AS (dx (ti P t)) (K (.int .i64 s.size)):=by
 simp only [LW,Lr,AS,dx]
 generalize ti P t=q
 cases q <;> simp
@[go_sem] theorem dy {t:TypeId} {rows:List (List D)} {K:AV→Prop}:LW P t (.ro rows) σ K=slX (ti P t) fun _=>K (.int .i64 rows.length):=by
 simp only [LW,Lr,slX]
 generalize ti P t=q
 cases q <;> simp
@[go_sem] theorem Y3 {t:TypeId} {K:AV→Prop}:LW P t .nils σ K=slX (ti P t) fun _=>K (.int .i64 0):=by
 simp only [LW,Lr,slX]
 generalize ti P t=q
 cases q <;> simp
@[go_sem] theorem bG {t:TypeId} {b n sz:Nat} {K:AV→Prop}:LW P t (.bsl b n sz) σ K=slX (ti P t) fun _=>K (.int .i64 n):=by
 simp only [LW,Lr,slX]
 generalize ti P t=q
 cases q <;> simp
@[go_sem] theorem bH {t:TypeId} {t':Nat} {K:AV→Prop}:LW P t (.own t') σ K=slX (ti P t) fun _=>optX (σ.T t') fun tk=>K (.int .i64 tk.rows.length):=by
 simp only [LW,Lr,slX,optX]
 generalize ti P t=q
 cases q with
 |sl e=>exact propext ⟨fun ⟨v,⟨tk,h1,h2⟩,h3⟩=>⟨tk,h1,h2 ▸ h3⟩,fun ⟨tk,h1,h3⟩=>⟨_,⟨tk,h1,rfl⟩,h3⟩⟩
 |_=>simp
@[go_sem] theorem bI {t:TypeId} {t' g:Nat} {p:Pth} {K:AV→Prop}:LW P t (.sub t' g p) σ K=slX (ti P t) fun _=>optX (subR σ.T t' g p) fun rows=>K (.int .i64 rows.length):=by
 simp only [LW,Lr,slX,optX]
 generalize ti P t=q
 cases q with
 |sl e=>exact propext ⟨fun ⟨v,⟨tk,h1,h2⟩,h3⟩=>⟨tk,h1,h2 ▸ h3⟩,fun ⟨tk,h1,h3⟩=>⟨_,⟨tk,h1,rfl⟩,h3⟩⟩
 |_=>simp
def U3 (t:TI) (K:TypeId→TypeId→Prop):Prop:=match t with| .map k e=>K k e|_=>False
@[go_sem] theorem gw {k e:TypeId} {K:TypeId→TypeId→Prop}:U3 (.map k e) K=K k e:=rfl
def TZ (o:Option (List AV)) (K:KT→List (List D)→Prop):Prop:=∃q rows,o=some [.mpc q rows] ∧K q rows
@[go_sem] theorem fP {q:KT} {rows:List (List D)} {K:KT→List (List D)→Prop}:TZ (some [.mpc q rows]) K=K q rows:=by
 simp only [TZ,Option.some.injEq,List.cons.injEq,AV.mpc.injEq,and_true]
 exact propext ⟨fun ⟨q',r',⟨h1,h2⟩,h3⟩=>h1 ▸ h2 ▸ h3,fun h=>⟨q,rows,⟨rfl,rfl⟩,h⟩⟩
@[go_sem] theorem bJ {t:TypeId} {b:Nat} {K:AV→Prop}:LW P t (.mpr b) σ K=U3 (ti P t) fun _ _=>TZ (σ.B b) fun _ rows=>K (.int .i64 rows.length):=by
 simp only [LW,Lr,U3,TZ]
 generalize ti P t=q
 cases q with
 |map k e=>exact propext ⟨fun ⟨v,⟨q,rows,h1,h2⟩,h3⟩=>⟨q,rows,h1,h2 ▸ h3⟩,fun ⟨q,rows,h1,h3⟩=>⟨_,⟨q,rows,h1,rfl⟩,h3⟩⟩
 |_=>simp
def LX {α:Type} (v:α) (K:α→Prop):Prop:=∃y,v=y∧K y
theorem Gk {α:Type} {v:α} {K:α→Prop}:LX v K=K v:=by simp [LX]
def bxX (pos:Nat) (cs:Option (List AV)) (dst:Option Tmp) (v:AV) (σ:St) (K:St→Prop):Prop:=optX cs fun vs=>AS (look σ.b pos=none) (K ((σ.put dst v).setB pos vs))
def bxZ (pos:Nat) (cs:Option (List AV)) (dst:Option Tmp) (v:AV) (σ:St) (K:St→Prop):Prop:=bxX pos cs dst v σ K
theorem d6 {pos:Nat} {cs:Option (List AV)} {dst:Option Tmp} {v:AV}:bxX pos cs dst v σ K=Al cs fun o=>bxZ pos o dst v σ K:=rfl
@[go_sem ↓] theorem gy {pos:Nat} {vs:List AV} {dst:Option Tmp} {v:AV}:bxZ pos (some vs) dst v σ K=AS (look σ.b pos=none) (K ((σ.put dst v).setB pos vs)):=by simp [bxZ,bxX,optX]
theorem IX {dst:Option Tmp} {v:AV} {pos:Nat} {vs:List AV}:σ.add dst ⟨v,[],[(pos,vs)]⟩=(σ.put dst v).setB pos vs:=by cases dst <;> rfl
attribute [go_sem] cellsOf
theorem gz {pos:Nat} {dst:Option Tmp} {t:TypeId} {x:Operand}:opX P pos dst (.box t x) σ K=bxX pos (cellsOf (σ.e x)) dst (.box pos 0) σ K:=by
 rw [Nf (fun _=>by simp only [aop])]
 simp only [Ev,bxX]
 split
 ·rename_i vs h
  rw [h,GR]
  refine propext ⟨?_,?_⟩
  ·rintro ⟨r,rfl,-,h1,h2⟩
   exact⟨h1.1,by rw [← IX]; exact h2⟩
  ·rintro ⟨h1,h2⟩
   exact⟨_,rfl,trivial,⟨h1,trivial⟩,by rw [IX]; exact h2⟩
 ·rename_i h
  rw [h,RN]
  simp
theorem bK {pos:Nat} {dst:Option Tmp} {t:TypeId}:opX P pos dst (.alloc t) σ K=AS (0<(tz P t).length) (bxX pos (some ((tz P t).map zAV)) dst (.box pos 0) σ K):=by
 rw [Nf (fun _=>by simp only [aop])]
 simp only [Ev,bxX,GR,AS]
 refine propext ⟨?_,?_⟩
 ·rintro ⟨r,⟨vs,rfl,h0,rfl⟩,-,h1,h2⟩
  exact⟨h0,h1.1,by rw [← IX]; exact h2⟩
 ·rintro ⟨h0,h1,h2⟩
  exact⟨_,⟨_,rfl,h0,rfl⟩,trivial,⟨h1,trivial⟩,by rw [IX]; exact h2⟩
attribute [go_sem] zAV
def pvs (σ:St):List (Nat × Operand)→List (Nat × AV)
 | [] =>[]
 |x::xs=>(x.1,σ.e x.2)::pvs σ xs
theorem V2 {xs:List (Nat × Operand)}:pvs σ xs=xs.map fun x=>(x.1,σ.e x.2):=by induction xs with|nil=>rfl|cons x xs ih=>simp [pvs,ih]
attribute [go_sem] pvs DG
def bsX (P:Program) (pos:Nat) (e:TypeId) (n:Nat) (parts:List (Nat × AV)) (dst:Option Tmp) (σ:St) (K:St→Prop):Prop:=
 AS (parts.length=n∧n*tsz P e≤16777216∧0<tsz P e∧(tz P e).length =tsz P e) (bxX pos (DG (tsz P e) 0 parts) dst (.bsl pos n (tsz P e)) σ K)
@[go_sem ↓] theorem bL {pos:Nat} {dst:Option Tmp} {t:TypeId} {n:Nat} {parts:List (Nat × Operand)}:opX P pos dst (.buildSlice t n parts.toArray) σ K=slX (ti P t) fun e=>Al (pvs σ parts) fun ps=>bsX P pos e n ps dst σ K:=by
 rw [Nf (fun _=>by simp only [aop])]
 simp only [Ev,slX,Al,V2]
 generalize ti P t=q
 split
 ·simp only [X5,bsX,bxX,AS]
  refine propext ⟨?_,?_⟩
  ·rintro ⟨r,⟨h1,h2,h3,h4,h5⟩,-,h6,h7⟩
   split at h5
   ·rename_i vs h8
    subst h5
    rw [h8,GR]
    exact⟨⟨h1,h2,h3,h4⟩,h6.1,by rw [← IX]; exact h7⟩
   ·exact h5.elim
  ·rintro ⟨⟨h1,h2,h3,h4⟩,vs,h8,h6,h7⟩
   exact⟨⟨_,[],[(pos,vs)]⟩,⟨h1,h2,h3,h4,by rw [h8]⟩,trivial,⟨h6,trivial⟩,by rw [IX]; exact h7⟩
 ·simp
attribute [go_sem] bsX
attribute [go_sem] KA
def Ta (P:Program) (t:TI) (K:List (Nat × TypeId)→Prop):Prop:=match t with| .st fs=>K fs| .arr n el=>AS (0<tsz P el) (K (KA (tsz P el) el n 0))|_=>False
@[go_sem] theorem bM {fs:List (Nat × TypeId)} {K:List (Nat × TypeId)→Prop}:Ta P (.st fs) K=K fs:=rfl
def bpX (P:Program) (fs:List (Nat × TypeId)) (vs:List AV) (ps:List (Nat × AV)) (K:AV→Prop):Prop:=∃ws,JP P fs vs ps=some ws∧K (.agg ws)
@[go_sem] theorem bN {fs:List (Nat × TypeId)} {vs:List AV} {K:AV→Prop}:bpX P fs vs [] K=K (.agg vs):=by simp [bpX,JP]
@[go_sem] theorem Y4 {fs:List (Nat × TypeId)} {vs:List AV} {f:Nat} {v:AV} {ps:List (Nat × AV)} {K:AV→Prop}:bpX P fs vs ((f,v)::ps) K=optX fs[f]? fun q=>optX (cellsOf v) fun cs=>AS (cs.length=tsz P q.2 ∧q.1 +cs.length≤vs.length) (Al (splice vs q.1 cs) fun vs=>bpX P fs vs ps K):=by
 unfold bpX optX AS Al
 rw [JP]
 cases fs[f]? with
 |none=>simp
 | some q=>
  cases cellsOf v with
  |none=>simp
  | some cs=>
   by_cases hc:cs.length=tsz P q.2 ∧q.1 +cs.length≤vs.length
   ·simp only [if_pos hc,Option.some.injEq,exists_eq_left']
    exact propext ⟨fun h=>⟨hc,h⟩,fun h=>h.2⟩
   ·simp only [if_neg hc,Option.some.injEq,exists_eq_left']
    refine propext ⟨?_,?_⟩
    ·rintro ⟨_,h,_⟩; cases h
    ·intro h; exact absurd h.1 hc
theorem bO {pos:Nat} {dst:Option Tmp} {t:TypeId} {parts:List (Nat × Operand)}:opX P pos dst (.build t parts.toArray) σ K=Ta P (ti P t) fun fs=>AS ((fs.all fun q=>decide (0<tsz P q.2))=true∧0<(tz P t).length) (bpX P fs ((tz P t).map zAV) (pvs σ parts) fun v=>K (σ.put dst v)):=by
 rw [FY (p:=fun v=>Ta P (ti P t) fun fs=>AS ((fs.all fun q=>decide (0<tsz P q.2))=true∧0<(tz P t).length) (bpX P fs ((tz P t).map zAV) (pvs σ parts) fun u=>v=u)) (fun _=>by simp only [aop]) (fun r=>by
  simp only [Ev,Ta,AS,bpX,V2]
  generalize ti P t=q
  cases q with
  |st fs=>
   refine propext ⟨?_,?_⟩
   ·rintro ⟨h1,h2,vs,h3,rfl⟩; exact⟨_,⟨⟨h1,h2⟩,vs,h3,rfl⟩,rfl⟩
   ·rintro ⟨v,⟨⟨h1,h2⟩,vs,h3,rfl⟩,rfl⟩; exact⟨h1,h2,vs,h3,rfl⟩
  |arr n el=>
   refine propext ⟨?_,?_⟩
   ·rintro ⟨h0,h1,h2,vs,h3,rfl⟩; exact⟨_,⟨h0,⟨h1,h2⟩,vs,h3,rfl⟩,rfl⟩
   ·rintro ⟨v,⟨h0,⟨h1,h2⟩,vs,h3,rfl⟩,rfl⟩; exact⟨h0,h1,h2,vs,h3,rfl⟩
  |_=>simp)]
 unfold Ta AS bpX
 generalize ti P t=q
 cases q with
 |st fs=>
  refine propext ⟨?_,?_⟩
  ·rintro ⟨v,⟨h1,vs,h3,rfl⟩,hk⟩; exact⟨h1,vs,h3,hk⟩
  ·rintro ⟨h1,vs,h3,hk⟩; exact⟨_,⟨h1,vs,h3,rfl⟩,hk⟩
 |arr n el=>
  refine propext ⟨?_,?_⟩
  ·rintro ⟨v,⟨h0,h1,vs,h3,rfl⟩,hk⟩; exact⟨h0,h1,vs,h3,hk⟩
  ·rintro ⟨h0,h1,vs,h3,hk⟩; exact⟨_,⟨h0,h1,vs,h3,rfl⟩,hk⟩
 |_=>simp
attribute [go_sem] zD zDs
@[go_sem] theorem g7 {n:Int}:leX n n=True:=eq_true (Int.le_refl n)
def mkX (P:Program) (pos:Nat) (e:TypeId) (n m:AV) (dst:Option Tmp) (σ:St) (K:St→Prop):Prop:=match n,m with
 | .int .i64 n,.int .i64 m=>AS (leX n m) (AS (0≤n∧m.toNat*P.bytesOf e≤281474976710656∧m≤4611686018427387904) (AS (0<tsz P e∧(tz P e).length =tsz P e) (optX (zDs (tz P e)) fun z=>AS (look σ.t (pos*16)=none) (LX (List.replicate n.toNat z) fun rows=>K ((σ.put dst (.own (pos*16))).setT (pos*16) ⟨rows,some (tsz P e),0,false⟩)))))
 |_,_=>False
@[go_sem] theorem bP {pos:Nat} {e:TypeId} {n m:Int} {dst:Option Tmp}:mkX P pos e (.int .i64 n) (.int .i64 m) dst σ K=AS (leX n m) (AS (0≤n∧m.toNat*P.bytesOf e≤281474976710656∧m≤4611686018427387904) (AS (0<tsz P e∧(tz P e).length =tsz P e) (optX (zDs (tz P e)) fun z=>AS (look σ.t (pos*16)=none) (LX (List.replicate n.toNat z) fun rows=>K ((σ.put dst (.own (pos*16))).setT (pos*16) ⟨rows,some (tsz P e),0,false⟩))))):=rfl
theorem V3 {dst:Option Tmp} {v:AV} {n:Nat} {tk:Tok}:σ.add dst ⟨v,[(n,tk)],[]⟩=(σ.put dst v).setT n tk:=by cases dst <;> rfl
theorem Tb {pos:Nat} {dst:Option Tmp} {t:TypeId} {l c:Operand}:opX P pos dst (.makeSlice t l c) σ K=slX (ti P t) fun e=>mkX P pos e (σ.e l) (σ.e c) dst σ K:=by
 rw [Nf (fun _=>by simp only [aop])]
 simp only [Ev,slX,mkX]
 generalize ti P t=q
 cases q with
 | sl e=>
  generalize σ.e l=u
  generalize σ.e c=v
  split
  ·rename_i el n m h1
   cases h1
   simp only [cd,AS,optX,Gk]
   refine propext ⟨?_,?_⟩
   ·rintro ⟨r,⟨k1,k2,k3,k4,k5,k6,z,k7,rfl⟩,k8,-,k9⟩
    exact⟨k1,⟨k2,k3,k4⟩,⟨k5,k6⟩,z,k7,k8.1,by rw [← V3]; exact k9⟩
   ·rintro ⟨k1,⟨k2,k3,k4⟩,⟨k5,k6⟩,z,k7,k8,k9⟩
    exact⟨⟨_,[(pos*16,⟨_,some (tsz P e),0,false⟩)],[]⟩,⟨k1,k2,k3,k4,k5,k6,z,k7,rfl⟩,⟨k8,trivial⟩,trivial,by rw [V3]; exact k9⟩
  ·rename_i hno
   have:∀p:Prop,(∃r:Res,False∧p)=False:=fun p=>by simp
   simp only [false_and,exists_false]
   refine propext ⟨False.elim,fun h=>?_⟩
   split at h
   ·exact hno e _ _ rfl rfl rfl
   ·exact h
 |_=>simp
def RP (P:Program) (L:Bool) (pos:Nat) (f:FuncId) (args:List AV) (as:Option (List AV)) (dst:Option Tmp) (σ:St) (K:St→Prop) (_:Wrap L):Prop:=
 ((∃bs rv,as=some bs∧AC P f bs rv∧Ca σ (conv (pos*16) rv).2 ∧K (σ.add dst ⟨(conv (pos*16) rv).1,(conv (pos*16) rv).2,[]⟩))∨
  ∃bs rv qt,AG P f bs [] [] rv qt [] ∧cls (fun _=>none) (fun _=>none) args=some bs∧((qt=[] ∧Qt rv=true∧K (σ.add dst ⟨rv,[],[]⟩))∨∃q tk,qt=[(q,tk)] ∧rv= .own q∧tk.gen=0∧look σ.t (pos*16)=none∧K (σ.add dst ⟨.own (pos*16),[(pos*16,tk)],[]⟩)))∨
 (L=true∧Vg P f args σ fun v σ'=>K (σ'.put dst v))
def clX (P:Program) (L:Bool) (pos:Nat) (g:AV) (args:List AV) (dst:Option Tmp) (σ:St) (K:St→Prop) (w:Wrap L):Prop:=match g with
 | .fn f caps=>RP P L pos f (args++caps) (cls σ.T σ.B (args++caps)) dst σ K w
 |_=>False
@[go_sem] theorem d7 {L:Bool} {wL:Wrap L} {pos:Nat} {f:FuncId} {caps args:List AV} {dst:Option Tmp}:clX P L pos (.fn f caps) args dst σ K wL=Al (args++caps) fun vs=>Al (cls σ.T σ.B vs) fun r=>RP P L pos f vs r dst σ K wL:=rfl
theorem d8 {L:Bool} {wL:Wrap L} {pos:Nat} {dst:Option Tmp} {g:Operand} {args:List Operand} {ts:Array TypeId}:opL P L pos dst (.call ⟨.value g,args.toArray,ts⟩) σ K wL=clX P L pos (σ.e g) (evs σ args) dst σ K wL:=by
 have h1:opX P pos dst (.call ⟨.value g,args.toArray,ts⟩) σ K=match σ.e g with
   | .fn f caps=>(∃bs rv,cls σ.T σ.B (evs σ args++caps)=some bs∧AC P f bs rv∧Ca σ (conv (pos*16) rv).2 ∧K (σ.add dst ⟨(conv (pos*16) rv).1,(conv (pos*16) rv).2,[]⟩))∨
     ∃bs rv qt,AG P f bs [] [] rv qt [] ∧cls (fun _=>none) (fun _=>none) (evs σ args++caps)=some bs∧((qt=[] ∧Qt rv=true∧K (σ.add dst ⟨rv,[],[]⟩))∨∃q tk,qt=[(q,tk)] ∧rv= .own q∧tk.gen=0∧look σ.t (pos*16)=none∧K (σ.add dst ⟨.own (pos*16),[(pos*16,tk)],[]⟩))
   |_=>False:=by
  rw [Nf (fun _=>by simp only [aop])]
  simp only [Ev,Ox,Rx]
  generalize σ.e g=v
  split
  ·refine propext ⟨?_,?_⟩
   ·rintro ⟨r,h1,h2,-,h4⟩
    rcases h1 with h1|h1
    ·split at h1
     ·rename_i as has
      obtain⟨rv,h5,rfl⟩:=h1
      exact .inl ⟨as,rv,has,h5,h2,h4⟩
     ·exact h1.elim
    ·obtain⟨as,rv,qt,h5,h6,h7⟩:=h1
     rcases h7 with ⟨h7,h8,rfl⟩|⟨q,tk,h7,h8,h9,rfl⟩
     ·exact .inr ⟨as,rv,qt,h5,h6,.inl ⟨h7,h8,h4⟩⟩
     ·exact .inr ⟨as,rv,qt,h5,h6,.inr ⟨q,tk,h7,h8,h9,h2.1,h4⟩⟩
   ·rintro (⟨bs,rv,h1,h5,h2,h4⟩|⟨bs,rv,qt,h5,h6,⟨h7,h8,h4⟩|⟨q,tk,h7,h8,h9,h2,h4⟩⟩)
    ·exact⟨⟨(conv (pos*16) rv).1,(conv (pos*16) rv).2,[]⟩,.inl (by rw [h1]; exact⟨rv,h5,rfl⟩),h2,trivial,h4⟩
    ·exact⟨⟨rv,[],[]⟩,.inr ⟨bs,rv,qt,h5,h6,.inl ⟨h7,h8,rfl⟩⟩,trivial,trivial,h4⟩
    ·exact⟨⟨.own (pos*16),[(pos*16,tk)],[]⟩,.inr ⟨bs,rv,qt,h5,h6,.inr ⟨q,tk,h7,h8,h9,rfl⟩⟩,⟨h2,trivial⟩,trivial,h4⟩
  ·simp
 have h2:opL P L pos dst (.call ⟨.value g,args.toArray,ts⟩) σ K wL=(opX P pos dst (.call ⟨.value g,args.toArray,ts⟩) σ K∨(L=true∧KD P ⟨dst,.call ⟨.value g,args.toArray,ts⟩,0, "",#[],none⟩ σ K)):=by
  have hA:O2 ⟨dst,.call ⟨.value g,args.toArray,ts⟩,0, "",#[],none⟩=false:=rfl
  have hS:SliK P pos ⟨dst,.call ⟨.value g,args.toArray,ts⟩,0, "",#[],none⟩ σ K=False:=rfl
  unfold opL OL opX
  rw [hA,hS]; simp
 rw [h2,h1]
 unfold clX RP KD
 simp only [Rx]
 generalize σ.e g=v
 cases v <;> simp
attribute [go_sem] cl cls toD toDs toA toAs GL FM Option.map_some Option.map_none
theorem V4 {pos:Nat} {f:FuncId} {args bs:List AV} {dst:Option Tmp} {rv:RV} (h:AC P f bs rv) (hf:Ca σ (conv (pos*16) rv).2) (hk:K (σ.add dst ⟨(conv (pos*16) rv).1,(conv (pos*16) rv).2,[]⟩)) {L:Bool} {wL:Wrap L}:RP P L pos f args (some bs) dst σ K wL:=
 .inl (.inl ⟨bs,rv,rfl,h,hf,hk⟩)
@[go_sem] theorem d9:Ca σ [] =True:=rfl
@[go_sem] theorem cq {n:Nat} {tk:Tok} {l:List (Nat × Tok)}:Ca σ ((n,tk)::l)=(look σ.t n=none∧Ca σ l):=rfl
attribute [go_sem] conv Dr addT addB
@[go_sem] theorem g8 {s t b} {d:Tmp} {r:Res}:St.add ⟨s,t,b⟩ (some d) r=⟨(d,r.v)::s,addT t r.t,addB b r.b⟩:=rfl
@[go_sem] theorem g9 {s t b} {r:Res}:St.add ⟨s,t,b⟩ none r=⟨s,addT t r.t,addB b r.b⟩:=rfl
section
variable {z:Bool}
@[go_sem] theorem bQ {K:List D→St→Prop}:BL z [] σ K=K [] σ:=by rw [BL]
@[go_sem] theorem bR {k:IntKind} {n:Int} {vs:List AV} {K:List D→St→Prop}:BL z (.int k n::vs) σ K=BL z vs σ fun ds σ'=>K (.int k n::ds) σ':=by rw [BL]
@[go_sem] theorem Y5 {b:Bool} {vs:List AV} {K:List D→St→Prop}:BL z (.bool b::vs) σ K=BL z vs σ fun ds σ'=>K (.bool b::ds) σ':=by rw [BL]
@[go_sem] theorem bS {s:ByteArray} {vs:List AV} {K:List D→St→Prop}:BL z (.str s::vs) σ K=BL z vs σ fun ds σ'=>K (.str s::ds) σ':=by rw [BL]
@[go_sem] theorem Y6 {vs:List AV} {K:List D→St→Prop}:BL z (.nils ::vs) σ K=BL z vs σ fun ds σ'=>K (Rh z::ds) σ':=by rw [BL]
@[go_sem] theorem ky:Rh false= .sl [] :=rfl
@[go_sem] theorem kz:Rh true= .fz [] :=rfl
@[go_sem] theorem Y7 {vs:List AV} {K:List D→St→Prop}:BL z (.nilp ::vs) σ K=BL z vs σ fun ds σ'=>K (.nilp ::ds) σ':=by rw [BL]
@[go_sem] theorem eA {rows:List (List D)} {vs:List AV} {K:List D→St→Prop}:BL z (.ro rows::vs) σ K=AS (z=true) (BL z vs σ fun ds σ'=>K (.fz rows::ds) σ'):=by rw [BL]; rfl
@[go_sem] theorem bT {ws:List AV} {off:Nat} {vs:List AV} {K:List D→St→Prop}:BL z (.rop ws off::vs) σ K=AS (z=true) (optX (unD (.rop ws off)) fun d=>BL z vs σ fun ds σ'=>K (d::ds) σ'):=by rw [BL]; rfl
@[go_sem] theorem bU {b n sz:Nat} {vs:List AV} {K:List D→St→Prop}:BL z (.bsl b n sz::vs) σ K=if n=0 then BL z vs σ fun ds σ'=>K (Rh z::ds) σ' else WV z b n sz σ fun rows σ1=>BL z vs σ1 fun ds σ'=>K (.sl rows::ds) σ':=by rw [BL]
@[go_sem ↓] theorem ja {b n sz:Nat} {K:List (List D)→St→Prop}:WV z b n sz σ K=AS (1000≤b) (AS (0<sz) (optX (σ.B b) fun vs=>optX (Ju z vs) fun ds=>AS (ds.length=n*sz) (Al (CA sz n ds) fun rows=>K rows (σ.killB b)))):=rfl
@[go_sem] theorem hD {s t b} {x:Nat}:St.killB ⟨s,t,b⟩ x=⟨s,t,(x,none)::b⟩:=rfl
attribute [go_sem] JQ litD Ju unD unDs
@[go_sem] theorem bV {t:Nat} {vs:List AV} {K:List D→St→Prop}:BL z (.own t::vs) σ K=optX (σ.T t) fun tk=>AS (okZ z tk=true) (BL z vs (σ.killT t) fun ds σ'=>K (.sl tk.rows::ds) σ'):=by rw [BL]; rfl
end
def stX (P:Program) (t:TypeId) (a:AV) (cs:Option (List AV)) (σ:St) (K:St→Prop):Prop:=
 optX cs fun cs=>AS (cs.length=tsz P t∧0<tsz P t∧cs.all AV.one=true) (match a with
  | .box b off=>∃vs,σ.B b=some vs∧isMp vs=false∧off+cs.length≤vs.length∧K (σ.setB b (splice vs off cs))
  | .elt t' sz i off=>∃tk0,σ.T t'=some tk0∧BL tk0.z cs σ fun ds σ'=>∃tk row,(σ'.T t'=some tk∧tk.z=tk0.z)∧tk.rows[i]? =some row∧row.length=sz∧off+ds.length≤sz∧K (σ'.setT t' ⟨tk.rows.set i (splice row off ds),tk.sz,if DQ row off ds=true then tk.gen else tk.gen+1,tk.z⟩)
  | .els t' g p sz i off=>BL false cs σ fun ds σ'=>∃rows,subR σ'.T t' g p=some rows∧∃row,rows[i]? =some row∧(p≠ [] ∧row.length=sz∧off+ds.length≤sz∧DQ row off ds=true)∧∃tk,σ'.T t'=some tk∧K (σ'.setT t' ⟨putR p tk.rows (.sl (rows.set i (splice row off ds))),tk.sz,tk.gen,tk.z⟩)
  |_=>False)
theorem bW {pos:Nat} {dst:Option Tmp} {t:TypeId} {a x:Operand}:opX P pos dst (.store t a x) σ K=stX P t (σ.e a) (cellsOf (σ.e x)) σ fun σ'=>K (σ'.put dst .any):=by
 unfold opX
 simp only [aop,Lt,stX]
 split
 ·rename_i cs h
  rw [h,GR]
  unfold AS
  refine propext ⟨?_,?_⟩
  ·rintro ⟨h1,h2,h3,h4⟩; exact⟨⟨h1,h2,h3⟩,h4⟩
  ·rintro ⟨⟨h1,h2,h3⟩,h4⟩; exact⟨h1,h2,h3,h4⟩
 ·rename_i h
  rw [h,RN]
@[go_sem] theorem bX {t:TypeId} {b off:Nat} {cs:List AV}:stX P t (.box b off) (some cs) σ K=AS (cs.length=tsz P t∧0<tsz P t∧cs.all AV.one=true) (optX (σ.B b) fun vs=>AS (isMp vs=false) (AS (off+cs.length≤vs.length) (Al (splice vs off cs) fun vs'=>K (σ.setB b vs')))):=by
 rw [stX,GR]; rfl
@[go_sem] theorem bZ {t:TypeId} {t' g sz i off:Nat} {p:Pth} {cs:List AV}:stX P t (.els t' g p sz i off) (some cs) σ K=AS (cs.length=tsz P t∧0<tsz P t∧cs.all AV.one=true) (BL false cs σ fun ds σ'=>optX (subR σ'.T t' g p) fun rows=>optX rows[i]? fun row=>AS (p≠ [] ∧row.length=sz∧off+ds.length≤sz∧DQ row off ds=true) (optX (σ'.T t') fun tk=>LX (putR p tk.rows (.sl (rows.set i (splice row off ds)))) fun rows'=>K (σ'.setT t' ⟨rows',tk.sz,tk.gen,tk.z⟩))):=by
 rw [stX,GR]
 simp only [AS,optX,Gk]
@[go_sem] theorem ba {t:TypeId} {t' sz i off:Nat} {cs:List AV}:stX P t (.elt t' sz i off) (some cs) σ K=AS (cs.length=tsz P t∧0<tsz P t∧cs.all AV.one=true) (optX (σ.T t') fun tk0=>BL tk0.z cs σ fun ds σ'=>optX (σ'.T t') fun tk=>AS (tk.z=tk0.z) (optX tk.rows[i]? fun row=>AS (row.length=sz∧off+ds.length≤sz) (LX (tk.rows.set i (splice row off ds)) fun rows=>K (σ'.setT t' ⟨rows,tk.sz,if DQ row off ds=true then tk.gen else tk.gen+1,tk.z⟩)))):=by
 rw [stX,GR]
 simp only [AS,optX,Gk]
 congr 1
 congr 1
 funext tk0
 congr 1
 congr 1
 funext ds σ'
 refine propext ⟨?_,?_⟩
 ·rintro ⟨tk,row,⟨h1,h0⟩,h2,h3,h4,h5⟩; exact⟨tk,h1,h0,row,h2,⟨h3,h4⟩,h5⟩
 ·rintro ⟨tk,h1,h0,row,h2,⟨h3,h4⟩,h5⟩; exact⟨tk,row,⟨h1,h0⟩,h2,h3,h4,h5⟩
section
variable {z:Bool}
@[go_sem] theorem XQ {e:TypeId} {sz:Nat} {K:List (List D)→St→Prop}:Oy z e sz .nils σ K=K [] σ:=rfl
@[go_sem] theorem Y8 {e:TypeId} {sz b n sz':Nat} {K:List (List D)→St→Prop}:Oy z e sz (.bsl b n sz') σ K=if n=0 then K [] σ else AS (sz'=sz) (WV z b n sz σ K):=rfl
@[go_sem] theorem Y9 {e:TypeId} {sz t:Nat} {K:List (List D)→St→Prop}:Oy z e sz (.own t) σ K=optX (σ.T t) fun tk=>AS (tk.sz=some sz∧okZ z tk=true) (K tk.rows (σ.killT t)):=rfl
@[go_sem] theorem XR {sz:Nat} {K:List (List D)→St→Prop}:LU z sz .nils σ K=K [] σ:=rfl
@[go_sem] theorem ZA {sz b n sz':Nat} {K:List (List D)→St→Prop}:LU z sz (.bsl b n sz') σ K=optX (σ.B b) fun vs=>AS (sz'=sz∧vs.length=n*sz∧vs.all AV.one=true) (BL z vs σ fun ds σ'=>Al (CA sz n ds) fun rows=>K rows σ'):=by
 simp only [LU,optX,AS,Al]
 refine propext ⟨?_,?_⟩
 ·rintro ⟨vs,h1,h2,h3,h4,h5⟩; exact⟨vs,h1,⟨h2,h3,h4⟩,h5⟩
 ·rintro ⟨vs,h1,⟨h2,h3,h4⟩,h5⟩; exact⟨vs,h1,h2,h3,h4,h5⟩
@[go_sem] theorem be {sz:Nat} {rows:List (List D)} {K:List (List D)→St→Prop}:LU false sz (.ro rows) σ K=AS (∀row ∈ rows,row.length=sz∧∀d ∈ row,d.flat=true) (K rows σ):=rfl
@[go_sem] theorem ZB {sz:Nat} {rows:List (List D)} {K:List (List D)→St→Prop}:LU true sz (.ro rows) σ K=AS (∀row ∈ rows,row.length=sz∧∀d ∈ row,d≠ .gone) (LX (fzR rows) fun r=>K r σ):=by
 simp only [LU,AS,Gk]
@[go_sem] theorem ZC {sz t:Nat} {K:List (List D)→St→Prop}:LU z sz (.own t) σ K=optX (σ.T t) fun tk=>AS (okZ z tk=true) (AS (∀row ∈ tk.rows,row.length=sz) (K tk.rows (σ.killT t))):=by
 simp only [LU,optX,AS]
 refine propext ⟨?_,?_⟩
 ·rintro ⟨tk,h1,⟨h2,h3⟩,h4⟩; exact⟨tk,h1,h3,h2,h4⟩
 ·rintro ⟨tk,h1,h3,h2,h4⟩; exact⟨tk,h1,⟨h2,h3⟩,h4⟩
end
attribute [go_sem] CA
def zX (K:Bool→Prop):Prop:=∃z,K z
def zY (K:Bool→Prop) (_:Wrap K):Prop:=∃z,K z
@[go_sem ↓] theorem lr {K:Bool→Prop}:zX K=zY K ⟨⟩:=rfl
theorem EJ {K:Bool→Prop} {w:Wrap K} (z:Bool) (h:K z):zY K w:=⟨z,h⟩
def apX (P:Program) (pos:Nat) (e:TypeId) (x y:AV) (dst:Option Tmp) (σ:St) (K:St→Prop):Prop:=
 AS (0<tsz P e∧(tz P e).length =tsz P e) (zX fun z=>Oy z e (tsz P e) x σ fun rows σ1=>LU z (tsz P e) y σ1 fun rows2 σ2=>
   AS ((rows.length+rows2.length)*P.bytesOf e≤140737488355328∧rows.length+rows2.length≤maxLen) (AS (look σ2.t (pos*16)=none) (K ((σ2.setT (pos*16) ⟨rows++rows2,some (tsz P e),0,z⟩).put dst (.own (pos*16))))))
theorem ZD {pos:Nat} {dst:Option Tmp} {x y:Operand} {t:TypeId}:opX P pos dst (.call ⟨.builtin .append,List.toArray [x,y],List.toArray [t,t]⟩) σ K=slX (ti P t) fun e=>apX P pos e (σ.e x) (σ.e y) dst σ K:=by
 unfold opX
 simp only [aop,UN,slX,true_and]
 generalize ti P t=q
 split
 ·rename_i e
  show (0<tsz P e∧(tz P e).length =tsz P e∧_)=((0<tsz P e∧(tz P e).length =tsz P e)∧_)
  rw [and_assoc]
  congr 1
  congr 1
  show (∃z,_)=(∃z,_)
  congr 1
  funext z
  congr 1
  funext rows σ1
  congr 1
  funext rows2 σ2
  show (_∧_∧_∧_)=((_∧_)∧_∧_)
  rw [and_assoc]
 ·rename_i h
  cases q with
  |sl e=>exact(h e rfl).elim
  |_=>rfl
end
@[go_sem] theorem fQ {v x:AV}:E5 v [] x=x:=by cases v <;> rfl
attribute [go_sem ↓] d6
attribute [go_sem ↓] bF dy Y3 bG bH bI bJ bM bN Y4 bP d7 bQ bR Y5 bS Y6 Y7 eA bT bU bV bX ba bZ XQ Y8 Y9 XR ZA be ZB ZC
end Go.Proofs.YtckcfdggbbabfaaGreat.Ab
namespace Go.Proofs.YtckcfdggbbabfaaGreat.Ab
set_option linter.unusedVariables false
open Go.RowKit
section
variable {P:Program} {σ:St} {K:St→Prop} {Q:AE→St→Prop}
@[go_sem] theorem eC {n:Int} (h1: -9223372036854775808≤n) (h2:n≤9223372036854775807):IntKind.i64.wrap n=n:=Go.IntWalk.i64_in n ⟨h1,h2⟩
@[go_sem ↓] theorem hH {K:List AV→Prop}:LV P σ [] K=K [] :=rfl
@[go_sem ↓] theorem hI {t:Tmp} {l:List ResultVar} {K:List AV→Prop}:LV P σ (.tmp t::l) K=Al (σ.g t) fun v=>LV P σ l fun vs=>K (v::vs):=rfl
@[go_sem ↓] theorem fR {a:Tmp} {t:TypeId} {l:List ResultVar} {K:List AV→Prop}:LV P σ (.cell a t::l) K=KZ P t (σ.g a) σ fun v=>LV P σ l fun vs=>K (v::vs):=rfl
@[go_sem] theorem bf {k:IntKind} {n m:Int}:CC (.int k n) (.int k m) σ K=AS (n=m) (K σ):=by simp [CC,AS]
@[go_sem] theorem ZE {b c:Bool}:CC (.bool b) (.bool c) σ K=AS (b=c) (K σ):=by simp [CC,AS]
@[go_sem] theorem bg {s s':ByteArray}:CC (.str s) (.str s') σ K=AS (s=s') (K σ):=by simp [CC,AS]
@[go_sem] theorem ZF:CC .nilp .nilp σ K=K σ:=by simp [CC]
@[go_sem] theorem ZG {ap:Option Nat} {rows:List (List D)}:CC .nils (.ow ap rows) σ K=AS (rows=[]) (K σ):=by simp [CC,AS]
@[go_sem] theorem bh {b n sz:Nat} {ap:Option Nat} {rows:List (List D)}:CC (.bsl b n sz) (.ow ap rows) σ K=AS (n=0) (AS (rows=[]) (K σ)):=by simp only [CC,AS]
@[go_sem] theorem bi {t:Nat} {ap:Option Nat} {rows:List (List D)}:CC (.own t) (.ow ap rows) σ K=optX (σ.T t) fun tk=>AS (tk.rows=rows) (AS (ap=none∨tk.sz=ap) (AS (tk.z=false) (K (σ.killT t)))):=by simp only [CC,AS,optX]
@[go_sem] theorem bj {rows rows':List (List D)}:CC (.ro rows) (.ro rows') σ K=AS (rows=rows') (K σ):=by simp only [CC,AS]
@[go_sem] theorem jb {rows rows':List (List D)}:CC (.ro rows) (.ow none rows') σ K=AS (rows=[]) (AS (rows'=[]) (K σ)):=by simp [CC,AS]
@[go_sem] theorem bn {vs:List AV} {rs:List RV}:CC (.agg vs) (.agg rs) σ K=Hm vs rs σ K:=by simp only [CC]
@[go_sem] theorem bp {vs:List AV} {rs:List RV}:CC (.tup vs) (.tup rs) σ K=Hm vs rs σ K:=by simp only [CC]
@[go_sem] theorem ZH:Hm [] [] σ K=K σ:=by simp only [Hm]
@[go_sem] theorem XS {v:AV} {vs:List AV} {r:RV} {rs:List RV}:Hm (v::vs) (r::rs) σ K=CC v r σ fun σ'=>Hm vs rs σ' K:=by simp only [Hm]
def XT (r:RV) (σ:St) (vs:List AV):Prop:=match vs with
 | [v] =>CC v r σ fun _=>True
 |vs=>CC (.tup vs) r σ fun _=>True
@[go_sem ↓] theorem jc {r:RV}:XT r σ [] =CC (.tup []) r σ fun _=>True:=rfl
@[go_sem ↓] theorem jd {r:RV} {v:AV}:XT r σ [v] =CC v r σ fun _=>True:=rfl
@[go_sem ↓] theorem je {r:RV} {v u:AV} {vs:List AV}:XT r σ (v::u::vs)=CC (.tup (v::u::vs)) r σ fun _=>True:=rfl
def endX (P:Program) (l:List ResultVar) (r:RV) (q:AE) (σ:St):Prop:=match q with| .exit _=>False|_=>LV P σ l (XT r σ)
@[go_sem ↓] theorem eD {l:List ResultVar} {r:RV}:endX P l r .normal σ=LV P σ l (XT r σ):=rfl
@[go_sem ↓] theorem jf {l:List ResultVar} {r:RV}:endX P l r .ret σ=LV P σ l (XT r σ):=rfl
theorem AZ (hm:P.follows .mixedOrders =true) {f:FuncId} {fn:Func} {c:Code} {l:List ResultVar} {args:List AV} {r:RV} (hf:P.funcs[f]? =some fn) (hb:fn.body=some c) (hr:fn.results=l.toArray) (hnm:(fn.name == "runtime.NumGoroutine")=false)
  (hn:decide (args.length≤fn.ntmps)=true) (hok:Ft fn.ntmps c=true) (h:awp P c (endX P l r) (st0 args)):AC P f args r:=by
 refine Um hm hf hb hnm (of_decide_eq_true hn) hok ?_
 have e:endQ P fn.results.toList r=endX P l r:=by
  rw [hr]
  funext q σ
  cases q <;> rfl
 rw [e]
 exact h
attribute [go_sem] st0 Pf
def ZI {X:Type} (R:X→Prop) (inv:X→St) (μ:X→Nat) (x:X) (σ:St):Prop:=∃x',Z8 σ (inv x')∧R x'∧μ x'<μ x
def eE {X:Type} (R:X→Prop) (inv:X→St) (μ:X→Nat) (x:X) (σ:St) (_:Wrap R) (_:Wrap inv) (_:Wrap μ) (_:Wrap x):Prop:=ZI R inv μ x σ
@[go_sem ↓] theorem fS {X:Type} {R:X→Prop} {inv:X→St} {μ:X→Nat} {x:X} {σ:St}:ZI R inv μ x σ=eE R inv μ x σ ⟨⟩ ⟨⟩ ⟨⟩ ⟨⟩:=rfl
attribute [go_sem] UR Sj O3 O4 ren rens FC Fp List.nodup_nil List.all_nil List.all_cons AV.int.injEq AV.bool.injEq AV.str.injEq AV.ro.injEq AV.rop.injEq AV.agg.injEq AV.fn.injEq AV.own.injEq AV.box.injEq AV.bsl.injEq AV.elt.injEq List.cons.injEq Tok.mk.injEq Option.isSome_some exists_eq_left' exists_eq_left
end
attribute [go_sem ↓] bf ZE bg ZF ZG bh bi bj bn bp ZH XS
end Go.Proofs.YtckcfdggbbabfaaGreat.Ab
namespace Go.Proofs.YtckcfdggbbabfaaGreat.Ab
set_option linter.unusedVariables false
open Go.RowKit
section
variable {P:Program} {σ:St} {K:St→Prop} {pos:Nat} {dst:Option Tmp} {t t' s d:TypeId} {x y a b c g l:Operand} {f i:Nat} {op:BinOp}
def slY (t:TI) (K:TypeId→Prop) (_:Wrap K):Prop:=slX t K
@[go_sem ↓] theorem lA {t:TI} {K:TypeId→Prop}:slX t K=slY t K ⟨⟩:=rfl
@[go_sem] theorem lC {e:TypeId} {K:TypeId→Prop} {w:Wrap K}:slY (.sl e) K w=K e:=rfl
def cr (t:TI) (K:IntKind→Prop) (_:Wrap K):Prop:=TU t K
@[go_sem ↓] theorem hJ {t:TI} {K:IntKind→Prop}:TU t K=cr t K ⟨⟩:=rfl
@[go_sem] theorem fT {k:IntKind} {K:IntKind→Prop} {w:Wrap K}:cr (.int k) K w=K k:=rfl
def stY (P:Program) (t:TI) (K:List (Nat × TypeId)→Prop) (_:Wrap K):Prop:=Ta P t K
@[go_sem ↓] theorem lD {t:TI} {K:List (Nat × TypeId)→Prop}:Ta P t K=stY P t K ⟨⟩:=rfl
@[go_sem] theorem lE {fs:List (Nat × TypeId)} {K:List (Nat × TypeId)→Prop} {w:Wrap K}:stY P (.st fs) K w=K fs:=rfl
@[go_sem] theorem jg {n:Nat} {el:TypeId} {K:List (Nat × TypeId)→Prop} {w:Wrap K}:stY P (.arr n el) K w=AS (0<tsz P el) (Al (KA (tsz P el) el n 0) K):=rfl
def hU (rows:List (List D)) (n:Int) (sz:Nat) (K:List D→Prop) (_:Wrap K):Prop:=TX rows n sz K
@[go_sem ↓] theorem jh {rows:List (List D)} {n:Int} {sz:Nat} {K:List D→Prop}:TX rows n sz K=hU rows n sz K ⟨⟩:=rfl
def hZ {α:Type} (v:α) (K:α→Prop) (_:Wrap K):Prop:=LX v K
@[go_sem ↓] theorem ji {α:Type} {v:α} {K:α→Prop}:LX v K=hZ v K ⟨⟩:=rfl
theorem A9 {α:Type} {v:α} {K:α→Prop} {w:Wrap K} (y:α) (h:v=y) (hk:K y):hZ v K w:=⟨y,h,hk⟩
def FO (n:Nat) (rs:List RV) (K:List AV→List (Nat × Tok)→Prop) (_:Wrap K):Prop:=K (Dr n rs).1 (Dr n rs).2
def cv1 (n:Nat) (r:RV) (K:AV→List (Nat × Tok)→Prop):Prop:=K (conv n r).1 (conv n r).2
section
variable {n:Nat} {rs us:List RV} {L:List AV→List (Nat × Tok)→Prop} {L1:AV→List (Nat × Tok)→Prop} {w:Wrap L}
@[go_sem] theorem bq:FO n [] L w=L [] [] :=rfl
@[go_sem] theorem bt {k:IntKind} {x:Int}:FO n (.int k x::rs) L w=FO n rs (fun vs ts=>L (.int k x::vs) ts) ⟨⟩:=by simp only [FO,Dr,conv,List.length_nil,Nat.add_zero,List.nil_append]
@[go_sem] theorem ZJ {b:Bool}:FO n (.bool b::rs) L w=FO n rs (fun vs ts=>L (.bool b::vs) ts) ⟨⟩:=by simp only [FO,Dr,conv,List.length_nil,Nat.add_zero,List.nil_append]
@[go_sem] theorem bu {x:ByteArray}:FO n (.str x::rs) L w=FO n rs (fun vs ts=>L (.str x::vs) ts) ⟨⟩:=by simp only [FO,Dr,conv,List.length_nil,Nat.add_zero,List.nil_append]
@[go_sem] theorem eF {x:List (List D)}:FO n (.ro x::rs) L w=FO n rs (fun vs ts=>L (.any ::vs) ts) ⟨⟩:=by simp only [FO,Dr,conv,List.length_nil,Nat.add_zero,List.nil_append]
@[go_sem] theorem ZK:FO n (.nilp ::rs) L w=FO n rs (fun vs ts=>L (.nilp ::vs) ts) ⟨⟩:=by simp only [FO,Dr,conv,List.length_nil,Nat.add_zero,List.nil_append]
@[go_sem] theorem eG {ap:Option Nat} {x:List (List D)}:FO n (.ow ap x::rs) L w=FO (n+1) rs (fun vs ts=>L (.own n::vs) ((n,⟨x,ap,0,false⟩)::ts)) ⟨⟩:=by simp only [FO,Dr,conv,List.length_nil,List.length_cons,Nat.zero_add,List.cons_append,List.nil_append]
@[go_sem] theorem bv:FO n (.agg us::rs) L w=FO n us (fun ws ts=>FO (n+ts.length) rs (fun vs ts'=>L (.agg ws::vs) (ts++ts')) ⟨⟩) ⟨⟩:=by simp only [FO,Dr,conv]
@[go_sem] theorem bw:FO n (.tup us::rs) L w=FO n us (fun ws ts=>FO (n+ts.length) rs (fun vs ts'=>L (.tup ws::vs) (ts++ts')) ⟨⟩) ⟨⟩:=by simp only [FO,Dr,conv]
@[go_sem ↓] theorem jj {k:IntKind} {x:Int}:cv1 n (.int k x) L1=L1 (.int k x) [] :=rfl
@[go_sem ↓] theorem iA {b:Bool}:cv1 n (.bool b) L1=L1 (.bool b) [] :=rfl
@[go_sem ↓] theorem jk {x:ByteArray}:cv1 n (.str x) L1=L1 (.str x) [] :=rfl
@[go_sem ↓] theorem lF {x:List (List D)}:cv1 n (.ro x) L1=L1 .any [] :=rfl
@[go_sem ↓] theorem iB:cv1 n .nilp L1=L1 .nilp [] :=rfl
@[go_sem ↓] theorem lG {ap:Option Nat} {x:List (List D)}:cv1 n (.ow ap x) L1=L1 (.own n) [(n,⟨x,ap,0,false⟩)] :=rfl
@[go_sem ↓] theorem jl:cv1 n (.agg us) L1=FO n us (fun ws ts=>L1 (.agg ws) ts) ⟨⟩:=by simp only [FO,cv1,conv]
@[go_sem ↓] theorem jm:cv1 n (.tup us) L1=FO n us (fun ws ts=>L1 (.tup ws) ts) ⟨⟩:=by simp only [FO,cv1,conv]
end
attribute [go_sem ↓] bq bt ZJ bu eF ZK eG bv bw
def RQ (P:Program) (L:Bool) (pos:Nat) (f:FuncId) (args:List AV) (as:Option (List AV)) (dst:Option Tmp) (σ:St) (K:St→Prop) (_:Wrap K) (w:Wrap L):Prop:=RP P L pos f args as dst σ K w
@[go_sem ↓] theorem iC {L:Bool} {wL:Wrap L} {f:FuncId} {args:List AV} {as:Option (List AV)}:RP P L pos f args as dst σ K wL=RQ P L pos f args as dst σ K ⟨⟩ wL:=rfl
theorem AJ {f:FuncId} {args bs:List AV} {w:Wrap K} {rv:RV} (h:AC P f bs rv) (hk:Al (pos*16) fun m=>cv1 m rv fun v ts=>AS (Ca σ ts) (K (σ.add dst ⟨v,ts,[]⟩))) {L:Bool} {wL:Wrap L}:RQ P L pos f args (some bs) dst σ K w wL:=V4 h hk.1 hk.2
theorem Nh {f:FuncId} {args bs:List AV} {w:Wrap K} {rv:RV} {o:Option (List AV)} (e:o=some bs) (h:AC P f bs rv) (hk:Al (pos*16) fun m=>cv1 m rv fun v ts=>AS (Ca σ ts) (K (σ.add dst ⟨v,ts,[]⟩))) {L:Bool} {wL:Wrap L}:RQ P L pos f args o dst σ K w wL:=by
 subst e; exact V4 h hk.1 hk.2
theorem ZL {f:FuncId} {args bs:List AV} {w:Wrap K} {rv:AV} {o:Option (List AV)} (h:AG P f bs [] [] rv [] []) (e:cls (fun _=>none) (fun _=>none) args=some bs) (hp:Qt rv=true) (hk:K (σ.add dst ⟨rv,[],[]⟩)) {L:Bool} {wL:Wrap L}:RQ P L pos f args o dst σ K w wL:=.inl (.inr ⟨bs,rv,[],h,e,.inl ⟨rfl,hp,hk⟩⟩)
attribute [go_sem] Qt
def V5 (y:Way) (as:List AV) (pt:List (Nat × Tok)) (pb:List (Nat × List AV)) (qt:List (Nat × Tok)) (qb:List (Nat × List AV)):Bool:=
 decide (((y.rt++y.nt).map (·.2)).Nodup)&&decide (((y.rt++y.nt).map (·.1)).Nodup)&&decide (((y.rb.map (·.2.1))++y.nb.map (·.2)).Nodup)&&decide (((y.rb.map (·.1))++y.nb.map (·.1)).Nodup)&&
 (y.rt.all fun p=>(look pt p.1).isSome)&&(y.rb.all fun p=>(look pb p.1).isSome)&&(y.nt.all fun p=>(look pt p.1).isNone)&&(y.nb.all fun p=>(look pb p.1).isNone)&&decide ((pt.map (·.1)).Nodup)&&decide ((pb.map (·.1)).Nodup)&&
 (pb.all fun p=>(look qb p.1).isSome)&&KC y.rt y.cv&&(y.md||noZ qt)&&X6 as pt pb&&(y.rt.all fun p=>decide (p.1 <1000)||(look qt p.1).isNone)
def Pm:List (Nat × Nat)→List (Nat × Option Tok)→Prop
 | [],_=>True
 |(_,n)::r,t=>look t n=none∧Pm r t
def Mn:List (Nat × Nat)→List (Nat × Option (List AV))→Prop
 | [],_=>True
 |(_,n)::r,t=>look t n=none∧Mn r t
def V6 (y:Way) (args as:List AV) (pt:List (Nat × Tok)) (pb:List (Nat × List AV)) (σ1:St):Prop:=
 Pm y.nt σ1.t∧Mn y.nb σ1.b∧N0 y.rt σ1 pt∧Fo y σ1 (σ1.less y) pb∧PasL y (σ1.less y) args as
theorem OA {t:List (Nat × Option Tok)}:∀ {l:List (Nat × Nat)},Pm l t→∀p ∈ l,(look t p.2).isNone =true
 | [],_,p,h=>by cases h
 |(c,n)::l,hf,p,h=>by
  simp only [Pm] at hf
  rcases List.mem_cons.1 h with rfl|h
  ·rw [hf.1]; rfl
  ·exact OA hf.2 p h
theorem Mo {t:List (Nat × Option (List AV))}:∀ {l:List (Nat × Nat)},Mn l t→∀p ∈ l,(look t p.2).isNone =true
 | [],_,p,h=>by cases h
 |(c,n)::l,hf,p,h=>by
  simp only [Mn] at hf
  rcases List.mem_cons.1 h with rfl|h
  ·rw [hf.1]; rfl
  ·exact Mo hf.2 p h
theorem Tc {f:FuncId} {args:List AV} {σ:St} {as:List AV} {pt:List (Nat × Tok)} {pb:List (Nat × List AV)} {r:AV} {qt:List (Nat × Tok)} {qb:List (Nat × List AV)} {K:AV→St→Prop} (y:Way) (h:AG P f as pt pb r qt qb) (hB:V5 y as pt pb qt qb=true)
  (hc:B6 y.cv σ fun σ1=>AS (V6 y args as pt pb σ1) (BN y.cv (σ1.after y qt qb) fun σ2=>K (bak y r) σ2)):Qu P f args σ K:=by
 refine⟨y,as,pt,pb,r,qt,qb,h,Hs (fun σ1 h=>?_) hc⟩
 unfold V5 at hB
 simp only [Bool.and_eq_true,decide_eq_true_eq,and_assoc] at hB
 obtain⟨b1,b2,b3,b4,b5,b6,b7,b8,b9,b10,b11,b12,bm,b13,b14⟩:=hB
 obtain⟨⟨h1,h2,h3,h4,h5⟩,h6⟩:=h
 refine⟨⟨b1,b2,b3,b4,b5,b6,?_,?_,b9,b10⟩,h3,h4,h5,b11,⟨b12,bm⟩,b13,b14,h6⟩
 ·rw [List.all_eq_true] at b7 ⊢
  intro p hp
  rw [b7 p hp,OA h1 p hp]; rfl
 ·rw [List.all_eq_true] at b8 ⊢
  intro p hp
  rw [b8 p hp,Mo h2 p hp]; rfl
theorem AP {L:Bool} {wL:Wrap L} {f:FuncId} {args:List AV} {o:Option (List AV)} {w:Wrap K} {as:List AV} {pt:List (Nat × Tok)} {pb:List (Nat × List AV)} {r:AV} {qt:List (Nat × Tok)} {qb:List (Nat × List AV)} (y:Way) (hL:L=true) (h:AG P f as pt pb r qt qb) (hB:V5 y as pt pb qt qb=true)
  (hc:B6 y.cv σ fun σ1=>AS (V6 y args as pt pb σ1) (BN y.cv (σ1.after y qt qb) fun σ2=>K (σ2.put dst (bak y r)))):RQ P L pos f args o dst σ K w wL:=.inr ⟨hL,[],Tc (K:=fun v σ'=>K (σ'.put dst v)) y h hB hc⟩
theorem U4 {L:Bool} {wL:Wrap L} {f:FuncId} {args:List AV} {o:Option (List AV)} {w:Wrap K} {as:List AV} {pt:List (Nat × Tok)} {pb:List (Nat × List AV)} {r:AV} {qt:List (Nat × Tok)} {qb:List (Nat × List AV)} (bs:List Nat) (y:Way) (hL:L=true) (h:AG P f as pt pb r qt qb) (hB:V5 y as pt pb qt qb=true)
  (hc:FzK bs args σ fun args σ=>B6 y.cv σ fun σ1=>AS (V6 y args as pt pb σ1) (BN y.cv (σ1.after y qt qb) fun σ2=>K (σ2.put dst (bak y r)))):RQ P L pos f args o dst σ K w wL:=.inr ⟨hL,bs,Ph (fun args σ hc=>Tc (K:=fun v σ'=>K (σ'.put dst v)) y h hB hc) hc⟩
@[go_sem ↓] theorem jo {args:List AV} {K:List AV→St→Prop}:FzK [] args σ K=K args σ:=rfl
@[go_sem ↓] theorem iD {b:Nat} {r:List Nat} {args:List AV} {s:List (Nat × AV)} {t:List (Nat × Option Tok)} {bb:List (Nat × Option (List AV))} {K:List AV→St→Prop}:FzK (b::r) args ⟨s,t,bb⟩ K=optX ((look bb b).join) fun vs=>AS (1000≤b∧isMp vs=false) (Al (args.map (fzA b vs)) fun args'=>FzK r args' ⟨s,t,(b,none)::bb⟩ K):=rfl
section
variable {b:Nat} {vs:List AV}
@[go_sem] theorem jp {x n sz:Nat}:fzA b vs (.bsl x n sz)=(cl (fun _=>none) (only b vs) (.bsl x n sz)).getD (.bsl x n sz):=rfl
@[go_sem] theorem jq {x off:Nat}:fzA b vs (.box x off)=(cl (fun _=>none) (only b vs) (.box x off)).getD (.box x off):=rfl
@[go_sem] theorem jr {us:List AV}:fzA b vs (.agg us)=(cl (fun _=>none) (only b vs) (.agg us)).getD (.agg us):=rfl
@[go_sem] theorem js {k:IntKind} {n:Int}:fzA b vs (.int k n)= .int k n:=rfl
@[go_sem] theorem iE {x:Bool}:fzA b vs (.bool x)= .bool x:=rfl
@[go_sem] theorem jt {x:ByteArray}:fzA b vs (.str x)= .str x:=rfl
@[go_sem] theorem lH {x:List (List D)}:fzA b vs (.ro x)= .ro x:=rfl
@[go_sem] theorem ju {x:Nat}:fzA b vs (.own x)= .own x:=rfl
@[go_sem] theorem jv {x:List AV} {off:Nat}:fzA b vs (.rop x off)= .rop x off:=rfl
@[go_sem] theorem jw {t sz i off:Nat}:fzA b vs (.elt t sz i off)= .elt t sz i off:=rfl
@[go_sem] theorem lI {f:FuncId} {x:List AV}:fzA b vs (.fn f x)= .fn f x:=rfl
@[go_sem] theorem iF:fzA b vs .nilp = .nilp :=rfl
@[go_sem] theorem iG:fzA b vs .nils = .nils :=rfl
@[go_sem] theorem jx {x:Nat}:fzA b vs (.mpr x)= .mpr x:=rfl
@[go_sem] theorem jy:fzA b vs .any = .any :=rfl
end
attribute [go_sem] Option.getD_some Option.getD_none Option.join_some Option.bind_some Option.bind_none only
attribute [go_sem] ne_eq true_imp_iff implies_true false_imp_iff DQ D.flat kept V6 Pm Mn N0 St.less N1 Oz O0 O1 UO UP St.after bak baks Fo
@[go_sem ↓] theorem fU:B6 [] σ K=K σ:=by rw [B6]
@[go_sem ↓] theorem eH {n:Nat} {z:Option Nat} {r:List (Nat × AV × Option Nat)} {s:List (Nat × AV)} {t:List (Nat × Option Tok)} {b:List (Nat × Option (List AV))}:B6 ((n,.nils,z)::r) ⟨s,t,b⟩ K=AS (look t n=none) (B6 r ⟨s,(n,some ⟨[],z,0,false⟩)::t,b⟩ K):=by rw [B6]; rfl
@[go_sem ↓] theorem fV {n x m sz:Nat} {z:Option Nat} {r:List (Nat × AV × Option Nat)} {s:List (Nat × AV)} {t:List (Nat × Option Tok)} {b:List (Nat × Option (List AV))}:B6 ((n,.bsl x m sz,z)::r) ⟨s,t,b⟩ K=AS (m=0) (AS (look t n=none) (B6 r ⟨s,(n,some ⟨[],z,0,false⟩)::t,b⟩ K)):=by rw [B6]; rfl
@[go_sem ↓] theorem fW {n t' g sz i j:Nat} {r:List (Nat × AV × Option Nat)} {s:List (Nat × AV)} {t:List (Nat × Option Tok)} {b:List (Nat × Option (List AV))}:B6 ((n,.sub t' g [(sz,i,j)],none)::r) ⟨s,t,b⟩ K=
  AS (look t n=none∧n≠t') (optX (look t t').join fun tk=>AS (tk.gen=g) (optX (getP [(sz,i,j)] tk.rows) fun rows=>LX (putR [(sz,i,j)] tk.rows .gone) fun rows'=>B6 r ⟨s,(n,some ⟨rows,none,0,tk.z⟩)::(t',some ⟨rows',tk.sz,g,tk.z⟩)::t,b⟩ K)):=by
 rw [B6]
 simp only [AS,optX,Gk,List.length_cons,List.length_nil,true_and,Nat.zero_add]
 refine propext ⟨?_,?_⟩
 ·rintro ⟨h2,tk,rows,h4,h5,h6,h7,h8⟩; exact⟨⟨h2,h7⟩,tk,h4,h5,rows,h6,h8⟩
 ·rintro ⟨⟨h2,h7⟩,tk,h4,h5,rows,h6,h8⟩; exact⟨h2,tk,rows,h4,h5,h6,h7,h8⟩
@[go_sem ↓] theorem jz:BN [] σ K=K σ:=by rw [BN]
def unX (n:Nat) (K:St→Prop) (σ:St):Prop:=K {σ with t:=(n,none)::σ.t}
@[go_sem ↓] theorem lJ {n:Nat} {s:List (Nat × AV)} {t:List (Nat × Option Tok)} {b:List (Nat × Option (List AV))}:unX n K ⟨s,t,b⟩=K ⟨s,(n,none)::t,b⟩:=rfl
@[go_sem ↓] theorem iH {n:Nat} {z:Option Nat} {r:List (Nat × AV × Option Nat)}:BN ((n,.nils,z)::r) σ K=BN r σ (unX n K):=by rw [BN]; rfl; all_goals (intros; simp_all)
@[go_sem ↓] theorem j0 {n x m sz:Nat} {z:Option Nat} {r:List (Nat × AV × Option Nat)}:BN ((n,.bsl x m sz,z)::r) σ K=BN r σ (unX n K):=by rw [BN]; rfl; all_goals (intros; simp_all)
def unS (n t' g:Nat) (p:Pth) (K:St→Prop) (σ:St):Prop:=match σ.T n with
 |some tn=>∃tk,σ.T t'=some tk∧OK p tk.rows=some .gone ∧(n≠t'∧okZ tk.z tn=true)∧K {σ with t:=(n,none)::(t',some ⟨putR p tk.rows (.sl tn.rows),tk.sz,if tn.gen=0∧tk.gen=g then g else tk.gen+tn.gen+1,tk.z⟩)::σ.t}
 |none=>K σ
@[go_sem ↓] theorem j5 {n t' g:Nat} {p:Pth} {z:Option Nat} {r:List (Nat × AV × Option Nat)}:BN ((n,.sub t' g p,z)::r) σ K=BN r σ (unS n t' g p K):=by rw [BN]; rfl
def unO (o:Option Tok) (n t' g:Nat) (p:Pth) (K:St→Prop) (σ:St):Prop:=match o with
 |some tn=>AS (n≠t') (optX (σ.T t') fun tk=>AS (okZ tk.z tn=true) (AS (OK p tk.rows=some .gone) (LX (putR p tk.rows (.sl tn.rows)) fun rows=>K ⟨σ.s,(n,none)::(t',some ⟨rows,tk.sz,if tn.gen=0∧tk.gen=g then g else tk.gen+tn.gen+1,tk.z⟩)::σ.t,σ.b⟩)))
 |none=>K σ
@[go_sem ↓] theorem lK {n t' g:Nat} {p:Pth} {s:List (Nat × AV)} {t:List (Nat × Option Tok)} {b:List (Nat × Option (List AV))}:unS n t' g p K ⟨s,t,b⟩=unO (look t n).join n t' g p K ⟨s,t,b⟩:=by
 unfold unS unO
 have e:St.T ⟨s,t,b⟩ n=(look t n).join :=rfl
 rw [e]
 cases (look t n).join with
 |none=>rfl
 |some tn=>
  simp only [AS,optX,Gk]
  refine propext ⟨?_,?_⟩
  ·rintro ⟨tk,h1,h2,⟨h3,h0⟩,h4⟩; exact⟨h3,tk,h1,h0,h2,h4⟩
  ·rintro ⟨h3,tk,h1,h0,h2,h4⟩; exact⟨tk,h1,h2,⟨h3,h0⟩,h4⟩
@[go_sem] theorem iI {n t' g:Nat} {p:Pth} {tn:Tok}:unO (some tn) n t' g p K σ=AS (n≠t') (optX (σ.T t') fun tk=>AS (okZ tk.z tn=true) (AS (OK p tk.rows=some .gone) (LX (putR p tk.rows (.sl tn.rows)) fun rows=>K ⟨σ.s,(n,none)::(t',some ⟨rows,tk.sz,if tn.gen=0∧tk.gen=g then g else tk.gen+tn.gen+1,tk.z⟩)::σ.t,σ.b⟩))):=rfl
@[go_sem] theorem iJ {n t' g:Nat} {p:Pth}:unO none n t' g p K σ=K σ:=rfl
theorem Kb {α:Type} {l:List α} {i:Nat} {x y:α} (h:l[i]? =some x):(l.set i y)[i]? =some y:=List.getElem?_set_self (Ae h)
theorem Dt {rows r:List (List D)} {sz i j:Nat} {row:List D} (h:rows[i]? =some row) (hl:row.length=sz) (hj:row[j]? =some (.sl r)):getP [(sz,i,j)] rows=some r:=by
 simp only [getP,h,hl,if_true,hj]
theorem U5 {rows:List (List D)} {sz i j:Nat} {row:List D} {d:D} (h:rows[i]? =some row) (hl:row.length=sz) (hj:row[j]? =some d):OK [(sz,i,j)] rows=some d:=by
 simp only [OK,h,hl,if_true,hj]
theorem GT {rows:List (List D)} {sz i j:Nat} {row:List D} {d d':D} (h:rows[i]? =some row) (hj:row[j]? =some d'):putR [(sz,i,j)] rows d=rows.set i (row.set j d):=by
 unfold putR
 rw [Ab.put,h]
 simp only [hj,Ab.put]
theorem bz {rows:List (List D)} {sz i j:Nat} {row:List D} {d d':D} (h:rows[i]? =some row) (hj:row[j]? =some d'):(putR [(sz,i,j)] rows d)[i]? =some (row.set j d):=by
 rw [GT h hj]; exact Kb h
section
variable {y:Way} {σ0:St}
@[go_sem] theorem iK:PasL y σ0 [] [] =True:=by simp only [PasL]
@[go_sem] theorem fX {a b:AV} {as bs:List AV}:PasL y σ0 (a::as) (b::bs)=(DP y σ0 a b∧PasL y σ0 as bs):=by simp only [PasL]
@[go_sem] theorem j6 {n c:Nat}:DP y σ0 (.own n) (.own c)=(look y.rt c=some n∨∃z,∃m,look y.rt c=some m∧look y.cv m=some (.own n,z)):=by
 simp only [DP]
 refine propext ⟨?_,?_⟩
 ·rintro ⟨m,h1,h2|⟨z,h2⟩⟩
  ·cases h2; exact .inl h1
  ·exact .inr ⟨z,m,h1,h2⟩
 ·rintro (h|⟨z,m,h1,h2⟩)
  ·exact⟨n,h,.inl rfl⟩
  ·exact⟨m,h1,.inr ⟨z,h2⟩⟩
def cvX (o:Option (AV × Option Nat)) (a:AV):Prop:=match o with|some x=>x.1 =a|none=>False
theorem Ry {o:Option (AV × Option Nat)} {a:AV}:(∃z,o=some (a,z))=cvX o a:=by
 unfold cvX
 cases o with
 |none=>simp
 |some x=>obtain⟨b,z⟩:=x; simp
def rtX (o:Option Nat) (K:Nat→Prop):Prop:=match o with|some n=>K n|none=>False
@[go_sem] theorem iL {n:Nat} {K:Nat→Prop}:rtX (some n) K=K n:=rfl
@[go_sem] theorem iM {x:AV × Option Nat} {a:AV}:cvX (some x) a=(x.1 =a):=rfl
theorem Oj {o:Option Nat} {p:Nat→Prop}:(∃n,o=some n∧p n)=rtX o p:=by
 cases o <;> simp [rtX]
@[go_sem] theorem j7 {t g c:Nat} {p:Pth}:DP y σ0 (.sub t g p) (.own c)=rtX (look y.rt c) fun n=>cvX (look y.cv n) (.sub t g p):=by
 rw [← Oj]
 simp only [DP,reduceCtorEq,false_or,Ry]
@[go_sem] theorem iN {c:Nat}:DP y σ0 .nils (.own c)=rtX (look y.rt c) fun n=>cvX (look y.cv n) .nils :=by
 rw [← Oj]
 simp only [DP,reduceCtorEq,false_or,Ry]
@[go_sem] theorem j8 {x m sz c:Nat}:DP y σ0 (.bsl x m sz) (.own c)=rtX (look y.rt c) fun n=>cvX (look y.cv n) (.bsl x m sz):=by
 rw [← Oj]
 simp only [DP,reduceCtorEq,false_or,Ry]
@[go_sem] theorem j9 {n off b off':Nat}:DP y σ0 (.box n off) (.box b off')=match look y.rb b with|some q=>n=q.1 ∧off=q.2 +off'|none=>False:=by
 simp only [DP,AV.box.injEq]
 cases look y.rb b <;> simp
@[go_sem] theorem kA {n sz i off c sz' i' off':Nat}:DP y σ0 (.elt n sz i off) (.elt c sz' i' off')=rtX (look y.rt c) fun m=>n=m∧sz=sz'∧i=i'∧off=off':=by
 rw [← Oj]
 simp only [DP,AV.elt.injEq]
@[go_sem] theorem kC {vs us:List AV}:DP y σ0 (.agg vs) (.agg us)=PasL y σ0 vs us:=by simp only [DP]
@[go_sem] theorem lL {f f':FuncId} {vs us:List AV}:DP y σ0 (.fn f vs) (.fn f' us)=(f=f'∧PasL y σ0 vs us):=by simp only [DP]
@[go_sem] theorem kD {n b:Nat}:DP y σ0 (.mpr n) (.mpr b)=match look y.rb b with|some q=>n=q.1 |none=>False:=by
 simp only [DP,AV.mpr.injEq]
 cases look y.rb b <;> simp
def clW (y:Way) (σ0:St) (a:AV):Option AV:=cl (if y.md=true then fun _=>none else σ0.T) (if y.md=true then fun _=>none else σ0.B) a
@[go_sem] theorem kE {a:AV} {k:IntKind} {n:Int}:DP y σ0 a (.int k n)=(clW y σ0 a=some (.int k n)):=by cases a <;> simp only [DP,clW]
@[go_sem] theorem iO {a:AV} {b:Bool}:DP y σ0 a (.bool b)=(clW y σ0 a=some (.bool b)):=by cases a <;> simp only [DP,clW]
@[go_sem] theorem kF {a:AV} {s:ByteArray}:DP y σ0 a (.str s)=(clW y σ0 a=some (.str s)):=by cases a <;> simp only [DP,clW]
@[go_sem] theorem lM {a:AV} {rows:List (List D)}:DP y σ0 a (.ro rows)=(clW y σ0 a=some (.ro rows)):=by cases a <;> simp only [DP,clW]
@[go_sem] theorem kG {a:AV} {vs:List AV} {off:Nat}:DP y σ0 a (.rop vs off)=(clW y σ0 a=some (.rop vs off)):=by cases a <;> simp only [DP,clW]
@[go_sem] theorem iP {a:AV}:DP y σ0 a .nilp =(clW y σ0 a=some .nilp):=by cases a <;> simp only [DP,clW]
@[go_sem] theorem kH {a:AV} {q:KT} {rows:List (List D)}:DP y σ0 a (.mpc q rows)=(clW y σ0 a=some (.mpc q rows)):=by cases a <;> simp only [DP,clW]
@[go_sem] theorem kI {a:AV}:DP y σ0 a .any =(clW y σ0 a=some .any):=by cases a <;> simp only [DP,clW]
@[go_sem] theorem lN {cv rt rb nt nb} {a:AV}:clW ⟨cv,rt,rb,nt,nb,true⟩ σ0 a=cl (fun _=>none) (fun _=>none) a:=by simp [clW]
@[go_sem] theorem lO {cv rt rb nt nb} {a:AV}:clW ⟨cv,rt,rb,nt,nb,false⟩ σ0 a=cl σ0.T σ0.B a:=by simp [clW]
end
def ZM (P:Program) (t:TypeId) (v:AV) (σ:St) (K:Bool→Prop) (_:Wrap K):Prop:=QU P t v σ K
theorem ZN {rows:List (List D)} {K:Bool→Prop} {w:Wrap K} (h:slP (ti P t)) (h0:rows=[] →K true) (h1:K false):ZM P t (.ro rows) σ K w:=aP h h0 h1
@[go_sem] theorem fY {K:Bool→Prop} {w:Wrap K}:ZM P t .nils σ K w=AS (slP (ti P t)) (K true):=RO
@[go_sem] theorem iQ {b n sz:Nat} {K:Bool→Prop} {w:Wrap K}:ZM P t (.bsl b n sz) σ K w=AS (slP (ti P t)) (K false):=TR
@[go_sem ↓] theorem fZ:opX P pos dst (.makeMap t none) σ K=optX (Ve P t) fun q=>AS (look σ.b pos=none) (K ((σ.put dst (.mpr pos)).setB pos [.mpc q []])):=by
 rw [Nf (fun _=>by simp only [aop])]
 simp only [Ev,optX,AS]
 refine propext ⟨?_,?_⟩
 ·rintro ⟨r,⟨q,h1,rfl⟩,-,h2,h3⟩
  exact⟨q,h1,h2.1,by rw [← IX]; exact h3⟩
 ·rintro ⟨q,h1,h2,h3⟩
  exact⟨_,⟨q,h1,rfl⟩,trivial,⟨h2,trivial⟩,by rw [IX]; exact h3⟩
def lkR (ok:Bool) (o:Option D) (z:AV) (K:AV→Prop):Prop:=K (if ok=true then .tup [(o.map ofD).getD z,.bool o.isSome] else (o.map ofD).getD z)
@[go_sem] theorem lP {o:Option D} {z:AV} {K:AV→Prop}:lkR false o z K=Al ((o.map ofD).getD z) K:=by simp [lkR,Al]
@[go_sem] theorem lQ {o:Option D} {z:AV} {K:AV→Prop}:lkR true o z K=Al ((o.map ofD).getD z) fun v=>Al o.isSome fun b=>K (.tup [v,.bool b]):=by simp [lkR,Al]
def lkX (P:Program) (t:TypeId) (u v:AV) (ok:Bool) (σ:St) (K:AV→Prop):Prop:=∃r,Ny P σ.B t u v ok r∧K r
@[go_sem] theorem kJ {b:Nat} {v:AV} {ok:Bool} {K:AV→Prop}:lkX P t (.mpr b) v ok σ K=U3 (ti P t) fun kt et=>TZ (σ.B b) fun q rows=>AS (Se P kt=some q) (optX (keyD v) fun k=>AS (Rg q k=true) (optX (tz1 P et) fun z=>Al (zAV z) fun z'=>Al (Hj k rows) fun o=>lkR ok o z' K)):=by
 simp only [lkX,Ny,U3,TZ,AS,optX,Al,lkR]
 generalize ti P t=w
 cases w with
 |map kt et=>
  simp only
  refine propext ⟨?_,?_⟩
  ·rintro ⟨r,⟨q,rows,h1,h2,k,h3,h4,z,h5,rfl⟩,h6⟩; exact⟨q,rows,h1,h2,k,h3,h4,z,h5,h6⟩
  ·rintro ⟨q,rows,h1,h2,k,h3,h4,z,h5,h6⟩; exact⟨_,⟨q,rows,h1,h2,k,h3,h4,z,h5,rfl⟩,h6⟩
 |_=>simp
@[go_sem ↓] theorem iR {ok:Bool}:opX P pos dst (.lookup t x y ok) σ K=Al (σ.e x) fun u=>Al (σ.e y) fun v=>lkX P t u v ok σ fun r=>K (σ.put dst r):=
 FY (p:=fun v=>Ny P σ.B t (σ.e x) (σ.e y) ok v) (fun _=>by simp only [aop]) (fun r=>by simp only [Ev])
def RR (a:AV):Option D:=match JQ [a] with|some [d] =>some d|_=>none
@[go_sem] theorem fc {k:IntKind} {n:Int}:RR (.int k n)=some (.int k n):=rfl
@[go_sem] theorem eI {b:Bool}:RR (.bool b)=some (.bool b):=rfl
@[go_sem] theorem fe {s:ByteArray}:RR (.str s)=some (.str s):=rfl
theorem ZO {a:AV} {d:D}:JQ [a] =some [d] ↔RR a=some d:=by
 unfold RR
 cases a <;> simp [JQ]
def muX (P:Program) (t:TypeId) (u v x:AV) (σ:St) (K:St→Prop):Prop:=Sf P t u v x σ K
@[go_sem] theorem kK {b:Nat} {v x:AV}:muX P t (.mpr b) v x σ K=U3 (ti P t) fun kt et=>TZ (σ.B b) fun q rows=>AS (rows.length<68719476736) (AS (Se P kt=some q) (optX (keyD v) fun k=>AS (Rg q k=true) (optX (RR x) fun d=>LX (mput k d rows) fun rows'=>K (σ.setB b [.mpc q rows'])))):=by
 simp only [muX,Sf,U3,TZ,AS,optX,Gk]
 generalize ti P t=w
 cases w with
 |map kt et=>
  simp only [ZO]
 |_=>rfl
@[go_sem ↓] theorem ct {m i:Operand}:opX P pos dst (.mapUpdate t m i x) σ K=Al (σ.e m) fun u=>Al (σ.e i) fun v=>Al (σ.e x) fun z=>muX P t u v z σ fun σ'=>K (σ'.put dst .any):=by
 unfold opX
 simp only [aop,Al,muX]
attribute [go_sem] keyD
@[go_sem] theorem iS {k:IntKind} {n:Int}:Rg (.int k) (.int k n)=true:=by simp [Rg]
@[go_sem] theorem iT {s:ByteArray}:Rg .str (.str s)=true:=rfl
@[go_sem ↓] theorem lR:opX P pos dst (.pick c a b) σ K=Al (σ.e c) fun u=>Al (σ.e a) fun v=>Al (σ.e b) fun w=>Pl u v w fun v=>K (σ.put dst v):=dd
@[go_sem ↓] theorem lS:opX P pos dst (.load t a) σ K=Al (σ.e a) fun u=>KZ P t u σ fun v=>K (σ.put dst v):=de
@[go_sem ↓] theorem eJ:opX P pos dst (.nilCheck x) σ K=Al (σ.e x) fun u=>Rw u fun v=>K (σ.put dst v):=Uy
@[go_sem ↓] theorem ff {y:Tmp}:opX P pos dst (.binOp op t x (.tmp y) t') σ K=Al (σ.e x) fun u=>Al (σ.g y) fun v=>Bd P op t u v fun v=>K (σ.put dst v):=XG
@[go_sem ↓] theorem fg {k:IntKind} {n:Int}:opX P pos dst (.binOp op t x (.const (.int k n)) t') σ K=Al (σ.e x) fun u=>Bd P op t u (.int k n) fun v=>K (σ.put dst v):=XH
@[go_sem ↓] theorem eK {b:Bool}:opX P pos dst (.binOp op t x (.const (.bool b)) t') σ K=Al (σ.e x) fun u=>Bd P op t u (.bool b) fun v=>K (σ.put dst v):=U0
@[go_sem ↓] theorem fh {b:ByteArray}:opX P pos dst (.binOp op t x (.const (.string b)) t') σ K=Al (σ.e x) fun u=>Bd P op t u (.str b) fun v=>K (σ.put dst v):=XI
@[go_sem ↓] theorem eL:opX P pos dst (.binOp op t x (.const (.pointer none)) t') σ K=Al (σ.e x) fun u=>Bd P op t u .nilp fun v=>K (σ.put dst v):=U1
@[go_sem ↓] theorem iU:opX P pos dst (.binOp .eql t x (.const (.slice none 0 0)) t') σ K=Al (σ.e x) fun u=>ZM P t u σ (fun b=>K (σ.put dst (.bool b))) ⟨⟩:=Yq
@[go_sem ↓] theorem iV:opX P pos dst (.binOp .neq t x (.const (.slice none 0 0)) t') σ K=Al (σ.e x) fun u=>ZM P t u σ (fun b=>K (σ.put dst (.bool !b))) ⟨⟩:=Yr
@[go_sem ↓] theorem lT {op:UnOp}:opX P pos dst (.unOp op t x) σ K=Al (σ.e x) fun u=>TT op u fun v=>K (σ.put dst v):=dq
@[go_sem ↓] theorem fi:opX P pos dst (.convert s d x) σ K=Al (σ.e x) fun u=>Ka P s d u σ fun v=>K (σ.put dst v):=XK
@[go_sem ↓] theorem cu:opX P pos dst (.fieldAddr s x f) σ K=Al (σ.e x) fun u=>faX P s u f fun v=>K (σ.put dst v):=TW
@[go_sem ↓] theorem kL:opX P pos dst (.field s x f) σ K=Al (σ.e x) fun u=>fdX P s u f fun v=>K (σ.put dst v):=bA
@[go_sem ↓] theorem cw:opX P pos dst (.indexAddr t x y) σ K=Al (σ.e x) fun u=>Al (σ.e y) fun v=>iaX P t u v σ fun v=>K (σ.put dst v):=TY
@[go_sem ↓] theorem kM {l h:Option Operand}:opX P pos dst (.slice t x l h none) σ K=Al (σ.e x) fun u=>XN P σ.T t u (l.map σ.e) (h.map σ.e) fun v=>K (σ.put dst v):=bC
@[go_sem ↓] theorem kN:opX P pos dst (.index t x y) σ K=Al (σ.e x) fun u=>Al (σ.e y) fun v=>elX P t u v fun v=>K (σ.put dst v):=bB
@[go_sem ↓] theorem fj:opX P pos dst (.extract x i) σ K=Al (σ.e x) fun u=>XO u i fun v=>K (σ.put dst v):=XP
@[go_sem ↓] theorem lw:opX P pos dst (.call ⟨.builtin .len,List.toArray [x],List.toArray [t]⟩) σ K=Al (σ.e x) fun u=>LW P t u σ fun v=>K (σ.put dst v):=gq
@[go_sem ↓] theorem lx {ts:Array TypeId}:opX P pos dst (.call ⟨.builtin .max,List.toArray [x,y],ts⟩) σ K=Al (σ.e x) fun u=>Al (σ.e y) fun v=>OM (fun n m=>if n<m then m else n) u v fun v=>K (σ.put dst v):=gr
@[go_sem ↓] theorem ly {ts:Array TypeId}:opX P pos dst (.call ⟨.builtin .min,List.toArray [x,y],ts⟩) σ K=Al (σ.e x) fun u=>Al (σ.e y) fun v=>OM (fun n m=>if m<n then m else n) u v fun v=>K (σ.put dst v):=gu
@[go_sem ↓] theorem lz:opX P pos dst (.box t x) σ K=Al (cellsOf (σ.e x)) fun cs=>bxX pos cs dst (.box pos 0) σ K:=gz
@[go_sem ↓] theorem kO:opX P pos dst (.alloc t) σ K=AS (0<(tz P t).length) (Al ((tz P t).map zAV) fun vs=>bxX pos (some vs) dst (.box pos 0) σ K):=bK
@[go_sem ↓] theorem kP {parts:List (Nat × Operand)}:opX P pos dst (.build t parts.toArray) σ K=Ta P (ti P t) fun fs=>AS ((fs.all fun q=>decide (0<tsz P q.2))=true∧0<(tz P t).length) (Al ((tz P t).map zAV) fun vs=>Al (pvs σ parts) fun ps=>bpX P fs vs ps fun v=>K (σ.put dst v)):=bO
@[go_sem ↓] theorem cy:opX P pos dst (.makeSlice t l c) σ K=slX (ti P t) fun e=>Al (σ.e l) fun u=>Al (σ.e c) fun v=>mkX P pos e u v dst σ K:=Tb
@[go_sem ↓] theorem lU {L:Bool} {wL:Wrap L} {args:List Operand} {ts:Array TypeId}:opL P L pos dst (.call ⟨.value g,args.toArray,ts⟩) σ K wL=Al (σ.e g) fun u=>Al (evs σ args) fun vs=>clX P L pos u vs dst σ K wL:=d8
@[go_sem ↓] theorem kQ:opX P pos dst (.store t a x) σ K=Al (σ.e a) fun u=>Al (cellsOf (σ.e x)) fun cs=>stX P t u cs σ fun σ'=>K (σ'.put dst .any):=bW
@[go_sem ↓] theorem iW:opX P pos dst (.call ⟨.builtin .append,List.toArray [x,y],List.toArray [t,t]⟩) σ K=slX (ti P t) fun e=>Al (σ.e x) fun u=>Al (σ.e y) fun v=>apX P pos e u v dst σ K:=ZD
def apE (P:Program) (pos:Nat) (e:TypeId) (u v:AV) (dst:Option Tmp) (σ:St) (K:St→Prop):Prop:=Vf u=true∧match v with
 | .ro rows=>(0<tsz P e∧(tz P e).length =tsz P e)∧∃z,roZ z (tsz P e) rows fun rows=>(rows.length*P.bytesOf e≤140737488355328∧rows.length≤maxLen)∧look σ.t (pos*16)=none∧K ((σ.setT (pos*16) ⟨rows,some (tsz P e),0,z⟩).put dst (.own (pos*16)))
 |_=>False
theorem ZP {z:Bool} {sz:Nat} {rows:List (List D)} {K K':List (List D)→Prop} (h:∀r,K r→K' r) (k:roZ z sz rows K):roZ z sz rows K':=by
 cases z
 ·exact⟨k.1,h _ k.2⟩
 ·exact⟨k.1,h _ k.2⟩
def roX (z:Bool) (sz:Nat) (rows:List (List D)) (K:List (List D)→Prop):Prop:=roZ z sz rows K
@[go_sem] theorem l0 {sz:Nat} {rows:List (List D)} {K:List (List D)→Prop}:roX false sz rows K=AS (∀row ∈ rows,row.length=sz∧∀d ∈ row,d.flat=true) (K rows):=rfl
@[go_sem] theorem l5 {sz:Nat} {rows:List (List D)} {K:List (List D)→Prop}:roX true sz rows K=AS (∀row ∈ rows,row.length=sz∧∀d ∈ row,d≠ .gone) (LX (fzR rows) fun r=>K r):=by
 simp only [roX,roZ,AS,Gk]
@[go_sem] theorem lV {e:TypeId} {u:AV} {rows:List (List D)}:apE P pos e u (.ro rows) dst σ K=AS (Vf u=true) (AS (0<tsz P e∧(tz P e).length =tsz P e) (zX fun z=>roX z (tsz P e) rows fun rows=>AS (rows.length*P.bytesOf e≤140737488355328∧rows.length≤maxLen) (AS (look σ.t (pos*16)=none) (LX rows fun rows=>K ((σ.setT (pos*16) ⟨rows,some (tsz P e),0,z⟩).put dst (.own (pos*16))))))):=by simp only [Gk]; rfl
@[go_sem ↓] theorem lW:opE P pos dst (.call ⟨.builtin .append,List.toArray [x,y],List.toArray [t,t]⟩) σ K=slX (ti P t) fun e=>Al (σ.e x) fun u=>Al (σ.e y) fun v=>apE P pos e u v dst σ K:=by
 unfold opE
 simp only [Ev,fx,slX,true_and,Al]
 generalize σ.e x=u
 generalize σ.e y=v
 refine propext ⟨?_,?_⟩
 ·rintro ⟨r,⟨h1,h2⟩,h3,h4,h5⟩
  split at h2
  ·rename_i el rows hel
   obtain⟨h6,z,h7⟩:=h2
   rw [hel]
   refine⟨h1,h6,z,ZP (fun rows h8=>?_) h7⟩
   obtain⟨h9,rfl⟩:=h8
   refine⟨h9,h3.1,?_⟩
   cases dst <;> exact h5
  ·exact h2.elim
 ·intro h
  generalize hti:ti P t=q at h ⊢
  cases q with
  | sl el=>
   cases v with
   | ro rows=>
    obtain⟨h1,h6,z,h7⟩:=h
    cases z with
    |false=>
     obtain⟨h8,h9,h10,h5⟩:=h7
     exact⟨_,⟨h1,h6,false,h8,h9,rfl⟩,⟨h10,trivial⟩,trivial,by cases dst <;> exact h5⟩
    |true=>
     obtain⟨h8,h9,h10,h5⟩:=h7
     exact⟨_,⟨h1,h6,true,h8,h9,rfl⟩,⟨h10,trivial⟩,trivial,by cases dst <;> exact h5⟩
   |_=>exact h.2.elim
  |_=>exact h.elim
@[go_sem ↓] theorem lX {e:TypeId} {u v:AV}:apX P pos e u v dst σ K=AS (0<tsz P e∧(tz P e).length =tsz P e) (zX fun z=>Oy z e (tsz P e) u σ fun rows σ1=>LU z (tsz P e) v σ1 fun rows2 σ2=>
   AS ((rows.length+rows2.length)*P.bytesOf e≤140737488355328∧rows.length+rows2.length≤maxLen) (AS (look σ2.t (pos*16)=none) (LX (rows++rows2) fun rows=>K ((σ2.setT (pos*16) ⟨rows,some (tsz P e),0,z⟩).put dst (.own (pos*16)))))):=by simp only [Gk]; rfl
end
attribute [go_sem] zAV
section
variable {P:Program} {σ:St} {K:St→Prop} {ops:Array Oper} {base cut i:Nat}
@[go_sem] theorem eM {x:Oper} {xs b:List Oper} {w1:Wrap ops} {w2} {w3:Wrap K} {w4:Wrap cut}:IW P ops base cut i (List.append (x::xs) b) σ K w1 w2 w3 w4=IW P ops base cut i (x::List.append xs b) σ K w1 ⟨⟩ w3 w4:=rfl
@[go_sem] theorem fk {b:List Oper} {w1:Wrap ops} {w2} {w3:Wrap K} {w4:Wrap cut}:IW P ops base cut i (List.append [] b) σ K w1 w2 w3 w4=IW P ops base cut i b σ K w1 ⟨⟩ w3 w4:=rfl
@[go_sem] theorem fl {a b c:List Oper} {w1:Wrap ops} {w2} {w3:Wrap K} {w4:Wrap cut}:IW P ops base cut i (List.append (List.append a b) c) σ K w1 w2 w3 w4=IW P ops base cut i (List.append a (List.append b c)) σ K w1 ⟨⟩ w3 w4:=by
 unfold IW; rw [show List.append (List.append a b) c=List.append a (List.append b c) from List.append_assoc a b c]
@[go_sem ↓] theorem ZQ {dst:Tmp} {op:Op} {type:TypeId} {ps:String} {after:Array Edge} {g:Option (Nat × Bool)} {rest b:List Oper} {K:Tmp→Prop}:HG (List.toArray (List.append (⟨some dst,op,type,ps,after,g⟩::rest) b)) 0 K=K dst:=by
 show HG (List.toArray (_::List.append rest b)) 0 K=K dst
 exact Uu
@[go_sem ↓] theorem ZR {o:Oper} {rest b:List Oper} {j:Nat} {K:Tmp→Prop}:HG (List.toArray (List.append (o::rest) b)) (j+1) K=HG (List.toArray (List.append rest b)) j K:=by
 show HG (List.toArray (o::List.append rest b)) (j+1) K=_
 exact Uv
@[go_sem ↓] theorem Z6 {b:List Oper} {j:Nat} {K:Tmp→Prop}:HG (List.toArray (List.append [] b)) j K=HG b.toArray j K:=rfl
@[go_sem ↓] theorem Z7 {a b c:List Oper} {j:Nat} {K:Tmp→Prop}:HG (List.toArray (List.append (List.append a b) c)) j K=HG (List.toArray (List.append a (List.append b c))) j K:=by
 rw [show List.append (List.append a b) c=List.append a (List.append b c) from List.append_assoc a b c]
@[go_sem] theorem kR {a b:List Oper} {p:Oper→Bool}:List.all (List.append a b) p=(List.all a p&&List.all b p):=List.all_append
end
end Go.Proofs.YtckcfdggbbabfaaGreat.Ab
