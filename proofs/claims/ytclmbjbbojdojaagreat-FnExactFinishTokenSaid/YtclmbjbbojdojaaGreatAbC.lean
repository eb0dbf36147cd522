/-
  The abstract walk, second part: abstract values ('AV'), slices of the call's own under tokens, struct variables as boxes; what they say of values and worlds.
-/
import Derived.Test.YtclmbjbbojdojaaGreatAbA
import Derived.Test.YtclmbjbbojdojaaGreatAmb
import Derived.ChangeAgain
import Derived.Maps.Own
import Derived.Laws.BytesArg
namespace Go.Proofs.YtclmbjbbojdojaaGreat.Ab
set_option linter.unusedVariables false
set_option maxHeartbeats 1000000
open Go.RowKit
inductive KT where
 |int (k:IntKind)
 |str
 |wide (ks:List IntKind)
inductive AV where
 |any
 |int (k:IntKind) (n:Int)
 |bool (b:Bool)
 |str (s:ByteArray)
 |ro (rows:List (List D))
 |own (t:Nat)
 |box (b off:Nat)
 |rop (vs:List AV) (off:Nat)
 |bsl (b n sz:Nat)
 |elt (t sz i off:Nat)
 |sub (t g:Nat) (p:Pth)
 |els (t g:Nat) (p:Pth) (sz i off:Nat)
 |par (t sz i n:Nat)
 |agg (vs:List AV)
 |tup (vs:List AV)
 |fn (f:FuncId) (caps:List AV)
 |nilp
 |nils
 |mpr (b:Nat)
 |mpc (q:KT) (rows:List (List D))
instance:Inhabited AV:=⟨.any⟩
def AV.mp?:AV→Bool
 | .mpc _ _=>true
 |_=>false
def isMp:List AV→Bool
 | [a] =>a.mp?
 |_=>false
def RQ (vs:List AV):Bool:=vs.all fun a=> !a.mp?
theorem Ov {vs} (h:RQ vs=true):isMp vs=false:=by
 cases vs with
 |nil=>rfl
 |cons a l=>cases l with
  |nil=>grind [RQ,isMp]
  |cons b l=>rfl
theorem eM {a b} {l}:isMp (a::b::l)=false:=rfl
theorem X0 {vs} (h:vs.length≠1):isMp vs=false:=by
 cases vs with
 |nil=>rfl
 |cons a l=>cases l with
  |nil=>grind
  |cons b l=>rfl
theorem Mt {vs} (h:isMp vs=true):∃q rows,vs=[.mpc q rows] :=by
 cases vs with
 |nil=>cases h
 |cons a l=>cases l with
  |nil=>cases a <;> simp [isMp,AV.mp?] at h; grind
  |cons b l=>cases h
def GW:D→Value→Prop
 | .int k n,v=>v= .int k n∧(Lit.int k n).wf =true
 | .bool b,v=>v= .bool b
 | .str s,v=>v= .string s∧s.size≤maxLen
 |_,_=>False
def EG:List D→List Value→Prop
 | [],vs=>vs=[]
 | .int k n::ds,vs=>∃vs',vs= .int k n::vs'∧(Lit.int k n).wf =true∧EG ds vs'
 |_::_,_=>False
def Hi:D→Value→Prop
 | .ptr ds,v=>∃us:List Value,v= .agg us.toArray∧EG ds us
 |d,v=>GW d v
def isKI:List IntKind→List D→Prop
 | [],[] =>True
 |k::ks,.int k' _::ds=>k'=k∧isKI ks ds
 |_,_=>False
def isKD:KT→D→Prop
 | .int k,.int k' _=>k'=k
 | .str,.str _=>True
 | .wide ks,.ptr ds=>isKI ks ds
 |_,_=>False
def Tl (q:KT):List D→Value × Value→Prop
 | [k,d],e=>isKD q k∧Hi k e.1 ∧GW d e.2
 |_,_=>False
def BJ (q:KT):List (List D)→List (Value × Value)→Prop
 | [],es=>es=[]
 |r::rs,es=>∃e es',es=e::es'∧Tl q r e∧BJ q rs es'
def Tm (es:List (Value × Value)):Value:=.tuple (es.map fun e=>.tuple #[e.1,e.2]).toArray
def Ga (es:Array MapEntry):List (Value × Value):=es.toList.map fun e=>(e.key,e.val)
def SS (w:World) (blk:Nat) (us:List Value):Prop:=∃es clock,w.heap[blk]? =some (.map es clock)∧us=[Tm (Ga es)] ∧MapKept.Stamped es clock
inductive ZK where
 |no|yes|nl
deriving DecidableEq
structure Tok where
 rows:List (List D)
 sz:Option Nat
 gen:Nat
 z:ZK
def zvw (z:ZK) (V:World):World:=match z with
 | .yes =>V
 | .no =>default
 | .nl =>default
abbrev Tok.vw (tk:Tok) (V:World):World:=zvw tk.z V
theorem AS.void (w:World):AS default w:=fun a u h=>by
 have:(default:World).cell? a=none:=rfl
 rw [this] at h; cases h
theorem re {z} {V w} (h:AS V w):AS (zvw z V) w:=by
 cases z
 ·exact AS.void w
 ·exact h
 ·exact AS.void w
theorem ni {z} {V V'} (h:AS V V'):AS (zvw z V) (zvw z V'):=by
 cases z
 ·exact AS.refl _
 ·exact h
 ·exact AS.refl _
theorem nj {z z'} {V} (h:z= .yes →z'= .yes):AS (zvw z V) (zvw z' V):=by
 cases z
 ·exact AS.void _
 ·rw [h rfl]; exact AS.refl _
 ·exact AS.void _
theorem Tok.vwk {tk:Tok} {V w:World} (h:AS V w):AS (tk.vw V) w:=re h
theorem Tok.vwm {tk:Tok} {V V':World} (h:AS V V'):AS (tk.vw V) (tk.vw V'):=ni h
def Sv (V w:World) (rows:List (List D)) (v:Value) (fp:List Nat) (sz:Nat):Prop:=
 (rows=[] ∧(∃a,v= .slice a 0 0)∧fp=[])∨
 ∃g o c e cs fps,v= .slice (some ⟨g,o,none⟩) rows.length c∧rows.length≤c∧c≤maxLen∧Blk w g e cs∧o+c*sz≤cs.length∧OwnR V w cs sz o rows fps∧fp=g::fps
theorem Sv.own {V w} {rows} {v} {fp} {sz} (h:Sv V w rows v fp sz):Own V w (.sl rows) v fp:=by
 rcases h with ⟨h1,⟨a,h2⟩,h3⟩|⟨g,o,c,e,cs,fps,h⟩
 ·exact .inl ⟨h1,⟨a,0,h2,Nat.zero_le _⟩,h3⟩
 ·exact .inr ⟨sz,g,o,c,e,cs,fps,h⟩
theorem Sv.keep {V w w'} {rows} {v} {fp} {sz} (h:Sv V w rows v fp sz) (hk:∀g ∈ fp,w'.heap[g]? =w.heap[g]?):Sv V w' rows v fp sz:=by
 rcases h with h|⟨g,o,c,e,cs,fps,h1,h2,h3,h4,h5,h6,rfl⟩
 ·exact .inl h
 ·exact .inr ⟨g,o,c,e,cs,fps,h1,h2,h3,by grind [Blk],h5,OwnR.keep h6 fun g hg=>hk g (by grind),rfl⟩
def Aj (V w:World) (tk:Tok) (v:Value) (fp:List Nat):Prop:=
 match tk.sz with
 |none=>Own (tk.vw V) w (.sl tk.rows) v fp
 |some sz=>Sv (tk.vw V) w tk.rows v fp sz
theorem Aj.own {V w} {tk} {v} {fp} (h:Aj V w tk v fp):Own (tk.vw V) w (.sl tk.rows) v fp:=by
 unfold Aj at h
 split at h
 ·exact h
 ·exact h.own
theorem Aj.keep {V w w'} {tk} {v} {fp} (h:Aj V w tk v fp) (hk:∀g ∈ fp,w'.heap[g]? =w.heap[g]?):Aj V w' tk v fp:=by
 unfold Aj at h ⊢
 split at h
 ·exact Own.keep h hk
 ·exact h.keep hk
theorem Sv.mono {V V' w} {rows} {v} {fp} {sz} (hk:AS V V') (h:Sv V w rows v fp sz):Sv V' w rows v fp sz:=by
 rcases h with h|⟨g,o,c,e,cs,fps,h1,h2,h3,h4,h5,h6,h7⟩
 ·exact .inl h
 ·exact .inr ⟨g,o,c,e,cs,fps,h1,h2,h3,h4,h5,OwnR.mono hk h6,h7⟩
theorem Aj.mono {V V' w:World} {tk:Tok} {v:Value} {fp:List Nat} (hk:AS V V') (h:Aj V w tk v fp):Aj V' w tk v fp:=by
 unfold Aj at h ⊢
 split at h
 ·exact Own.mono (Tok.vwm hk) h
 ·exact h.mono (Tok.vwm hk)
theorem Aj.rep {V w:World} {tk:Tok} {v:Value} {fp:List Nat} (hk:AS V w) (h:Aj V w tk v fp):Rep w (.sl tk.rows) v:=h.own.rep (Tok.vwk hk)
theorem Aj.lt {V w} {tk} {v} {fp} (h:Aj V w tk v fp):∀g ∈ fp,g<w.heap.size:=h.own.lt
theorem Aj.nil {V w} {z} {g} {q} {v} (h:∃a,v= .slice a 0 0):Aj V w ⟨[],z,g,q⟩ v [] :=by
 cases z with
 |none=>obtain⟨a,h⟩:=h; exact .inl ⟨rfl,⟨a,0,h,Nat.zero_le _⟩,rfl⟩
 |some s=>exact .inl ⟨rfl,h,rfl⟩
theorem Aj.block {V w} {tk} {v} {fp} (h:Aj V w tk v fp) {g o n c} (hv:v= .slice (some ⟨g,o,none⟩) n c) (hne:tk.rows≠ []):
  ∃sz e cs fps,n=tk.rows.length∧n≤c∧c≤maxLen∧Blk w g e cs∧o+c*sz≤cs.length∧OwnR (tk.vw V) w cs sz o tk.rows fps∧fp=g::fps∧
   ∀w' cs' rows' fps',rows'.length=tk.rows.length→Blk w' g e cs'→cs'.length=cs.length→OwnR (tk.vw V) w' cs' sz o rows' fps'→∀k,Aj V w' ⟨rows',tk.sz,k,tk.z⟩ v (g::fps'):=by
 subst hv
 unfold Aj at h
 split at h
 ·grind [Own,Aj]
 ·rename_i sz hz
  rcases h with ⟨he,-,-⟩|⟨g',o',c',e,cs,fps,hv,h1,h2,h3,h4,h5,h6⟩
  ·grind
  ·simp only [Value.slice.injEq,Option.some.injEq,Addr.mk.injEq,and_true] at hv
   obtain⟨⟨rfl,rfl⟩,rfl,rfl⟩:=hv
   refine⟨sz,e,cs,fps,rfl,h1,h2,h3,h4,h5,h6,fun w' cs' rows' fps' k1 k2 k3 k4 k=>?_⟩
   unfold Aj
   simp only [hz]
   exact .inr ⟨g,o,c,e,cs',fps',by rw [k1],by omega,h2,k2,by omega,k4,rfl⟩
structure Gh where
 tl:Nat→Prop
 tv:Nat→Value
 tf:Nat→List Nat
 bl:Nat→Prop
 bb:Nat→Nat
 bo:Nat→Nat
 gl:Nat→Nat→Prop
 hv:Nat→Nat→Pth→Value
 vw:World
def Gh.none:Gh:=⟨fun _=>False,fun _=>.tuple #[],fun _=>[],fun _=>False,fun _=>0,fun _=>0,fun _ _=>False,fun _ _ _=>.tuple #[],default⟩
structure Gh.Ext (γ γ':Gh):Prop where
 tl:∀t,γ.tl t→γ'.tl t
 tv:∀t,γ.tl t→γ'.tv t=γ.tv t
 bl:∀b,γ.bl b→γ'.bl b
 bb:∀b,γ.bl b→γ'.bb b=γ.bb b
 bo:∀b,γ.bl b→γ'.bo b=γ.bo b
 gl:∀t g,γ.tl t→γ.gl t g→γ'.gl t g
 hv:∀t g,γ.tl t→γ.gl t g→γ'.hv t g=γ.hv t g
 vw:AS γ.vw γ'.vw
theorem Gh.Ext.refl (γ:Gh):Gh.Ext γ γ:=⟨fun _ h=>h,fun _ _=>rfl,fun _ h=>h,fun _ _=>rfl,fun _ _=>rfl,fun _ _ _ h=>h,fun _ _ _ _=>rfl,AS.refl _⟩
theorem Gh.Ext.trans {a b c} (h:Gh.Ext a b) (k:Gh.Ext b c):Gh.Ext a c:=
 ⟨fun t x=>k.tl t (h.tl t x),fun t x=>(k.tv t (h.tl t x)).trans (h.tv t x),fun t x=>k.bl t (h.bl t x),fun t x=>(k.bb t (h.bl t x)).trans (h.bb t x),fun t x=>(k.bo t (h.bl t x)).trans (h.bo t x),fun t g x y=>k.gl t g (h.tl t x) (h.gl t g x y),fun t g x y=>(k.hv t g (h.tl t x) (h.gl t g x y)).trans (h.hv t g x y),h.vw.trans k.vw⟩
def FnV (f:FuncId) (us:List Value) (v:Value):Prop:=(us=[] ∧v= .func (.func f) #[] #[])∨∃ws r,us= .agg ws::r∧v= .func (.func f) ws r.toArray
mutual
def VSim (w0:World) (γ:Gh):AV→Value→Prop
 | .any,_=>True
 | .int k n,v=>v= .int k n∧(Lit.int k n).wf =true
 | .bool b,v=>v= .bool b
 | .str s,v=>v= .string s∧s.size≤maxLen
 | .ro rows,v=>Rep w0 (.sl rows) v
 | .own t,v=>(γ.tl t∧∃a n c,γ.tv t= .slice a n c)∧v=γ.tv t
 | .box b off,v=>γ.bl b∧v= .pointer (some ⟨γ.bb b,γ.bo b+off,none⟩)
 | .bsl b n sz,v=>γ.bl b∧n≤maxLen∧v= .slice (some ⟨γ.bb b,γ.bo b,none⟩) n n
 | .rop vs off,v=>∃ (b o:Nat) (us:List Value),v= .pointer (some ⟨b,o+off,none⟩)∧AH w0 γ vs us∧∀j u,us[j]? =some u→w0.cell? ⟨b,o+j,none⟩=some u
 | .elt t sz i off,v=>γ.tl t∧∃g o n c,γ.tv t= .slice (some ⟨g,o,none⟩) n c∧v= .pointer (some ⟨g,o+i*sz+off,none⟩)
 | .sub t g p,v=>(γ.tl t∧γ.gl t g)∧(∃a n c,γ.hv t g p= .slice a n c)∧v=γ.hv t g p
 | .els t g p sz i off,v=>(γ.tl t∧γ.gl t g)∧∃b o n c,γ.hv t g p= .slice (some ⟨b,o,none⟩) n c∧v= .pointer (some ⟨b,o+i*sz+off,none⟩)
 | .par t sz i n,v=>γ.tl t∧∃a m c,γ.tv t= .slice a m c∧v= .slice (if c=i then a else a.map (·.add (i*sz))) n (c - i)
 | .agg vs,v=>∃us:List Value,v= .agg us.toArray∧AH w0 γ vs us
 | .tup vs,v=>∃us:List Value,v= .tuple us.toArray∧AH w0 γ vs us
 | .fn f caps,v=>∃us:List Value,FnV f us v∧AH w0 γ caps us
 | .nilp,v=>v= .pointer none
 | .nils,v=>v= .slice none 0 0
 | .mpr b,v=>γ.bl b∧v= .map (some (γ.bb b))
 | .mpc q rows,v=>rows.length≤68719476736∧∃es,v=Tm es∧BJ q rows es
def AH (w0:World) (γ:Gh):List AV→List Value→Prop
 | [],us=>us=[]
 |a::as,us=>∃u us',us=u::us'∧VSim w0 γ a u∧AH w0 γ as us'
end
mutual
theorem VSim.mono {w0 w1} {γ γ'} (hk:AS w0 w1) (he:Gh.Ext γ γ'):∀ {a} {v},VSim w0 γ a v→VSim w1 γ' a v
 | .any,_,_=>trivial
 | .int _ _,_,h=>by grind [VSim]
 | .bool _,_,h=>by grind [VSim]
 | .str _,_,h=>by grind [VSim]
 | .ro rows,_,h=>by grind [VSim,Rep.keep]
 | .own t,_,h=>by simp only [VSim] at h ⊢; exact⟨⟨he.tl t h.1.1,by rw [he.tv t h.1.1]; grind⟩,by rw [he.tv t h.1.1]; grind⟩
 | .box b off,_,h=>by simp only [VSim] at h ⊢; exact⟨he.bl b h.1,by rw [he.bb b h.1,he.bo b h.1]; grind⟩
 | .bsl b n sz,_,h=>by simp only [VSim] at h ⊢; exact⟨he.bl b h.1,h.2.1,by rw [he.bb b h.1,he.bo b h.1]; grind⟩
 | .rop vs off,_,h=>by
  simp only [VSim] at h ⊢
  obtain⟨b,o,us,hv,hs,hc⟩:=h
  exact⟨b,o,us,hv,AH.mono hk he hs,fun j u hu=>hk _ _ (hc j u hu)⟩
 | .elt t sz i off,_,h=>by simp only [VSim] at h ⊢; exact⟨he.tl t h.1,by rw [he.tv t h.1]; grind⟩
 | .par t sz i n,_,h=>by simp only [VSim] at h ⊢; exact⟨he.tl t h.1,by rw [he.tv t h.1]; grind⟩
 | .sub t g p,_,h=>by simp only [VSim] at h ⊢; rw [he.hv t g h.1.1 h.1.2]; exact⟨⟨he.tl t h.1.1,he.gl t g h.1.1 h.1.2⟩,h.2⟩
 | .els t g p sz i off,_,h=>by simp only [VSim] at h ⊢; rw [he.hv t g h.1.1 h.1.2]; exact⟨⟨he.tl t h.1.1,he.gl t g h.1.1 h.1.2⟩,h.2⟩
 | .agg vs,_,h=>by
  simp only [VSim] at h ⊢
  obtain⟨us,hv,hs⟩:=h
  exact⟨us,hv,AH.mono hk he hs⟩
 | .tup vs,_,h=>by
  simp only [VSim] at h ⊢
  obtain⟨us,hv,hs⟩:=h
  exact⟨us,hv,AH.mono hk he hs⟩
 | .fn f vs,_,h=>by
  simp only [VSim] at h ⊢
  obtain⟨us,hv,hs⟩:=h
  exact⟨us,hv,AH.mono hk he hs⟩
 | .nilp,_,h=>by grind [VSim]
 | .nils,_,h=>by grind [VSim]
 | .mpr b,_,h=>by simp only [VSim] at h ⊢; exact⟨he.bl b h.1,by rw [he.bb b h.1]; grind⟩
 | .mpc _ rows,_,h=>by grind [VSim]
theorem AH.mono {w0 w1} {γ γ'} (hk:AS w0 w1) (he:Gh.Ext γ γ'):∀ {as} {us},AH w0 γ as us→AH w1 γ' as us
 | [],_,h=>by grind [AH]
 |a::as,us,h=>by
  simp only [AH] at h ⊢
  obtain⟨u,us',rfl,h1,h2⟩:=h
  exact⟨u,us',rfl,VSim.mono hk he h1,AH.mono hk he h2⟩
end
theorem AH.length {w0} {γ}:∀ {as} {us},AH w0 γ as us→us.length=as.length
 | [],us,h=>by grind [AH]
 |a::as,us,h=>by
  simp only [AH] at h
  obtain⟨u,us',rfl,h1,h2⟩:=h
  simp [AH.length h2]
theorem AH.get {w0:World} {γ:Gh}:∀ {as:List AV} {us:List Value},AH w0 γ as us→∀ {i:Nat} {a:AV},as[i]? =some a→∃u,us[i]? =some u∧VSim w0 γ a u
 | [],us,h,i,a,hi=>by grind
 |a::as,us,h,0,b,hi=>by
  grind [AH]
 |a::as,us,h,i+1,b,hi=>by
  simp only [AH] at h
  obtain⟨u,us',rfl,h1,h2⟩:=h
  simpa using AH.get h2 (by simpa using hi)
theorem AH.mk {w0} {γ}:∀ {as} {us},us.length=as.length→(∀ (i:Nat) (a:AV) (u:Value),as[i]? =some a→us[i]? =some u→VSim w0 γ a u)→AH w0 γ as us
 | [],us,hl,h=>by grind [AH]
 |a::as,[],hl,h=>by grind
 |a::as,u::us,hl,h=>by
  simp only [AH]
  exact⟨u,us,rfl,h 0 a u rfl rfl,AH.mk (by simpa using hl) fun i a u h1 h2=>h (i+1) a u (by simpa using h1) (by simpa using h2)⟩
theorem AH.append {w0} {γ}:∀ {as bs} {us vs},AH w0 γ as us→AH w0 γ bs vs→AH w0 γ (as++bs) (us++vs)
 | [],bs,us,vs,h,k=>by grind [AH]
 |a::as,bs,us,vs,h,k=>by
  simp only [AH] at h
  obtain⟨u,us',rfl,h1,h2⟩:=h
  simp only [List.cons_append,AH]
  exact⟨u,us'++vs,rfl,h1,AH.append h2 k⟩
def fnA (caps args:List AV):List AV:=match caps with
 | .agg fs::cs=>fs++(args++cs)
 |cs=>args++cs
def Oe:List AV→Bool
 | [] =>true
 | .agg _::_=>true
 |_=>false
def fnU (us xs:List Value):List Value:=match us with
 | .agg ws::r=>ws.toList++(xs++r)
 |r=>xs++r
theorem a6 {w0} {γ} {f} {caps args:List AV} {us xs:List Value} {v:Value} (ho:Oe caps=true) (hf:FnV f us v) (hc:AH w0 γ caps us) (ha:AH w0 γ args xs):
  AH w0 γ (fnA caps args) (fnU us xs)∧∃ws cs,v= .func (.func f) ws cs∧(fnU us xs).toArray =ws++xs.toArray++cs:=by
 cases caps with
 |nil=>
  simp only [AH] at hc
  subst hc
  rcases hf with ⟨-,rfl⟩|⟨ws,r,e,-⟩
  ·grind [fnU,fnA]
  grind
 | cons c cs=>
  simp only [AH] at hc
  obtain⟨u,us',rfl,h1,h2⟩:=hc
  rcases hf with ⟨e,-⟩|⟨ws,r,e,rfl⟩
  ·cases e
  ·cases e
   cases c with
   |agg fs=>
    simp only [VSim] at h1
    obtain⟨ys,e,h3⟩:=h1
    cases e
    refine⟨?_,_,_,rfl,by simp [fnU]⟩
    simp only [fnA,fnU]
    exact h3.append (ha.append h2)
   |_=>cases ho
theorem AH.set {w0:World} {γ:Gh} {as:List AV} {us:List Value} (h:AH w0 γ as us) {a:AV} {u:Value} (hv:VSim w0 γ a u) (i:Nat):AH w0 γ (as.set i a) (us.set i u):=by
 have hl:=h.length
 refine AH.mk (by grind) fun j b x hj hx=>?_
 rw [List.getElem?_set] at hj hx
 by_cases e:i=j
 ·grind
 ·rw [if_neg e] at hj hx
  obtain⟨u',h1,h2⟩:=h.get hj
  rw [h1] at hx; grind
structure Cx where
 P:Program
 we:World
 w0:World
 L:List (Nat × Nat × Nat)
 LF:Nat→Prop
 keep0:AS w0 we
 vw:∀g o,(LF g∨∃x ∈ L,x.1 =g)→w0.cell? ⟨g,o,none⟩=none
 low:∀g,(LF g∨∃x ∈ L,x.1 =g)→P.low≤g
 lowe:P.low≤we.heap.size
 amb:Amb P we
 g0:Gh
 g0w:g0.vw=w0
 pinT:∀t,g0.tl t→t<1000
 pinB:∀b,g0.bl b→b<1000
theorem W0 {P} {w w'} (h:w.ShapedOpen P) (hb:Below w.heap.size w w'):w'.ShapedOpen P:=
 h.keptBut (hb.frame (fun _=>False)) (fun _ h=>h.elim)
def Ih (we w:World) (x:Nat × Nat × Nat):Prop:=
 (∃cs cs' e,we.heap[x.1]? =some (.cells cs e (0,0))∧w.heap[x.1]? =some (.cells cs' e (0,0))∧cs'.size=cs.size∧∀o,(o<x.2.1 ∨x.2.1 +x.2.2 ≤o)→cs'[o]? =cs[o]?)∨
 ∃es k es' k',we.heap[x.1]? =some (.map es k)∧w.heap[x.1]? =some (.map es' k')
theorem Ih.lt0 {we w} {x} (h:Ih we w x):x.1 <we.heap.size:=by
 rcases h with ⟨cs,cs',e,h1,-⟩|⟨es,k,es',k',h1,-⟩
 ·grind
 grind
theorem Ih.lt {we w} {x} (h:Ih we w x):x.1 <w.heap.size:=by
 rcases h with ⟨cs,cs',e,-,h1,-⟩|⟨es,k,es',k',-,h1⟩
 ·grind
 grind
theorem Ih.keep {we w w'} {x} (h:Ih we w x) (hk:w'.heap[x.1]? =w.heap[x.1]?):Ih we w' x:=by
 rcases h with ⟨cs,cs',e,h1,h2,h3⟩|⟨es,k,es',k',h1,h2⟩
 ·exact .inl ⟨cs,cs',e,h1,hk.trans h2,h3⟩
 ·exact .inr ⟨es,k,es',k',h1,hk.trans h2⟩
structure Frm (cx:Cx) (w:World):Prop where
 sh:w.ShapedOpen cx.P
 os:w.os=cx.we.os
 tape:w.tape=cx.we.tape
 output:w.output=cx.we.output
 size:cx.we.heap.size≤w.heap.size
 block:∀k,k<cx.we.heap.size→¬cx.LF k→(∀x ∈ cx.L,x.1 ≠k)→w.heap[k]? =cx.we.heap[k]?
 lent:∀x ∈ cx.L,Ih cx.we w x
theorem W1 {V w} (h:AS V w) {g o} (hg:w.heap.size≤g):V.cell? ⟨g,o,none⟩=none:=by
 cases hc:V.cell? ⟨g,o,none⟩ with
 |none=>rfl
 |some u=>
  have:=World.block_lt_of_cell? w _ (h _ u hc)
  grind
theorem LN {w:World} {a:Addr} {u:Value} (h:w.cell? a=some u):a=⟨a.block,a.off,none⟩:=by
 have:a.spot=none:=by
  unfold World.cell? at h
  split at h
  ·simp_all
  grind
 cases a; simp_all
def Kn (w:World) (blk base:Nat) (us:List Value):Prop:=
 ∃cs e,w.heap[blk]? =some (.cells cs e (0,0))∧∀j,j<us.length→cs[base+j]? =us[j]?
def Gb (w:World) (vs:List AV) (blk base:Nat) (us:List Value):Prop:=match isMp vs with
 |true=>base=0∧SS w blk us
 |false=>Kn w blk base us
theorem Gb.cells {w} {vs} {blk base} {us} (h:Gb w vs blk base us) (hm:isMp vs=false):Kn w blk base us:=by
 grind [Gb]
theorem Gb.of {w} {vs} {blk base} {us} (h:Kn w blk base us) (hm:isMp vs=false):Gb w vs blk base us:=by
 grind [Gb]
theorem Gb.map {w} {vs} {blk base} {us} (h:Gb w vs blk base us) (hm:isMp vs=true):base=0∧SS w blk us:=by
 grind [Gb]
theorem Gb.ofM {w} {vs} {blk} {us} (h:SS w blk us) (hm:isMp vs=true):Gb w vs blk 0 us:=by
 grind [Gb]
theorem Gb.as {w} {vs vs'} {blk base} {us} (h:Gb w vs blk base us) (hm:isMp vs'=isMp vs):Gb w vs' blk base us:=by
 grind [Gb]
def cQ (w:World) (γ:Gh) (t:Nat) (tk:Tok):Prop:=
 γ.gl t tk.gen∧(∀g,γ.gl t g→g≤tk.gen)∧∀q d,At q (.sl tk.rows) d→isSl d→hdr w (γ.tv t) q=γ.hv t tk.gen q
theorem eN {V w w'} {d} {v} {fp} {q} {d1} (h:Own V w d v fp) (ha:At q d d1) (hs:isSl d1) (hk:∀g ∈ fp,w'.heap[g]? =w.heap[g]?):hdr w' v q=hdr w v q:=
 P2 h ha hs fun g hg o a n c hc=>by
  grind [World.cell?]
theorem cQ.keep {V w w'} {γ} {t} {tk} (h:cQ w γ t tk) {fp} (ho:Own V w (.sl tk.rows) (γ.tv t) fp) (hk:∀g ∈ fp,w'.heap[g]? =w.heap[g]?):cQ w' γ t tk:=
 ⟨h.1,h.2.1,fun q r hq hs=>(eN ho hq hs hk).trans (h.2.2 q r hq hs)⟩
structure VwA (cx:Cx) (γ:Gh) (T:Nat→Option Tok) (B:Nat→Option (List AV)) (w:World):Prop where
 k:AS γ.vw w
 t:∀t tk,γ.tl t→T t=some tk→∀g ∈ γ.tf t,∀o,γ.vw.cell? ⟨g,o,none⟩=none
 b:∀b vs,γ.bl b→B b=some vs→∀o,γ.vw.cell? ⟨γ.bb b,o,none⟩=none
 f:∀a u,γ.vw.cell? a=some u→cx.w0.cell? a=some u∨cx.we.heap.size≤a.block∨cx.LF a.block
structure OSim (cx:Cx) (γ:Gh) (T:Nat→Option Tok) (B:Nat→Option (List AV)) (w:World):Prop where
 frm:Frm cx w
 tok:∀t tk,γ.tl t→T t=some tk→Aj γ.vw w tk (γ.tv t) (γ.tf t)
 tnd:∀t tk,γ.tl t→T t=some tk→(γ.tf t).Nodup
 tds:∀t t' tk tk',t≠t'→γ.tl t→γ.tl t'→T t=some tk→T t'=some tk'→∀g ∈ γ.tf t,g ∉ γ.tf t'
 box:∀b vs,γ.bl b→B b=some vs→∃us,AH γ.vw γ vs us∧Gb w vs (γ.bb b) (γ.bo b) us
 bds:∀b b' vs vs',b≠b'→γ.bl b→γ.bl b'→B b=some vs→B b'=some vs'→γ.bb b≠γ.bb b'
 btd:∀b t vs tk,γ.bl b→γ.tl t→B b=some vs→T t=some tk→γ.bb b ∉ γ.tf t
 tfr:∀t tk,γ.tl t→T t=some tk→∀g ∈ γ.tf t,cx.we.heap.size≤g∨(cx.LF g∧∀x ∈ cx.L,x.1 ≠g)
 bfr:∀b vs,γ.bl b→B b=some vs→(cx.we.heap.size≤γ.bb b)∨(b<1000∧∃x ∈ cx.L,x.1 =γ.bb b∧x.2.1 =γ.bo b∧x.2.2 =vs.length∧∀y ∈ cx.L,y.1 =γ.bb b→y=x)
 hds:∀t tk,γ.tl t→T t=some tk→cQ w γ t tk
 beg:Gh.Ext cx.g0 γ
 vw:VwA cx γ T B w
structure VwOk (w0:World) (γ:Gh) (T:Nat→Option Tok) (B:Nat→Option (List AV)) (w:World):Prop where
 keeps:AS w0 w
 tok:∀t tk,γ.tl t→T t=some tk→Aj w0 w tk (γ.tv t) (γ.tf t)
 box:∀b vs,γ.bl b→B b=some vs→∃us,AH w0 γ vs us∧Gb w vs (γ.bb b) (γ.bo b) us
 hds:∀t tk,γ.tl t→T t=some tk→cQ w γ t tk
theorem Zh {cx} {γ} {T} {B} {w} (h:OSim cx γ T B w):Amb cx.P w:=
 eO cx.amb fun k hk=>h.frm.block k (Nat.lt_of_lt_of_le hk cx.lowe) (fun hl=>absurd (cx.low k (.inl hl)) (by omega)) (fun x hx e=>absurd (cx.low k (.inr ⟨x,hx,e⟩)) (by omega))
theorem OSim.see {cx} {γ} {T} {B} {w} (h:OSim cx γ T B w):VwOk γ.vw γ T B w:=⟨h.vw.k,h.tok,h.box,h.hds⟩
theorem Kn.lt {w} {blk base} {us} (h:Kn w blk base us):blk<w.heap.size:=by
 obtain⟨cs,e,h1,-⟩:=h
 grind
theorem Kn.keep {w w'} {blk base} {us} (h:Kn w blk base us) (hk:w'.heap[blk]? =w.heap[blk]?):Kn w' blk base us:=by
 obtain⟨cs,e,h1,h2⟩:=h
 exact⟨cs,e,hk.trans h1,h2⟩
theorem SS.lt {w} {blk} {us} (h:SS w blk us):blk<w.heap.size:=by
 obtain⟨es,k,h1,-⟩:=h
 grind
theorem SS.keep {w w'} {blk} {us} (h:SS w blk us) (hk:w'.heap[blk]? =w.heap[blk]?):SS w' blk us:=by
 obtain⟨es,k,h1,h2⟩:=h
 exact⟨es,k,hk.trans h1,h2⟩
theorem Gb.lt {w} {vs} {blk base} {us} (h:Gb w vs blk base us):blk<w.heap.size:=by
 unfold Gb at h
 split at h
 ·exact h.2.lt
 ·exact h.lt
theorem Gb.keep {w w'} {vs} {blk base} {us} (h:Gb w vs blk base us) (hk:w'.heap[blk]? =w.heap[blk]?):Gb w' vs blk base us:=by
 unfold Gb at h ⊢
 split
 ·rename_i hm; rw [hm] at h; exact⟨h.1,h.2.keep hk⟩
 ·rename_i hm; rw [hm] at h; exact Kn.keep h hk
theorem Kn.cell {w} {blk base} {us} (h:Kn w blk base us) {j} {u} (hj:us[j]? =some u):w.cell? ⟨blk,base+j,none⟩=some u:=by
 obtain⟨cs,e,h1,h2⟩:=h
 grind [World.cell?]
theorem Kn.set {w} {blk base} {us} (h:Kn w blk base us) {j} (hj:j<us.length) (v:Value):Kn (w.setCell ⟨blk,base+j,none⟩ v) blk base (us.set j v):=by
 have hlt:=h.lt
 obtain⟨cs,e,h1,h2⟩:=h
 have hw:w.heap[blk] = .cells cs e (0,0):=by grind
 refine⟨cs.setIfInBounds (base+j) v,e,?_,fun i hi=>?_⟩
 ·show (w.heap.modify blk _)[blk]? =_
  rw [Array.getElem?_eq_getElem (by grind),Array.getElem_modify_self,hw]
  simp
 grind
theorem Frm.below {cx} {w w'} (h:Frm cx w) (hb:Below w.heap.size w w'):Frm cx w':=by
 refine⟨W0 h.sh hb,hb.os.trans h.os,hb.tape.trans h.tape,hb.output.trans h.output,Nat.le_trans h.size hb.size,fun k hk h1 h2=>?_,fun x hx=>?_⟩
 ·rw [hb.block k (Nat.lt_of_lt_of_le hk h.size)]; exact h.block k hk h1 h2
 ·exact(h.lent x hx).keep (hb.block _ (h.lent x hx).lt)
theorem OSim.below {cx} {γ} {T} {B} {w w'} (h:OSim cx γ T B w) (hb:Below w.heap.size w w'):OSim cx γ T B w' where
 frm:=h.frm.below hb
 tok t tk h1 h2:=(h.tok t tk h1 h2).keep fun g hg=>hb.block g ((h.tok t tk h1 h2).lt g hg)
 tnd:=h.tnd
 tds:=h.tds
 box b vs h1 h2:=by
  obtain⟨us,h3,h4⟩:=h.box b vs h1 h2
  exact⟨us,h3,h4.keep (hb.block _ h4.lt)⟩
 bds:=h.bds
 btd:=h.btd
 tfr:=h.tfr
 bfr:=h.bfr
 hds t tk h1 h2:=(h.hds t tk h1 h2).keep (h.tok t tk h1 h2).own fun g hg=>hb.block g ((h.tok t tk h1 h2).lt g hg)
 beg:=h.beg
 vw:=⟨h.vw.k.trans (AS.of_below hb),h.vw.t,h.vw.b,h.vw.f⟩
theorem OSim.tables {cx} {γ} {T T'} {B B'} {w} (h:OSim cx γ T B w)
  (hT:∀t tk,γ.tl t→T' t=some tk→T t=some tk) (hB:∀b vs,γ.bl b→B' b=some vs→B b=some vs):OSim cx γ T' B' w where
 frm:=h.frm
 tok t tk h1 h2:=h.tok t tk h1 (hT t tk h1 h2)
 tnd t tk h1 h2:=h.tnd t tk h1 (hT t tk h1 h2)
 tds t t' tk tk' hn h1 h2 h3 h4:=h.tds t t' tk tk' hn h1 h2 (hT t tk h1 h3) (hT t' tk' h2 h4)
 box b vs h1 h2:=h.box b vs h1 (hB b vs h1 h2)
 bds b b' vs vs' hn h1 h2 h3 h4:=h.bds b b' vs vs' hn h1 h2 (hB b vs h1 h3) (hB b' vs' h2 h4)
 btd b t vs tk h1 h2 h3 h4:=h.btd b t vs tk h1 h2 (hB b vs h1 h3) (hT t tk h2 h4)
 tfr t tk h1 h2:=h.tfr t tk h1 (hT t tk h1 h2)
 bfr b vs h1 h2:=h.bfr b vs h1 (hB b vs h1 h2)
 hds t tk h1 h2:=h.hds t tk h1 (hT t tk h1 h2)
 beg:=h.beg
 vw:=⟨h.vw.k,fun t tk h1 h2=>h.vw.t t tk h1 (hT t tk h1 h2),fun b vs h1 h2=>h.vw.b b vs h1 (hB b vs h1 h2),h.vw.f⟩
theorem OSim.ext {cx:Cx} {γ γ':Gh} (he:Gh.Ext γ γ') {vs:List AV} {us:List Value} (h:AH γ.vw γ vs us):AH γ'.vw γ' vs us:=AH.mono he.vw he h
def Gh.box (γ:Gh) (b blk:Nat):Gh:= {γ with bl:=fun x=>γ.bl x∨x=b,bb:=fun x=>if x=b then blk else γ.bb x,bo:=fun x=>if x=b then 0 else γ.bo x}
theorem Gh.box_ext {γ} {b blk} (hn:¬γ.bl b):Gh.Ext γ (γ.box b blk):=
 ⟨fun _ h=>h,fun _ _=>rfl,fun _ h=>.inl h,fun x h=>by show (if x=b then _ else _)=_; rw [if_neg (by grind)],fun x h=>by show (if x=b then _ else _)=_; rw [if_neg (by grind)],fun _ _ _ h=>h,fun _ _ _ _=>rfl,AS.refl _⟩
theorem OSim.newObj {cx} {γ} {T} {B} {w} (h:OSim cx γ T B w) {b} (hn:¬γ.bl b) {vs} (hB:B b=some vs) {us} (hv:AH γ.vw γ vs us) (o:Obj) (hbx:Gb (w.alloc o) vs w.heap.size 0 us):
  OSim cx (γ.box b w.heap.size) T B (w.alloc o):=by
 have hbel:Below w.heap.size w (w.alloc o):=(Below.refl _ _).alloc (Nat.le_refl _) _
 have he:=Gh.box_ext (blk:=w.heap.size) hn
 have h':=h.below hbel
 have hbb:∀x,(γ.box b w.heap.size).bb x=if x=b then w.heap.size else γ.bb x:=fun _=>rfl
 have hbo:∀x,(γ.box b w.heap.size).bo x=if x=b then 0 else γ.bo x:=fun _=>rfl
 have hlt:∀x vs,γ.bl x→B x=some vs→γ.bb x<w.heap.size:=fun x vs h1 h2=>by
  obtain⟨us,-,h3⟩:=h.box x vs h1 h2
  exact h3.lt
 refine⟨h'.frm,h'.tok,h'.tnd,h'.tds,?_,?_,?_,h'.tfr,?_,h'.hds,h'.beg.trans he,⟨h'.vw.k,h'.vw.t,fun x ws h1 h2 o=>?_,h'.vw.f⟩⟩
 ·intro x ws h1 h2
  by_cases hx:x=b
  ·subst hx
   rw [hB] at h2; cases h2
   refine⟨us,AH.mono (AS.refl _) he hv,?_⟩
   rw [hbb,hbo,if_pos rfl,if_pos rfl]
   omega
  ·have h1':γ.bl x:=h1.resolve_right hx
   obtain⟨us',h3,h4⟩:=h'.box x ws h1' h2
   refine⟨us',AH.mono (AS.refl _) he h3,?_⟩
   rw [hbb,hbo,if_neg hx,if_neg hx]; exact h4
 ·intro x y ws ws' hxy h1 h2 h3 h4
  rw [hbb,hbb]
  by_cases hx:x=b
  ·subst hx
   have h2':γ.bl y:=h2.resolve_right (fun e=>hxy e.symm)
   rw [if_pos rfl,if_neg (fun e=>hxy e.symm)]
   grind
  ·have h1':γ.bl x:=h1.resolve_right hx
   rw [if_neg hx]
   by_cases hy:y=b
   ·rw [if_pos hy]; grind
   ·rw [if_neg hy]; exact h.bds x y ws ws' hxy h1' (h2.resolve_right hy) h3 h4
 ·intro x t ws tk h1 h2 h3 h4
  rw [hbb]
  by_cases hx:x=b
  ·rw [if_pos hx]
   intro hm
   have:=(h.tok t tk h2 h4).lt _ hm; omega
  ·rw [if_neg hx]; exact h.btd x t ws tk (h1.resolve_right hx) h2 h3 h4
 ·intro x ws h1 h2
  rw [hbb,hbo]
  by_cases hx:x=b
  ·rw [if_pos hx]; exact .inl h.frm.size
  ·rw [if_neg hx,if_neg hx]; exact h.bfr x ws (h1.resolve_right hx) h2
 ·rw [hbb]
  by_cases hx:x=b
  ·rw [if_pos hx]; exact W1 h.vw.k (Nat.le_refl _)
  ·rw [if_neg hx]; exact h.vw.b x ws (h1.resolve_right hx) h2 o
theorem OSim.newBox {cx} {γ} {T} {B} {w} (h:OSim cx γ T B w) {b} (hn:¬γ.bl b) {vs} (hB:B b=some vs) (hm:isMp vs=false) {us} (hv:AH γ.vw γ vs us) (e:TypeId):
  OSim cx (γ.box b w.heap.size) T B (w.alloc (.cells us.toArray e)):=
 h.newObj hn hB hv _ (Gb.of ⟨us.toArray,e,heap_alloc_new w _,fun j hj=>by simp⟩ hm)
theorem OSim.newMap {cx} {γ} {T} {B} {w} (h:OSim cx γ T B w) {b} (hn:¬γ.bl b) {q} (hB:B b=some [.mpc q []]):
  OSim cx (γ.box b w.heap.size) T B (w.alloc (.map #[] 0)):=
 h.newObj hn hB (us:=[Tm []]) (by simp only [AH,VSim]; exact⟨_,[],rfl,⟨Nat.zero_le _,[],rfl,rfl⟩,rfl⟩) _ (Gb.ofM ⟨#[],0,(MapKept.heap_alloc w _).1,rfl,MapKept.stamped_empty 0⟩ rfl)
def Gh.toks (γ:Gh) (w:World) (ids:List Nat) (tv:Nat→Value) (tf:Nat→List Nat):Gh:= {γ with tl:=fun x=>γ.tl x∨x ∈ ids,tv:=fun x=>if x ∈ ids then tv x else γ.tv x,tf:=fun x=>if x ∈ ids then tf x else γ.tf x,gl:=fun x g=>if x ∈ ids then g=0 else γ.gl x g,hv:=fun x g=>if x ∈ ids then hdr w (tv x) else γ.hv x g}
theorem Gh.toks_ext {γ} {w} {ids} {tv} {tf} (hn:∀t ∈ ids,¬γ.tl t):Gh.Ext γ (γ.toks w ids tv tf):=
 ⟨fun _ h=>.inl h,fun x h=>by show (if x ∈ ids then _ else _)=_; rw [if_neg (fun e=>hn x e h)],fun _ h=>h,fun _ _=>rfl,fun _ _=>rfl,fun x g h k=>by show (if x ∈ ids then _ else _); rw [if_neg (fun e=>hn x e h)]; exact k,fun x g h k=>by show (if x ∈ ids then _ else _)=_; rw [if_neg (fun e=>hn x e h)],AS.refl _⟩
theorem OSim.newToks {cx} {γ} {T} {B} {w w'} (h:OSim cx γ T B w) (hb:Below w.heap.size w w') {ids} (hn:∀t ∈ ids,¬γ.tl t) {tv} {tf}
  (hok:∀t ∈ ids,∀tk,T t=some tk→(Aj γ.vw w' tk (tv t) (tf t)∧(tf t).Nodup ∧∀g ∈ tf t,w.heap.size≤g)∧tk.gen=0) (hd:∀t ∈ ids,∀t' ∈ ids,t≠t'→∀g ∈ tf t,g ∉ tf t'):
  OSim cx (γ.toks w' ids tv tf) T B w':=by
 have he:=Gh.toks_ext (w:=w') (tv:=tv) (tf:=tf) hn
 have h':=h.below hb
 have htv:∀x,(γ.toks w' ids tv tf).tv x=if x ∈ ids then tv x else γ.tv x:=fun _=>rfl
 have htf:∀x,(γ.toks w' ids tv tf).tf x=if x ∈ ids then tf x else γ.tf x:=fun _=>rfl
 refine⟨h'.frm,?_,?_,?_,?_,h'.bds,?_,?_,h'.bfr,?_,h'.beg.trans he,⟨h'.vw.k,?_,h'.vw.b,h'.vw.f⟩⟩
 ·intro t tk h1 h2
  rw [htv,htf]
  by_cases hx:t ∈ ids
  ·rw [if_pos hx,if_pos hx]; exact(hok t hx tk h2).1.1
  ·rw [if_neg hx,if_neg hx]; exact h'.tok t tk (h1.resolve_right hx) h2
 ·intro t tk h1 h2
  rw [htf]
  by_cases hx:t ∈ ids
  ·rw [if_pos hx]; grind
  ·rw [if_neg hx]; exact h.tnd t tk (h1.resolve_right hx) h2
 ·intro t t' tk tk' hne h1 h2 h3 h4 g hg
  rw [htf] at hg ⊢
  by_cases hx:t ∈ ids
  ·rw [if_pos hx] at hg
   by_cases hy:t' ∈ ids
   ·rw [if_pos hy]; grind
   ·rw [if_neg hy]
    intro hm
    have h5:=(h.tok t' tk' (h2.resolve_right hy) h4).lt _ hm
    grind
  ·rw [if_neg hx] at hg
   by_cases hy:t' ∈ ids
   ·rw [if_pos hy]
    intro hm
    have h5:=(h.tok t tk (h1.resolve_right hx) h3).lt _ hg
    grind
   ·rw [if_neg hy]; exact h.tds t t' tk tk' hne (h1.resolve_right hx) (h2.resolve_right hy) h3 h4 g hg
 ·intro b vs h1 h2
  obtain⟨us,h3,h4⟩:=h'.box b vs h1 h2
  exact⟨us,AH.mono (AS.refl _) he h3,h4⟩
 ·intro b t vs tk h1 h2 h3 h4
  rw [htf]
  by_cases hx:t ∈ ids
  ·rw [if_pos hx]
   intro hm
   obtain⟨us,-,h5⟩:=h.box b vs h1 h3
   have h6:=(hok t hx tk h4).1.2.2 _ hm
   have h7:=h5.lt
   show False
   have h8:(γ.toks w' ids tv tf).bb b=γ.bb b:=rfl
   omega
  ·rw [if_neg hx]; exact h.btd b t vs tk h1 (h2.resolve_right hx) h3 h4
 ·intro t tk h1 h2
  rw [htf]
  by_cases hx:t ∈ ids
  ·rw [if_pos hx]; exact fun g hg=>.inl (Nat.le_trans h.frm.size ((hok t hx tk h2).1.2.2 g hg))
  ·rw [if_neg hx]; exact h.tfr t tk (h1.resolve_right hx) h2
 ·intro t tk h1 h2
  by_cases hx:t ∈ ids
  ·have e1:∀g,(γ.toks w' ids tv tf).gl t g=(g=0):=fun g=>by show (if t ∈ ids then _ else _)=_; rw [if_pos hx]
   have e2:∀g,(γ.toks w' ids tv tf).hv t g=hdr w' (tv t):=fun g=>by show (if t ∈ ids then _ else _)=_; rw [if_pos hx]
   have e3:(γ.toks w' ids tv tf).tv t=tv t:=by rw [htv,if_pos hx]
   have e0:=(hok t hx tk h2).2
   exact⟨by rw [e1]; exact e0,fun g hg=>by rw [e1] at hg; omega,fun q r hq hs=>by rw [e2,e3]⟩
  ·have e1:∀g,(γ.toks w' ids tv tf).gl t g=γ.gl t g:=fun g=>by show (if t ∈ ids then _ else _)=_; rw [if_neg hx]
   have e2:∀g,(γ.toks w' ids tv tf).hv t g=γ.hv t g:=fun g=>by show (if t ∈ ids then _ else _)=_; rw [if_neg hx]
   have e3:(γ.toks w' ids tv tf).tv t=γ.tv t:=by rw [htv,if_neg hx]
   have hh:=h'.hds t tk (h1.resolve_right hx) h2
   exact⟨by rw [e1]; exact hh.1,fun g hg=>by rw [e1] at hg; exact hh.2.1 g hg,fun q r hq hs=>by rw [e2,e3]; exact hh.2.2 q r hq hs⟩
 ·intro t tk h1 h2
  rw [htf]
  by_cases hx:t ∈ ids
  ·rw [if_pos hx]; exact fun g hg o=>W1 h.vw.k ((hok t hx tk h2).1.2.2 g hg)
  ·rw [if_neg hx]; exact h.vw.t t tk (h1.resolve_right hx) h2
end Go.Proofs.YtclmbjbbojdojaaGreat.Ab
namespace Go.Proofs.YtclmbjbbojdojaaGreat.Ab
set_option linter.unusedVariables false
set_option maxHeartbeats 1000000
open Go.RowKit
inductive TI where
 |int (k:IntKind)|bool|str|sl (e:TypeId)|st (fs:List (Nat × TypeId))|arr (n:Nat) (e:TypeId)|ptr (e:TypeId)|map (k e:TypeId)|fn|other
def ti (P:Program) (t:TypeId):TI:=
 match P.underlying t with
 |some (.int k)=>.int k
 |some .bool =>.bool
 |some .string =>.str
 |some (.slice e)=>.sl e
 |some (.struct fs)=>.st (fs.toList.map fun f=>(f.offset,f.type))
 |some (.array n e)=>.arr n e
 |some (.pointer e)=>.ptr e
 |some (.map k e)=>.map k e
 |some (.func _ _ _)=>.fn
 |_=>.other
def tsz (P:Program) (t:TypeId):Nat:=((P.info? t).map (·.size)).getD 0
def TI.isAgg:TI→Bool
 | .st _| .arr _ _=>true
 |_=>false
def TI.sc:TI→Bool
 | .int _| .bool | .str | .sl _| .ptr _| .map _ _| .fn =>true
 |_=>false
def tz (P:Program) (t:TypeId):List Value:=(((P.info? t).bind (·.zero)).map fun v=>v.cells.toList).getD []
def tz1 (P:Program) (t:TypeId):Option Value:=(P.info? t).bind (·.zero)
inductive RV where
 |int (k:IntKind) (n:Int)
 |bool (b:Bool)
 |str (s:ByteArray)
 |ow (ap:Option Nat) (rows:List (List D))
 |ro (rows:List (List D))
 |agg (vs:List RV)
 |tup (vs:List RV)
 |nilp
mutual
def RSim (w:World):RV→Value→List Nat→Prop
 | .int k n,v,fp=>v= .int k n∧(Lit.int k n).wf =true∧fp=[]
 | .bool b,v,fp=>v= .bool b∧fp=[]
 | .str s,v,fp=>v= .string s∧s.size≤maxLen∧fp=[]
 | .ow ap rows,v,fp=>Aj default w ⟨rows,ap,0,.no⟩ v fp
 | .ro rows,v,fp=>Rep w (.sl rows) v∧fp=[]
 | .agg vs,v,fp=>∃us:List Value,v= .agg us.toArray∧P3 w vs us fp
 | .tup vs,v,fp=>∃us:List Value,v= .tuple us.toArray∧P3 w vs us fp
 | .nilp,v,fp=>v= .pointer none∧fp=[]
def P3 (w:World):List RV→List Value→List Nat→Prop
 | [],us,fp=>us=[] ∧fp=[]
 |r::rs,us,fp=>∃u us' f1 f2,us=u::us'∧RSim w r u f1∧P3 w rs us' f2∧fp=f1++f2
end
def HD (P:Program) (f:FuncId):Bool:=(P.funcs[f]?).any fun fn=>fn.body.isSome&& !(fn.name == "runtime.NumGoroutine")
def AC (P:Program) (f:FuncId) (args:List AV) (r:RV):Prop:=
 HD P f=true∧∀ (w:World) (us:List Value),w.ShapedOpen P→P.low≤w.heap.size→Amb P w→AH w Gh.none args us→
  Calls P f us.toArray w (fun e w'=>∃v fp,e= .returned v∧RSim w' r v fp∧fp.Nodup∧(∀g ∈ fp,w.heap.size≤g)∧Below w.heap.size w w')
def look {α:Type}:List (Nat × α)→Nat→Option α
 | [],_=>none
 |(j,x)::r,i=>if i=j then some x else look r i
structure St where
 s:List (Nat × AV)
 t:List (Nat × Option Tok)
 b:List (Nat × Option (List AV))
def St.T (σ:St) (t:Nat):Option Tok:=(look σ.t t).join
def St.B (σ:St) (b:Nat):Option (List AV):=(look σ.b b).join
def St.g (σ:St) (i:Nat):AV:=(look σ.s i).getD .any
mutual
def Bd:Value→AV
 | .int k n=>.int k n
 | .bool b=>.bool b
 | .string s=>.str s
 | .slice none 0 0=>.nils
 | .pointer none=>.nilp
 | .agg cs=>.agg (I2 cs.toList)
 |_=>.any
def I2:List Value→List AV
 | [] =>[]
 |v::vs=>Bd v::I2 vs
end
def St.e (σ:St):Operand→AV
 | .tmp t=>σ.g t
 | .const v=>Bd v
 | .func f=>.fn f []
 | .global _=>.any
def St.put (σ:St) (dst:Option Tmp) (v:AV):St:=
 match dst with
 |some d=> {σ with s:=(d,v)::σ.s}
 |none=>σ
mutual
def ofD:D→AV
 | .int k n=>.int k n
 | .bool b=>.bool b
 | .str s=>.str s
 | .sl rows=>.ro rows
 | .gone =>.any
 | .fz rows=>.ro rows
 | .ptr ds=>.rop (Tn ds) 0
 | .nilp =>.nilp
 | .nl =>.ro []
def Tn:List D→List AV
 | [] =>[]
 |d::ds=>ofD d::Tn ds
end
theorem a7:∀ds:List D,Tn ds=ds.map ofD
 | [] =>by rfl
 |d::ds=>by simp only [Tn,List.map_cons,a7 ds]
def ofS:D→AV
 | .int k n=>.int k n
 | .bool b=>.bool b
 | .str s=>.str s
 | .sl _=>.any
 | .gone =>.any
 | .fz rows=>.ro rows
 | .ptr ds=>.rop (Tn ds) 0
 | .nilp =>.nilp
 | .nl =>.any
def ofT (t g:Nat) (p:Pth) (sz i j:Nat):D→AV
 | .int k n=>.int k n
 | .bool b=>.bool b
 | .str s=>.str s
 | .sl _=>.sub t g (p++[(sz,i,j)])
 | .gone =>.any
 | .fz rows=>.ro rows
 | .ptr ds=>.rop (Tn ds) 0
 | .nilp =>.nilp
 | .nl =>.sub t g (p++[(sz,i,j)])
def X1 (t g:Nat) (p:Pth) (sz i:Nat):Nat→List D→List AV
 |_,[] =>[]
 |j,d::ds=>ofT t g p sz i j d::X1 t g p sz i (j+1) ds
def Ow (t g:Nat) (p:Pth) (sz i:Nat) (ds:List D) (off n:Nat):List AV:=X1 t g p sz i off ((ds.drop off).take n)
def getP:Pth→List (List D)→Option (List (List D))
 | [],rows=>some rows
 | (sz,i,j)::p,rows=>match rows[i]? with
  |some row=>if row.length=sz then (match row[j]?.bind Ie with
   |some r1=>getP p r1
   |none=>none) else none
  |none=>none
def subR (T:Nat→Option Tok) (t g:Nat) (p:Pth):Option (List (List D)):=
 match T t with
 |some tk=>if tk.gen=g then getP p tk.rows else none
 |none=>none
def zer (z:ZK) (r:List (List D)):List (List D):=match z with
 | .yes =>erR r
 | .no =>r
 | .nl =>erR r
def Tok.er (tk:Tok) (r:List (List D)):List (List D):=zer tk.z r
def Tok.rd (tk:Tok):List (List D):=zer tk.z tk.rows
def subE (T:Nat→Option Tok) (t g:Nat) (p:Pth):Option (List (List D)):=
 match T t with
 |some tk=>if tk.gen=g then (getP p tk.rows).map tk.er else none
 |none=>none
def GS (vs:List AV) (off n:Nat):List AV:=(vs.drop off).take n
mutual
def unD:AV→Option D
 | .int k n=>some (.int k n)
 | .bool b=>some (.bool b)
 | .str s=>some (.str s)
 | .ro rows=>some (.sl rows)
 | .nilp =>some .nilp
 | .rop vs off=>match off with
  |0=>(unDs vs).map .ptr
  |_+1=>none
 |_=>none
def unDs:List AV→Option (List D)
 | [] =>some []
 |v::vs=>match unD v,unDs vs with
  |some d,some ds=>some (d::ds)
  |_,_=>none
end
def toD (T:Nat→Option Tok):AV→Option D
 | .int k n=>some (.int k n)
 | .bool b=>some (.bool b)
 | .str s=>some (.str s)
 | .ro rows=>some (.sl rows)
 | .nils =>some (.sl [])
 | .own t=>(T t).map fun tk=>.sl tk.rd
 | .nilp =>some .nilp
 | .rop vs off=>unD (.rop vs off)
 |_=>none
def toDs (T:Nat→Option Tok):List AV→Option (List D)
 | [] =>some []
 |a::as=>match toD T a,toDs T as with
  |some d,some ds=>some (d::ds)
  |_,_=>none
mutual
def Gc:AV→Bool
 | .int _ _| .bool _| .str _| .ro _| .nilp =>true
 | .rop vs _| .fn _ vs| .agg vs=>E6 vs
 |_=>false
def E6:List AV→Bool
 | [] =>true
 |v::vs=>Gc v&&E6 vs
end
def BR (sz:Nat):Nat→List D→List (List D)
 |0,_=>[]
 |n+1,ds=>ds.take sz::BR sz n (ds.drop sz)
def toA (T:Nat→Option Tok) (B:Nat→Option (List AV)):AV→Option AV
 | .own t=>(T t).map fun tk=>.ro tk.rd
 | .nils =>some (.ro [])
 | .int k n=>some (.int k n)
 | .bool b=>some (.bool b)
 | .str s=>some (.str s)
 | .ro rows=>some (.ro rows)
 | .nilp =>some .nilp
 | .rop vs off=>if E6 vs=true then some (.rop vs off) else none
 | .fn f vs=>if E6 vs=true then some (.fn f vs) else none
 | .mpr _=>some .any
 | .sub t g p=>(subE T t g p).map .ro
 | .bsl b n sz=>match B b with
  |some vs=>match toDs T vs with
   |some ds=>if ds.length=n*sz then some (.ro (BR sz n ds)) else none
   |none=>none
  |none=>none
 |_=>none
def toAs (T:Nat→Option Tok) (B:Nat→Option (List AV)):List AV→Option (List AV)
 | [] =>some []
 |a::as=>match toA T B a,toAs T B as with
  |some d,some ds=>some (d::ds)
  |_,_=>none
def parR (sz i n:Nat) (rows:List (List D)):Option (List (List D)):=if (∀row ∈ rows,row.length=sz)∧i+n≤rows.length then some ((rows.drop i).take n) else none
mutual
def cl (T:Nat→Option Tok) (B:Nat→Option (List AV)):AV→Option AV
 | .int k n=>some (.int k n)
 | .bool b=>some (.bool b)
 | .str s=>some (.str s)
 | .ro rows=>some (.ro rows)
 | .nils =>some (.ro [])
 | .nilp =>some .nilp
 | .own t=>(T t).map fun tk=>.ro tk.rd
 | .rop vs off=>(cls T B vs).map fun vs=>.rop vs off
 | .box b off=>match B b with
  |some vs=>(toAs T B vs).map fun ds=>.rop ds off
  |none=>none
 | .elt t sz i off=>match T t with
  |some tk=>match tk.rows[i]? with
   |some row=>if row.length=sz then some (.rop (row.map ofD) off) else none
   |none=>none
  |none=>none
 | .sub t g p=>(subE T t g p).map .ro
 | .par t sz i n=>match T t with
  |some tk=>(parR sz i n tk.rows).map fun r=>.ro (tk.er r)
  |none=>none
 | .els t g p sz i off=>match subR T t g p with
  |some rows=>match rows[i]? with
   |some row=>if row.length=sz then some (.rop (row.map ofD) off) else none
   |none=>none
  |none=>none
 | .bsl b n sz=>match B b with
  |some vs=>match toDs T vs with
   |some ds=>if ds.length=n*sz then some (.ro (BR sz n ds)) else none
   |none=>none
  |none=>none
 | .agg vs=>(cls T B vs).map .agg
 | .fn f caps=>(cls T B caps).map (.fn f)
 | .tup _=>none
 | .any =>none
 | .mpr _=>some .any
 | .mpc q rows=>some (.mpc q rows)
def cls (T:Nat→Option Tok) (B:Nat→Option (List AV)):List AV→Option (List AV)
 | [] =>some []
 |a::as=>match cl T B a,cls T B as with
  |some x,some xs=>some (x::xs)
  |_,_=>none
end
structure Res where
 v:AV
 t:List (Nat × Tok)
 b:List (Nat × List AV)
mutual
def conv (n:Nat):RV→AV × List (Nat × Tok)
 | .int k x=>(.int k x,[])
 | .bool b=>(.bool b,[])
 | .str s=>(.str s,[])
 | .ow ap rows=>(.own n,[(n,⟨rows,ap,0,.no⟩)])
 | .ro rows=>(.any,[])
 | .agg vs=>let r:=H1 n vs; (.agg r.1,r.2)
 | .tup vs=>let r:=H1 n vs; (.tup r.1,r.2)
 | .nilp =>(.nilp,[])
def H1 (n:Nat):List RV→List AV × List (Nat × Tok)
 | [] =>([],[])
 |r::rs=>let x:=conv n r; let y:=H1 (n+x.2.length) rs; (x.1 ::y.1,x.2 ++y.2)
end
def MR (op:BinOp) (k:IntKind) (a b:Int):Option AV:=
 match op with
 | .add =>some (.int k (k.wrap (a+b)))
 | .sub =>some (.int k (k.wrap (a - b)))
 | .mul =>some (.int k (k.wrap (a*b)))
 | .eql =>some (.bool (decide (a=b)))
 | .neq =>some (.bool (!decide (a=b)))
 | .lss =>some (.bool (decide (a<b)))
 | .leq =>some (.bool (decide (a≤b)))
 | .gtr =>some (.bool (decide (b<a)))
 | .geq =>some (.bool (decide (b≤a)))
 |_=>none
inductive KK where
 |int (k:IntKind)
 |bool
 |str
def P4 (P:Program) (rec:TypeId→Option (List KK)):Nat→List Field→Option (List KK)
 |_,[] =>some []
 | i,f::fs=>
  if f.offset=i then
   match rec f.type,P4 P rec (i+P.cellsOf f.type) fs with
   |some a,some b=>some (a++b)
   |_,_=>none
  else none
def K5 (P:Program):Nat→TypeId→Option (List KK)
 |0,_=>none
 | d+1,t=>
  match (match P.underlying t with
   |some .bool =>some [KK.bool]
   |some (.int k)=>some [KK.int k]
   |some .string =>some [KK.str]
   |some (.struct fs)=>if fs.all (·.name != "_")=true then P4 P (K5 P d) 0 fs.toList else none
   |_=>none) with
  |some ks=>if P.cellsOf t=ks.length then some ks else none
  |none=>none
def Eo (P:Program) (t:TypeId):Option (List KK):=
 match P.underlying t with
 |some (.struct _)=>if P.keyTypeAt 4 t=true∧P.eqGuardType P.depth t=false then K5 P 4 t else none
 |_=>none
def Dm:List KK→List AV→List AV→Option Bool
 | [],[],[] =>some true
 | .int k::ks,.int k1 a::xs,.int k2 b::ys=>if k1=k∧k2=k then (Dm ks xs ys).map (decide (a=b)&& ·) else none
 | .bool ::ks,.bool a::xs,.bool b::ys=>(Dm ks xs ys).map (a == b&& ·)
 | .str ::ks,.str a::xs,.str b::ys=>(Dm ks xs ys).map (a.toList == b.toList&& ·)
 |_,_,_=>none
def Bin (P:Program) (op:BinOp) (t:TypeId) (x y:AV) (v:AV):Prop:=
 match x,y with
 | .agg xs,.agg ys=>∃ks b,Eo P t=some ks∧Dm ks xs ys=some b∧match op with
  | .eql =>v= .bool b
  | .neq =>v= .bool (!b)
  |_=>False
 | .int k a,.int k' b=>match op with
  | .shl =>0≤b∧v= .int k (k.wrap (a*2 ^ min b.toNat k.bits))
  | .shr =>0≤b∧v= .int k (a / 2 ^ min b.toNat k.bits)
  | .and =>k=k'∧v= .int k (bits .and k a b)
  | .or =>k=k'∧v= .int k (bits .or k a b)
  | .xor =>k=k'∧v= .int k (bits .xor k a b)
  | .andNot =>k=k'∧v= .int k (bits .andNot k a b)
  | .quo =>k=k'∧b≠0∧v= .int k (k.wrap (a.tdiv b))
  | .rem =>k=k'∧b≠0∧v= .int k (a.tmod b)
  |_=>k=k'∧MR op k a b=some v
 | .bool a,.bool b=>match op,ti P t with
  | .eql,.bool =>v= .bool (a == b)
  | .neq,.bool =>v= .bool (!(a == b))
  |_,_=>False
 | .str a,.str b=>match op with
  | .eql =>v= .bool (a.toList == b.toList)
  | .neq =>v= .bool (!(a.toList == b.toList))
  | .add =>a.size+b.size≤maxLen∧v= .str (a++b)
  |_=>False
 | .nilp,.nilp =>match op,ti P t with
  | .eql,.ptr _=>v= .bool true
  | .neq,.ptr _=>v= .bool false
  |_,_=>False
 | .box _ _,.nilp | .rop _ _,.nilp | .nilp,.box _ _| .nilp,.rop _ _=>match op,ti P t with
  | .eql,.ptr _=>v= .bool false
  | .neq,.ptr _=>v= .bool true
  |_,_=>False
 |_,_=>False
def Uno (op:UnOp) (x:AV) (v:AV):Prop:=
 match op,x with
 | .not,.bool b=>v= .bool (!b)
 | .neg,.int k n=>v= .int k (k.wrap (0 - n))
 | .xor,.int k n=>v= .int k (bits .xor k (if k.signed then -1 else k.max) n)
 |_,_=>False
def To (P:Program) (T:Nat→Option Tok) (B:Nat→Option (List AV)) (t:TypeId) (x:AV) (v:AV):Prop:=
 match ti P t,x with
 | .str,.str s=>v= .int .i64 s.size
 | .sl _,.ro rows=>v= .int .i64 rows.length
 | .sl _,.nils =>v= .int .i64 0
 | .sl _,.bsl _ n _=>v= .int .i64 n
 | .sl _,.own t=>∃tk,T t=some tk∧v= .int .i64 tk.rows.length
 | .sl _,.sub t g p=>∃rows,subR T t g p=some rows∧v= .int .i64 rows.length
 | .map _ _,.mpr b=>∃q rows,B b=some [.mpc q rows] ∧v= .int .i64 rows.length
 |_,_=>False
def fOff (P:Program) (s:TypeId) (f:Nat):Option (Nat × TypeId):=
 match ti P s with
 | .st fs=>fs[f]?
 |_=>none
def Jx (P:Program) (T:Nat→Option Tok) (B:Nat→Option (List AV)) (t:TypeId) (a v:AV):Prop:=
 match a with
 | .box b off=>∃vs,B b=some vs∧isMp vs=false∧if (ti P t).isAgg =true then off+tsz P t≤vs.length∧v= .agg (GS vs off (tsz P t)) else (ti P t).sc =true∧vs[off]? =some v
 | .rop vs off=>if (ti P t).isAgg =true then off+tsz P t≤vs.length∧v= .agg (GS vs off (tsz P t)) else (ti P t).sc =true∧vs[off]? =some v
 | .elt t' sz i off=>∃tk row,T t'=some tk∧tk.rows[i]? =some row∧row.length=sz∧if (ti P t).isAgg =true then off+tsz P t≤sz∧v= .agg (Ow t' tk.gen [] sz i row off (tsz P t)) else (ti P t).sc =true∧∃d,row[off]? =some d∧v=ofT t' tk.gen [] sz i off d
 | .els t' g p sz i off=>∃rows row,subR T t' g p=some rows∧rows[i]? =some row∧row.length=sz∧if (ti P t).isAgg =true then off+tsz P t≤sz∧v= .agg (Ow t' g p sz i row off (tsz P t)) else (ti P t).sc =true∧∃d,row[off]? =some d∧v=ofT t' g p sz i off d
 |_=>False
def a8 (rows:List (List D)) (n:Int) (sz:Nat) (row:List D):Prop:=0≤n∧rows[n.toNat]? =some row∧row.length=sz
def Tp (P:Program) (T:Nat→Option Tok) (t:TypeId) (x i v:AV):Prop:=
 match ti P t,x,i with
 | .sl e,.ro rows,.int _ n=>0<tsz P e∧∃row,a8 rows n (tsz P e) row∧v= .rop (row.map ofD) 0
 | .sl e,.own t,.int _ n=>0<tsz P e∧∃tk row,T t=some tk∧a8 tk.rows n (tsz P e) row∧v= .elt t (tsz P e) n.toNat 0
 | .sl e,.sub t g p,.int _ n=>0<tsz P e∧∃rows row,subR T t g p=some rows∧a8 rows n (tsz P e) row∧v= .els t g p (tsz P e) n.toNat 0
 | .arr l e,.box b off,.int _ n=>0<tsz P e∧(0≤n∧n<(l:Int))∧v= .box b (off+n.toNat*tsz P e)
 |_,_,_=>False
def Of (k:IntKind):List AV→Option (List Int)
 | [] =>some []
 | .int k' n::vs=>if k'=k then (Of k vs).map (n:: ·) else none
 |_::_=>none
def atI (l:List Int) (i:Int):Option Int:=if 0≤i then l[i.toNat]? else none
def P5:List AV→Option (List ByteArray)
 | [] =>some []
 | .str s::vs=>(P5 vs).map (s:: ·)
 |_::_=>none
def atS (l:List ByteArray) (i:Int):Option ByteArray:=if 0≤i then l[i.toNat]? else none
def atB (s:ByteArray) (i:Int):Option Int:=if 0≤i then s[i.toNat]?.map fun b=>(b.toNat:Int) else none
def V2 (P:Program) (t:TypeId) (x i v:AV):Prop:=
 match x,i with
 | .agg vs,.int _ k=>match ti P t with
  | .arr n el=>match ti P el with
   | .int kd=>tsz P el=1∧∃ns,Of kd vs=some ns∧n=ns.length∧∃m,atI ns k=some m∧v= .int kd m
   | .str =>tsz P el=1∧∃ns,P5 vs=some ns∧n=ns.length∧∃m,atS ns k=some m∧v= .str m
   |_=>False
  |_=>False
 | .str s,.int _ k=>ti P t= .str ∧∃m,atB s k=some m∧v= .int .u8 m
 |_,_=>False
def bndI:Option AV→Int→Option Int
 |none,d=>some d
 |some (.int _ n),_=>some n
 |_,_=>none
def cR {α:Type} (l:List α) (i j:Int):Option (List α):=if 0≤i∧i≤j∧j≤l.length then some ((l.drop i.toNat).take (j - i).toNat) else none
def nk (s:ByteArray) (i j:Int):Option ByteArray:=if 0≤i∧i≤j∧j≤s.size then some (s.extract i.toNat j.toNat) else none
def Zi (P:Program) (t:TypeId) (x:AV) (l h:Option AV) (v:AV):Prop:=
 match x with
 | .ro rows=>∃el,ti P t= .sl el∧(0<tsz P el∧∀row ∈ rows,row.length=tsz P el)∧∃i,bndI l 0=some i∧∃j,bndI h rows.length=some j∧∃r,cR rows i j=some r∧v= .ro r
 | .str s=>ti P t= .str ∧∃i,bndI l 0=some i∧∃j,bndI h s.size=some j∧∃r,nk s i j=some r∧v= .str r
 |_=>False
def cS (P:Program) (T:Nat→Option Tok) (t:TypeId) (x:AV) (l h:Option AV) (v:AV):Prop:=
 match x with
 | .own m=>∃tk,T m=some tk∧∃el,ti P t= .sl el∧(0<tsz P el∧∀row ∈ tk.rows,row.length=tsz P el)∧∃i,bndI l 0=some i∧∃j,bndI h tk.rows.length=some j∧∃r,cR tk.rows i j=some r∧v= .par m (tsz P el) i.toNat (j - i).toNat
 |_=>False
def Mu (sz:Nat) (el:TypeId):Nat→Nat→List (Nat × TypeId)
 |0,_=>[]
 |n+1,off=>(off,el)::Mu sz el n (off+sz)
def cellsOf:AV→Option (List AV)
 | .agg vs=>if RQ vs=true then some vs else none
 | .any =>none
 | .tup _=>none
 | .mpc _ _=>none
 |v=>some [v]
def zAV:Value→AV
 | .int k n=>if n=0 then .int k 0 else .any
 | .bool b=>.bool b
 | .string s=>if s.size=0 then .str s else .any
 | .slice none 0 0=>.nils
 | .pointer none=>.nilp
 |_=>.any
def Gh.pin (γ:Gh):Gh:= {γ with tl:=fun t=>γ.tl t∧t<1000,bl:=fun b=>γ.bl b∧b<1000}
theorem Gh.pin_ext (γ:Gh):Gh.Ext γ.pin γ:=⟨fun _ h=>h.1,fun _ _=>rfl,fun _ h=>h.1,fun _ _=>rfl,fun _ _=>rfl,fun _ _ _ h=>h,fun _ _ _ _=>rfl,AS.refl _⟩
def AG (P:Program) (f:FuncId) (args:List AV) (pt:List (Nat × Tok)) (pb:List (Nat × List AV)) (r:AV) (qt:List (Nat × Tok)) (qb:List (Nat × List AV)):Prop:=
 HD P f=true∧∀ (cx:Cx) (γ:Gh) (us:List Value),cx.P=P→cx.g0=γ.pin→(∀t,γ.tl t↔(look pt t).isSome =true)→(∀b,γ.bl b↔(look pb b).isSome =true)→
  OSim cx γ (look pt) (look pb) cx.we→AH γ.vw γ args us→
  Calls P f us.toArray cx.we (fun e w'=>∃v γ',e= .returned v∧OSim cx γ' (look qt) (look qb) w'∧VSim γ'.vw γ' r v)
def X2:AV→Bool
 | .tup vs=>E6 vs
 |a=>Gc a
def jr (P:Program) (pos:Nat) (f:FuncId) (args:List AV) (r:Res):Prop:=
 ∃as rv qt qb,AG P f as [] [] rv qt qb∧cls (fun _=>none) (fun _=>none) args=some as∧
  ((qt=[] ∧X2 rv=true∧r=⟨rv,[],[]⟩)∨(∃q tk,qt=[(q,tk)] ∧rv= .own q∧tk.gen=0∧r=⟨.own (pos*16),[(pos*16,tk)],[]⟩)∨(∃q k,rv= .box q k)∧r=⟨.rop [] 0,[],[]⟩)
def Tq (P:Program) (T:Nat→Option Tok) (B:Nat→Option (List AV)) (pos:Nat) (g:AV) (args:List AV) (r:Res):Prop:=
 match g with
 | .fn f caps=>Oe caps=true∧((match cls T B (fnA caps args) with
  |some as=>∃rv,AC P f as rv∧r=⟨(conv (pos*16) rv).1,(conv (pos*16) rv).2,[]⟩
  |none=>False)∨jr P pos f (fnA caps args) r)
 |_=>False
def EL (sz:Nat):Nat→List (Nat × AV)→Option (List AV)
 |_,[] =>some []
 | i,(j,v)::r=>if i=j then
   match cellsOf v,EL sz (i+1) r with
   |some vs,some ws=>if vs.length=sz then some (vs++ws) else none
   |_,_=>none
  else none
def eP (sz n:Nat) (z:List Value) (parts:List (Nat × AV)) (pos:Nat) (r:Res):Prop:=
 parts.length=n∧n*sz≤16777216∧0<sz∧z.length=sz∧match EL sz 0 parts with
  |some vs=>r=⟨.bsl pos n sz,[],[(pos,vs)]⟩
  |none=>False
def splice {α:Type}:List α→Nat→List α→List α
 |vs,_,[] =>vs
 |vs,off,c::cs=>splice (vs.set off c) (off+1) cs
def Lz (P:Program) (fs:List (Nat × TypeId)):List AV→List (Nat × AV)→Option (List AV)
 |vs,[] =>some vs
 |vs,(f,v)::r=>match fs[f]?,cellsOf v with
  |some q,some cs=>if cs.length=tsz P q.2 ∧q.1 +cs.length≤vs.length then Lz P fs (splice vs q.1 cs) r else none
  |_,_=>none
def Bi (z:ZK):D:=match z with
 | .yes =>.fz []
 | .no =>.sl []
 | .nl =>.nl
def zD (q:ZK):Value→Option D
 | .int k n=>if n=0 then some (.int k 0) else none
 | .bool b=>some (.bool b)
 | .string s=>if s.size=0 then some (.str s) else none
 | .slice none 0 0=>some (Bi q)
 | .pointer none=>some .nilp
 |_=>none
def zDs (q:ZK):List Value→Option (List D)
 | [] =>some []
 |v::vs=>match zD q v,zDs q vs with
  |some d,some ds=>some (d::ds)
  |_,_=>none
def V3:List AV→Option (List D)
 | [] =>some []
 | .int k n::vs=>(V3 vs).map (.int k n:: ·)
 |_::_=>none
def keyD:AV→Option D
 | .int k n=>some (.int k n)
 | .str s=>some (.str s)
 | .agg vs=>(V3 vs).map .ptr
 |_=>none
def JY:List D→List D→Bool
 | [],[] =>true
 | .int k n::ds,.int k' n'::ds'=>k == k'&&decide (n=n')&&JY ds ds'
 |_,_=>false
def Hj:D→D→Bool
 | .int k n,.int k' n'=>k == k'&&decide (n=n')
 | .str s,.str s'=>s.toList == s'.toList
 | .ptr ds,.ptr ds'=>JY ds ds'
 |_,_=>false
def G8 (k:D):List (List D)→Option D
 | [k',d] ::rows=>if Hj k k'=true then some d else G8 k rows
 |_::rows=>G8 k rows
 | [] =>none
def mput (k d:D):List (List D)→List (List D)
 | [k',d'] ::rows=>if Hj k k'=true then [k,d] ::rows else [k',d'] ::mput k d rows
 |r::rows=>r::mput k d rows
 | [] =>[[k,d]]
def V4 (P:Program):Nat→List Field→Option (List IntKind)
 |_,[] =>some []
 |off,f::fs=>match P.underlying f.type with
  |some (.int k)=>if f.offset=off∧P.cellsOf f.type=1 then (V4 P (off+1) fs).map (k:: ·) else none
  |_=>none
def Zj (P:Program) (t:TypeId):Option KT:=match P.underlying t with
 |some (.struct fs)=>match V4 P 0 fs.toList with
  |some ks=>if P.keyTypeAt 2 t=true∧P.keyType t=true∧P.cellsOf t=ks.length∧0<P.types.size then some (.wide ks) else none
  |none=>none
 |_=>none
def ktOf (P:Program) (t:TypeId):Option KT:=match ti P t with
 | .int k=>some (.int k)
 | .str =>some .str
 |_=>Zj P t
def eQ (P:Program) (t:TypeId):Option KT:=match ti P t with
 | .map k _=>ktOf P k
 |_=>none
def Mv:List IntKind→List D→Bool
 | [],[] =>true
 |k::ks,.int k' _::ds=>k' == k&&Mv ks ds
 |_,_=>false
def isKB:KT→D→Bool
 | .int k,.int k' _=>k' == k
 | .str,.str _=>true
 | .wide ks,.ptr ds=>Mv ks ds
 |_,_=>false
def SU (P:Program) (B:Nat→Option (List AV)) (t:TypeId) (x i:AV) (ok:Bool) (v:AV):Prop:=
 match ti P t,x with
 | .map kt et,.mpr b=>∃q rows,B b=some [.mpc q rows] ∧ktOf P kt=some q∧∃k,keyD i=some k∧isKB q k=true∧∃z,tz1 P et=some z∧
   v=(if ok=true then .tup [((G8 k rows).map ofD).getD (zAV z),.bool (G8 k rows).isSome] else ((G8 k rows).map ofD).getD (zAV z))
 |_,_=>False
def leX (n m:Int):Prop:=n≤m
def js (P:Program) (el:TypeId) (pos:Nat) (n m:Int) (r:Res):Prop:=
 leX n m∧0≤n∧m.toNat*P.bytesOf el≤281474976710656∧m≤4611686018427387904∧0<tsz P el∧(tz P el).length =tsz P el∧∃q z,zDs q (tz P el)=some z∧r=⟨.own (pos*16),[(pos*16,⟨List.replicate n.toNat z,some (tsz P el),0,q⟩)],[]⟩
def D.flat:D→Bool
 | .sl _=>false
 | .gone =>false
 | .fz _=>false
 | .ptr _=>false
 | .nl =>false
 |_=>true
def a9:AV→Bool
 | .nils =>true
 | .bsl _ n _=>n == 0
 |_=>false
def fz1:D→D
 | .sl r=>.fz r
 | .int k n=>.int k n
 | .bool b=>.bool b
 | .str s=>.str s
 | .gone =>.gone
 | .fz r=>.fz r
 | .ptr ds=>.ptr ds
 | .nilp =>.nilp
 | .nl =>.fz []
def fzC (ds:List D):List D:=ds.map fz1
def fzR (rows:List (List D)):List (List D):=rows.map fzC
def roZ (z:ZK) (sz:Nat) (rows:List (List D)) (K:List (List D)→Prop):Prop:=match z with
 | .no =>(∀row ∈ rows,row.length=sz∧∀d ∈ row,d.flat=true)∧K rows
 | .nl =>(∀row ∈ rows,row.length=sz∧∀d ∈ row,d.flat=true)∧K rows
 | .yes =>(∀row ∈ rows,row.length=sz∧∀d ∈ row,d≠ .gone)∧K (fzR rows)
def nm (P:Program) (pos:Nat) (t:TypeId) (x y:AV) (r:Res):Prop:=
 a9 x=true∧match ti P t,y with
 | .sl e,.ro rows=>(0<tsz P e∧(tz P e).length =tsz P e)∧∃z,roZ z (tsz P e) rows fun rows=>(rows.length*P.bytesOf e≤140737488355328∧rows.length≤maxLen)∧r=⟨.own (pos*16),[(pos*16,⟨rows,some (tsz P e),0,z⟩)],[]⟩
 |_,_=>False
def RR (ns:List Int):List (List D):=ns.map fun n=>[.int .u8 n]
def Ev (P:Program) (pos:Nat) (o:Oper) (e:Operand→AV) (T:Nat→Option Tok) (B:Nat→Option (List AV)) (r:Res):Prop:=
 match o.op with
 | .move x| .assign x=>r=⟨e x,[],[]⟩
 | .pick c a b=>∃t,e c= .bool t∧r=⟨if t then e a else e b,[],[]⟩
 | .box t x=>match cellsOf (e x) with
  |some vs=>r=⟨.box pos 0,[],[(pos,vs)]⟩
  |none=>False
 | .load t a=>∃v,Jx P T B t (e a) v∧r=⟨v,[],[]⟩
 | .nilCheck x=>match e x with
  | .box b off=>r=⟨.box b off,[],[]⟩
  | .rop ds off=>r=⟨.rop ds off,[],[]⟩
  | .elt t sz i off=>r=⟨.elt t sz i off,[],[]⟩
  | .els t g p sz i off=>r=⟨.els t g p sz i off,[],[]⟩
  |_=>False
 | .binOp op t x y _=>∃v,Bin P op t (e x) (e y) v∧r=⟨v,[],[]⟩
 | .unOp op _ x=>∃v,Uno op (e x) v∧r=⟨v,[],[]⟩
 | .convert s d x=>match ti P d,e x with
  | .int k,.int _ n=>(ti P s).sc =true∧r=⟨.int k (k.wrap n),[],[]⟩
  | .str,y=>∃el ns,ti P s= .sl el∧ti P el= .int .u8 ∧ns.length≤maxLen∧cl T B y=some (.ro (RR ns))∧r=⟨.str (strOfNums ns),[],[]⟩
  |_,_=>False
 | .fieldAddr s x f=>match e x with
  | .box b off=>∃q,fOff P s f=some q∧0<tsz P q.2 ∧r=⟨.box b (off+q.1),[],[]⟩
  | .rop ds off=>∃q,fOff P s f=some q∧0<tsz P q.2 ∧r=⟨.rop ds (off+q.1),[],[]⟩
  | .elt t sz i off=>∃q,fOff P s f=some q∧0<tsz P q.2 ∧r=⟨.elt t sz i (off+q.1),[],[]⟩
  | .els t g p sz i off=>∃q,fOff P s f=some q∧0<tsz P q.2 ∧r=⟨.els t g p sz i (off+q.1),[],[]⟩
  |_=>False
 | .field s x f=>match e x with
  | .agg vs=>∃q,fOff P s f=some q∧if (ti P q.2).isAgg =true then q.1 +tsz P q.2 ≤vs.length∧r=⟨.agg (GS vs q.1 (tsz P q.2)),[],[]⟩ else (ti P q.2).sc =true∧∃v,vs[q.1]? =some v∧r=⟨v,[],[]⟩
  |_=>False
 | .indexAddr t x i=>∃v,Tp P T t (e x) (e i) v∧r=⟨v,[],[]⟩
 | .index t x i=>∃v,V2 P t (e x) (e i) v∧r=⟨v,[],[]⟩
 | .slice t x l h none=>∃v,(Zi P t (e x) (l.map e) (h.map e) v∨cS P T t (e x) (l.map e) (h.map e) v)∧r=⟨v,[],[]⟩
 | .extract x i=>match e x with
  | .tup vs=>∃v,vs[i]? =some v∧r=⟨v,[],[]⟩
  |_=>False
 | .makeFunc (.func f) first caps=>r=⟨.fn f (.agg (first.toList.map e)::caps.toList.map e),[],[]⟩
 | .call {callee:=.builtin .len,args,argTypes}=>match args.toList,argTypes.toList with
  | [x],[t] =>∃v,To P T B t (e x) v∧r=⟨v,[],[]⟩
  |_,_=>False
 | .call {callee:=.builtin .max,args,..}=>match args.toList with
  | [x,y] =>match e x,e y with
   | .int k n,.int k' m=>k=k'∧r=⟨.int k (if n<m then m else n),[],[]⟩
   |_,_=>False
  |_=>False
 | .call {callee:=.builtin .min,args,..}=>match args.toList with
  | [x,y] =>match e x,e y with
   | .int k n,.int k' m=>k=k'∧r=⟨.int k (if m<n then m else n),[],[]⟩
   |_,_=>False
  |_=>False
 | .call {callee:=.value g,args,..}=>Tq P T B pos (e g) (args.toList.map e) r
 | .call {callee:=.builtin .append,args,argTypes}=>match args.toList,argTypes.toList with
  | [x,y],[t,t'] =>t'=t∧nm P pos t (e x) (e y) r
  |_,_=>False
 | .buildSlice t n parts=>match ti P t with
  | .sl el=>eP (tsz P el) n (tz P el) (parts.toList.map fun x=>(x.1,e x.2)) pos r
  |_=>False
 | .alloc t=>∃vs,tz P t=vs∧0<vs.length∧r=⟨.box pos 0,[],[(pos,vs.map zAV)]⟩
 | .build t parts=>match ti P t with
  | .st fs=>(fs.all fun q=>decide (0<tsz P q.2))=true∧0<(tz P t).length ∧∃vs,Lz P fs ((tz P t).map zAV) (parts.toList.map fun x=>(x.1,e x.2))=some vs∧r=⟨.agg vs,[],[]⟩
  | .arr n el=>0<tsz P el∧((Mu (tsz P el) el n 0).all fun q=>decide (0<tsz P q.2))=true∧0<(tz P t).length ∧∃vs,Lz P (Mu (tsz P el) el n 0) ((tz P t).map zAV) (parts.toList.map fun x=>(x.1,e x.2))=some vs∧r=⟨.agg vs,[],[]⟩
  |_=>False
 | .makeSlice t l c=>match ti P t,e l,e c with
  | .sl el,.int .i64 n,.int .i64 m=>js P el pos n m r
  |_,_,_=>False
 | .makeMap t none=>∃q,eQ P t=some q∧r=⟨.mpr pos,[],[(pos,[.mpc q []])]⟩
 | .lookup t x i ok=>∃v,SU P B t (e x) (e i) ok v∧r=⟨v,[],[]⟩
 |_=>False
def addT (σ:List (Nat × Option Tok)):List (Nat × Tok)→List (Nat × Option Tok)
 | [] =>σ
 |(n,tk)::r=>(n,some tk)::addT σ r
def addB (σ:List (Nat × Option (List AV))):List (Nat × List AV)→List (Nat × Option (List AV))
 | [] =>σ
 |(n,tk)::r=>(n,some tk)::addB σ r
def St.add (σ:St) (dst:Option Tmp) (r:Res):St:= {(σ.put dst r.v) with t:=addT σ.t r.t,b:=addB σ.b r.b}
def DY (σ:St):List (Nat × Tok)→Prop
 | [] =>True
 |(n,_)::r=>look σ.t n=none∧DY σ r
def FS (σ:St):List (Nat × List AV)→Prop
 | [] =>True
 |(n,_)::r=>look σ.b n=none∧FS σ r
def St.killT (σ:St) (t:Nat):St:= {σ with t:=(t,none)::σ.t}
def St.setT (σ:St) (t:Nat) (tk:Tok):St:= {σ with t:=(t,some tk)::σ.t}
def St.setB (σ:St) (b:Nat) (vs:List AV):St:= {σ with b:=(b,some vs)::σ.b}
def Ox:List AV→Option (List D)
 | [] =>some []
 | .int k n::vs=>(Ox vs).map (.int k n:: ·)
 | .bool b::vs=>(Ox vs).map (.bool b:: ·)
 | .str s::vs=>(Ox vs).map (.str s:: ·)
 |_::_=>none
def St.killB (σ:St) (b:Nat):St:= {σ with b:=(b,none)::σ.b}
def litD (z:ZK):AV→Option D
 | .int k n=>some (.int k n)
 | .bool b=>some (.bool b)
 | .str s=>some (.str s)
 | .nilp =>some .nilp
 | .ro rows=>if z= .yes then some (.fz rows) else none
 | .rop vs off=>if z= .yes then unD (.rop vs off) else none
 |_=>none
def MS (z:ZK):List AV→Option (List D)
 | [] =>some []
 |v::vs=>match litD z v,MS z vs with
  |some d,some ds=>some (d::ds)
  |_,_=>none
def cU (z:ZK) (b n sz:Nat) (σ:St) (K:List (List D)→St→Prop):Prop:=
 1000≤b∧0<sz∧∃vs,σ.B b=some vs∧∃ds,MS z vs=some ds∧ds.length=n*sz∧K (BR sz n ds) (σ.killB b)
def okZ (z:ZK) (tk:Tok):Bool:=match tk.z with
 | .yes =>decide (z= .yes)
 |_=>true
def Be (z:ZK):List AV→St→(List D→St→Prop)→Prop
 | [],σ,K=>K [] σ
 | .int k n::vs,σ,K=>Be z vs σ fun ds σ'=>K (.int k n::ds) σ'
 | .bool b::vs,σ,K=>Be z vs σ fun ds σ'=>K (.bool b::ds) σ'
 | .str s::vs,σ,K=>Be z vs σ fun ds σ'=>K (.str s::ds) σ'
 | .nils ::vs,σ,K=>Be z vs σ fun ds σ'=>K (Bi z::ds) σ'
 | .nilp ::vs,σ,K=>Be z vs σ fun ds σ'=>K (.nilp ::ds) σ'
 | .ro rows::vs,σ,K=>z= .yes ∧Be z vs σ fun ds σ'=>K (.fz rows::ds) σ'
 | .rop ws off::vs,σ,K=>z= .yes ∧∃d,unD (.rop ws off)=some d∧Be z vs σ fun ds σ'=>K (d::ds) σ'
 | .bsl b n sz::vs,σ,K=>if n=0 then Be z vs σ fun ds σ'=>K (Bi z::ds) σ' else cU z b n sz σ fun rows σ1=>Be z vs σ1 fun ds σ'=>K (.sl rows::ds) σ'
 | .own t::vs,σ,K=>∃tk,σ.T t=some tk∧okZ z tk=true∧Be z vs (σ.killT t) fun ds σ'=>K (.sl tk.rows::ds) σ'
 |_::_,_,_=>False
def AV.one:AV→Bool
 | .any | .agg _| .tup _| .mpc _ _=>false
 |_=>true
def E7 (row:List D) (off:Nat) (ds:List D):Bool:=ds.all D.flat&&((row.drop off).take ds.length).all D.flat
def putR (p:Pth) (rows:List (List D)) (d:D):List (List D):=match put p (.sl rows) d with
 | .sl r=>r
 |_=>rows
def Oy (P:Program) (t:TypeId) (a x:AV) (σ:St) (K:St→Prop):Prop:=
 match cellsOf x with
 |some cs=>cs.length=tsz P t∧0<tsz P t∧cs.all AV.one=true∧match a with
  | .box b off=>∃vs,σ.B b=some vs∧isMp vs=false∧off+cs.length≤vs.length∧K (σ.setB b (splice vs off cs))
  | .elt t' sz i off=>∃tk0,σ.T t'=some tk0∧Be tk0.z cs σ fun ds σ'=>∃tk row,(σ'.T t'=some tk∧tk.z=tk0.z)∧tk.rows[i]? =some row∧row.length=sz∧off+ds.length≤sz∧K (σ'.setT t' ⟨tk.rows.set i (splice row off ds),tk.sz,if E7 row off ds=true then tk.gen else tk.gen+1,tk.z⟩)
  | .els t' g p sz i off=>Be .no cs σ fun ds σ'=>∃rows,subR σ'.T t' g p=some rows∧∃row,rows[i]? =some row∧(p≠ [] ∧row.length=sz∧off+ds.length≤sz∧E7 row off ds=true)∧∃tk,σ'.T t'=some tk∧K (σ'.setT t' ⟨putR p tk.rows (.sl (rows.set i (splice row off ds))),tk.sz,tk.gen,tk.z⟩)
  |_=>False
 |none=>False
def Ts (z:ZK) (e:TypeId) (sz:Nat) (x:AV) (σ:St) (K:List (List D)→St→Prop):Prop:=
 match x with
 | .nils =>K [] σ
 | .bsl b n sz'=>if n=0 then K [] σ else sz'=sz∧cU z b n sz σ K
 | .own t=>∃tk,σ.T t=some tk∧(tk.sz=some sz∧okZ z tk=true)∧K tk.rows (σ.killT t)
 |_=>False
def Mw (z:ZK) (sz:Nat) (y:AV) (σ:St) (K:List (List D)→St→Prop):Prop:=
 match y with
 | .nils =>K [] σ
 | .bsl b n sz'=>∃vs,σ.B b=some vs∧sz'=sz∧vs.length=n*sz∧vs.all AV.one=true∧Be z vs σ fun ds σ'=>K (BR sz n ds) σ'
 | .ro rows=>match z with
  | .no =>(∀row ∈ rows,row.length=sz∧∀d ∈ row,d.flat=true)∧K rows σ
  | .nl =>(∀row ∈ rows,row.length=sz∧∀d ∈ row,d.flat=true)∧K rows σ
  | .yes =>(∀row ∈ rows,row.length=sz∧∀d ∈ row,d≠ .gone)∧K (fzR rows) σ
 | .own t=>∃tk,σ.T t=some tk∧((∀row ∈ tk.rows,row.length=sz)∧okZ z tk=true)∧K tk.rows (σ.killT t)
 |_=>False
def Zk (P:Program) (pos:Nat) (t:TypeId) (x y:AV) (σ:St) (K:AV→St→Prop):Prop:=
 match ti P t with
 | .sl e=>0<tsz P e∧(tz P e).length =tsz P e∧∃z,Ts z e (tsz P e) x σ fun rows σ1=>Mw z (tsz P e) y σ1 fun rows2 σ2=>
   (rows.length+rows2.length)*P.bytesOf e≤140737488355328∧rows.length+rows2.length≤maxLen∧look σ2.t (pos*16)=none∧K (.own (pos*16)) (σ2.setT (pos*16) ⟨rows++rows2,some (tsz P e),0,z⟩)
 |_=>False
def W3 (P:Program) (t:TypeId) (x i v:AV) (σ:St) (K:St→Prop):Prop:=
 match ti P t,x with
 | .map kt et,.mpr b=>∃q rows,σ.B b=some [.mpc q rows] ∧rows.length<68719476736∧ktOf P kt=some q∧∃k,keyD i=some k∧isKB q k=true∧∃d,Ox [v] =some [d] ∧K (σ.setB b [.mpc q (mput k d rows)])
 |_,_=>False
def gv (T:Nat→Option Tok) (v:AV) (b:Bool):Prop:=
 match v with
 | .nils =>b=true
 | .bsl _ _ _=>b=false
 | .ro rows=>rows≠ [] →b=false
 | .own t=>∃tk,T t=some tk∧(tk.rows≠ [] →b=false)
 | .sub t g p=>∃rows,subR T t g p=some rows∧(rows≠ [] →b=false)
 |_=>False
def P6:AV→Bool
 | .nils | .bsl _ _ _| .ro _=>true
 |_=>false
def aop (P:Program) (pos:Nat) (o:Oper) (σ:St) (K:St→Prop):Prop:=
 match o.op with
 | .binOp .eql t x (.const (.slice none 0 0)) _=>(∃e,ti P t= .sl e)∧P6 (σ.e x)=true∧∀b,gv σ.T (σ.e x) b→K (σ.put o.dst (.bool b))
 | .binOp .neq t x (.const (.slice none 0 0)) _=>(∃e,ti P t= .sl e)∧P6 (σ.e x)=true∧∀b,gv σ.T (σ.e x) b→K (σ.put o.dst (.bool !b))
 | .store t a x=>Oy P t (σ.e a) (σ.e x) σ fun σ'=>K (σ'.put o.dst .any)
 | .mapUpdate t m i x=>W3 P t (σ.e m) (σ.e i) (σ.e x) σ fun σ'=>K (σ'.put o.dst .any)
 | .insert t m i x=>W3 P t (σ.e m) (σ.e i) (σ.e x) σ fun σ'=>K (σ'.put o.dst .any)
 | .call {callee:=.builtin .append,args,argTypes}=>match args.toList,argTypes.toList with
  | [x,y],[t,t'] =>t'=t∧Zk P pos t (σ.e x) (σ.e y) σ fun v σ'=>K (σ'.put o.dst v)
  |_,_=>False
 |_=>∃r,Ev P pos o σ.e σ.T σ.B r∧DY σ r.t∧FS σ r.b∧K (σ.add o.dst r)
def P7:Pth→List (List D)→Option D
 | [],rows=>some (.sl rows)
 | (sz,i,j)::p,rows=>match rows[i]? with
  | some row=>if row.length=sz then (match row[j]? with
   |some d=>(match p,d with
    | [],d=>some d
    |p,.sl r1=>P7 p r1
    |_,_=>none)
   |none=>none) else none
  |none=>none
mutual
def Ke (c:Nat):AV→Bool
 | .own t=>t == c
 | .elt t _ _ _=>t == c
 | .agg vs=>SV c vs
 | .fn _ vs=>SV c vs
 |_=>false
def SV (c:Nat):List AV→Bool
 | [] =>false
 |v::vs=>Ke c v||SV c vs
end
mutual
def Kf (c:Nat):AV→Bool
 | .box b _=>b == c
 | .mpr b=>b == c
 | .agg vs=>P8 c vs
 | .fn _ vs=>P8 c vs
 |_=>false
def P8 (c:Nat):List AV→Bool
 | [] =>false
 |v::vs=>Kf c v||P8 c vs
end
def eR (as:List AV) (pt:List (Nat × Tok)) (pb:List (Nat × List AV)):Bool:=
 (pb.all fun p=>(P8 p.1 as||pb.any fun q=>P8 q.1 as&&P8 p.1 q.2)&&decide (p.1 <1000))&&(pt.all fun p=>(SV p.1 as||pb.any fun q=>SV p.1 q.2))
def Ds:List (Nat × AV × Option Nat)→St→(St→Prop)→Prop
 | [],σ,K=>K σ
 | (n,.sub t g p,z)::r,σ,K=>z=none∧look σ.t n=none∧p.length=1∧∃tk rows,σ.T t=some tk∧tk.gen=g∧getP p tk.rows=some rows∧n≠t∧
   Ds r {σ with t:=(n,some ⟨rows,none,0,tk.z⟩)::(t,some ⟨putR p tk.rows .gone,tk.sz,g,tk.z⟩)::σ.t} K
 |(n,.nils,z)::r,σ,K=>look σ.t n=none∧Ds r {σ with t:=(n,some ⟨[],z,0,.no⟩)::σ.t} K
 |(n,.bsl _ m _,z)::r,σ,K=>m=0∧look σ.t n=none∧Ds r {σ with t:=(n,some ⟨[],z,0,.no⟩)::σ.t} K
 |_::_,_,_=>False
def Ci:List (Nat × AV × Option Nat)→St→(St→Prop)→Prop
 | [],σ,K=>K σ
 |(n,.sub t g p,_)::r,σ,K=>Ci r σ fun σ=>match σ.T n with
  |some tn=>∃tk,σ.T t=some tk∧P7 p tk.rows=some .gone ∧(n≠t∧okZ tk.z tn=true)∧K {σ with t:=(n,none)::(t,some ⟨putR p tk.rows (.sl tn.rows),tk.sz,if tn.gen=0∧tk.gen=g then g else tk.gen+tn.gen+1,tk.z⟩)::σ.t}
  |none=>K σ
 |(n,_,_)::r,σ,K=>Ci r σ fun σ=>K {σ with t:=(n,none)::σ.t}
structure Way where
 cv:List (Nat × AV × Option Nat)
 rt:List (Nat × Nat)
 rb:List (Nat × Nat × Nat)
 nt:List (Nat × Nat)
 nb:List (Nat × Nat)
 md:Bool
def narR (o:Option AV) (vs:List AV) (off:Nat):Prop:=match o with
 |some (.rop us o')=>(us=vs∧o'=off)∨(off=0∧GS us o' vs.length=vs)
 |_=>False
mutual
def H2 (y:Way) (σ0:St):AV→AV→Prop
 |a,.own c=>∃n,look y.rt c=some n∧(a= .own n∨∃z,look y.cv n=some (a,z))
 |a,.box b off=>∃q,look y.rb b=some q∧a= .box q.1 (q.2 +off)
 |a,.elt c sz i off=>∃n,look y.rt c=some n∧a= .elt n sz i off
 |a,.mpr b=>∃q,look y.rb b=some q∧a= .mpr q.1
 | .agg vs,.agg vs'=>PasL y σ0 vs vs'
 | .fn f vs,.fn f' vs'=>f=f'∧PasL y σ0 vs vs'
 |a,.rop vs off=>narR (cl (if y.md then fun _=>none else σ0.T) (if y.md then fun _=>none else σ0.B) a) vs off
 |a,a'=>cl (if y.md then fun _=>none else σ0.T) (if y.md then fun _=>none else σ0.B) a=some a'
def PasL (y:Way) (σ0:St):List AV→List AV→Prop
 | [],[] =>True
 |a::as,b::bs=>H2 y σ0 a b∧PasL y σ0 as bs
 |_,_=>False
end
def kept:List (Nat × Nat)→List (Nat × Nat)
 | [] =>[]
 |(c,n)::r=>match decide (c<1000) with
  |true=>(c,n)::kept r
  |false=>kept r
mutual
def bak (y:Way):AV→AV
 | .int k n=>.int k n
 | .bool b=>.bool b
 | .str s=>.str s
 | .nilp =>.nilp
 | .nils =>.nils
 | .ro rows=>if y.md then .ro rows else .any
 | .own c=>match look (kept y.rt++y.nt) c with
  |some n=>.own n
  |none=>.any
 | .elt c sz i off=>match look (kept y.rt++y.nt) c with
  |some n=>.elt n sz i off
  |none=>.any
 | .box b off=>match look y.rb b with
  |some q=>.box q.1 (q.2 +off)
  |none=>match look y.nb b with
   |some n=>.box n off
   |none=>.any
 | .mpr b=>match look y.rb b with
  |some q=>.mpr q.1
  |none=>match look y.nb b with
   |some n=>.mpr n
   |none=>.any
 | .mpc q rows=>.mpc q rows
 | .agg vs=>.agg (baks y vs)
 | .tup vs=>.tup (baks y vs)
 | .fn f vs=>.fn f (baks y vs)
 | .rop vs off=>if y.md then .rop (baks y vs) off else .any
 |_=>.any
def baks (y:Way):List AV→List AV
 | [] =>[]
 |v::vs=>bak y v::baks y vs
end
def SW (rt:List (Nat × Nat)) (σ:St):List (Nat × Tok)→Prop
 | [] =>True
 |(c,tk)::r=>(∃n,look rt c=some n∧tk.gen=0∧∃tk',σ.T n=some tk'∧tk'.rows=tk.rows∧(tk.sz=none∨tk'.sz=tk.sz)∧okZ tk.z tk'=true)∧SW rt σ r
def H3 (y:Way) (σ σ0:St):List (Nat × List AV)→Prop
 | [] =>True
 |(b,vs)::r=>(∃q,look y.rb b=some q∧∃ws,σ.B q.1 =some ws∧isMp ws=isMp vs∧q.2 +vs.length≤ws.length∧PasL y σ0 (GS ws q.2 vs.length) vs)∧H3 y σ σ0 r
def SX (l:List (Nat × Nat)) (s:List (Nat × Option Tok)):List (Nat × Option Tok):=match l with
 | [] =>s
 |(_,n)::r=>(n,none)::SX r s
def Tt (l:List (Nat × Nat × Nat)) (s:List (Nat × Option (List AV))):List (Nat × Option (List AV)):=match l with
 | [] =>s
 |(_,n,_)::r=>(n,none)::Tt r s
def St.less (σ:St) (y:Way):St:=⟨σ.s,SX y.rt σ.t,Tt y.rb σ.b⟩
def Tu (σ:St) (qt:List (Nat × Tok)):List (Nat × Nat)→List (Nat × Option Tok)→List (Nat × Option Tok)
 | [],s=>s
 |(c,n)::r,s=>(n,(look qt c).map fun tk=>⟨tk.rows,tk.sz,((σ.T n).map (·.gen)).getD 0+tk.gen,tk.z⟩)::Tu σ qt r s
def Tv (σ:St) (y:Way) (qb:List (Nat × List AV)):List (Nat × Nat × Nat)→List (Nat × Option (List AV))→List (Nat × Option (List AV))
 | [],s=>s
 |(b,n,k)::r,s=>(n,(look qb b).bind fun vs=>(σ.B n).map fun ws=>splice ws k (baks y vs))::Tv σ y qb r s
def Zl (qt:List (Nat × Tok)):List (Nat × Nat)→List (Nat × Option Tok)→List (Nat × Option Tok)
 | [],s=>s
 |(c,n)::r,s=>(n,look qt c)::Zl qt r s
def Zm (y:Way) (qb:List (Nat × List AV)):List (Nat × Nat)→List (Nat × Option (List AV))→List (Nat × Option (List AV))
 | [],s=>s
 |(c,n)::r,s=>(n,(look qb c).map (baks y))::Zm y qb r s
def St.after (σ:St) (y:Way) (qt:List (Nat × Tok)) (qb:List (Nat × List AV)):St:=
 ⟨σ.s,Tu σ qt y.rt (Zl qt y.nt σ.t),Tv σ y qb y.rb (Zm y qb y.nb σ.b)⟩
def Way.ok (y:Way) (σ:St) (pt:List (Nat × Tok)) (pb:List (Nat × List AV)):Prop:=
 ((y.rt++y.nt).map (·.2)).Nodup ∧((y.rt++y.nt).map (·.1)).Nodup ∧((y.rb.map (·.2.1))++y.nb.map (·.2)).Nodup ∧((y.rb.map (·.1))++y.nb.map (·.1)).Nodup ∧
 (y.rt.all fun p=>(look pt p.1).isSome)=true∧(y.rb.all fun p=>(look pb p.1).isSome)=true∧(y.nt.all fun p=>(look pt p.1).isNone &&(look σ.t p.2).isNone)=true∧(y.nb.all fun p=>(look pb p.1).isNone &&(look σ.b p.2).isNone)=true∧
 (pt.map (·.1)).Nodup ∧(pb.map (·.1)).Nodup
def Mx (rt:List (Nat × Nat)):List (Nat × AV × Option Nat)→Bool
 | [] =>true
 |(_,.sub t _ _,_)::r=>(rt.all fun p=>p.2 != t)&&Mx rt r
 |_::r=>Mx rt r
def noZ (qt:List (Nat × Tok)):Bool:=qt.all fun p=>decide (p.2.z ≠ .yes)
def V5 (P:Program) (f:FuncId) (args:List AV) (σ:St) (K:AV→St→Prop):Prop:=
 ∃y as pt pb r qt qb,AG P f as pt pb r qt qb∧Ds y.cv σ fun σ1=>y.ok σ1 pt pb∧SW y.rt σ1 pt∧H3 y σ1 (σ1.less y) pb∧PasL y (σ1.less y) args as∧(pb.all fun p=>(look qb p.1).isSome)=true∧(Mx y.rt y.cv=true∧(y.md||noZ qt)=true)∧eR as pt pb=true∧(y.rt.all fun p=>decide (p.1 <1000)||(look qt p.1).isNone)=true∧Ci y.cv (σ1.after y qt qb) fun σ2=>K (bak y r) σ2
def only {α:Type} (t:Nat) (x:α) (n:Nat):Option α:=if n=t then some x else none
def fzA (b:Nat) (vs:List AV) (a:AV):AV:=match a with
 | .bsl _ _ _| .box _ _| .agg _=>(cl (fun _=>none) (only b vs) a).getD a
 |a=>a
def FzK:List Nat→List AV→St→(List AV→St→Prop)→Prop
 | [],args,σ,K=>K args σ
 |b::r,args,σ,K=>∃vs,σ.B b=some vs∧(1000≤b∧isMp vs=false)∧FzK r (args.map (fzA b vs)) ⟨σ.s,σ.t,(b,none)::σ.b⟩ K
def bA (P:Program) (f:FuncId) (args:List AV) (σ:St) (K:AV→St→Prop):Prop:=∃bs,FzK bs args σ fun args σ=>V5 P f args σ K
def Og (P:Program) (o:Oper) (σ:St) (K:St→Prop):Prop:=
 match o.op with
 | .call {callee:=.value g,args,..}=>match σ.e g with
  | .fn f caps=>Oe caps=true∧bA P f (fnA caps (args.toList.map σ.e)) σ fun v σ'=>K (σ'.put o.dst v)
  |_=>False
 |_=>False
def X3 (o:Oper):Bool:=
 match o.op with
 | .store _ _ _=>true
 | .mapUpdate _ _ _ _=>true
 | .insert _ _ _ _=>true
 | .binOp .eql _ _ (.const (.slice none 0 0)) _=>true
 | .binOp .neq _ _ (.const (.slice none 0 0)) _=>true
 | .call {callee:=.builtin .append,..}=>true
 |_=>false
def SY (o:Oper):Bool:=
 match o.op with
 | .call {callee:=.builtin .append,..}=>true
 |_=>false
def Oz (o:Oper):Bool:=X3 o&& !SY o
def VP (P:Program) (pos:Nat) (o:Oper) (σ:St) (K:St→Prop):Prop:=
 match o.op with
 | .slice t x l h none=>(match σ.e x with
  | .own n=>∃tk,σ.T n=some tk∧∃el,ti P t= .sl el∧(0<tsz P el∧∀row ∈ tk.rows,row.length=tsz P el)∧∃i,bndI (l.map σ.e) 0=some i∧∃j,bndI (h.map σ.e) tk.rows.length=some j∧∃r,cR tk.rows i j=some r∧look σ.t (pos*16)=none∧
   K (St.put ⟨σ.s,(pos*16,some ⟨r,none,0,tk.z⟩)::(n,none)::σ.t,σ.b⟩ o.dst (.own (pos*16)))
  |_=>False)
 |_=>False
def JZ:AV→List Nat→Option AV
 |v,[] =>some v
 | .agg vs,k::p=>(vs[k]?).bind fun v=>JZ v p
 | .tup vs,k::p=>(vs[k]?).bind fun v=>JZ v p
 |_,_::_=>none
def GX:AV→List Nat→AV→AV
 |_,[],x=>x
 | .agg vs,k::p,x=>match vs[k]? with
  |some v=>.agg (vs.set k (GX v p x))
  |none=>.agg vs
 | .tup vs,k::p,x=>match vs[k]? with
  |some v=>.tup (vs.set k (GX v p x))
  |none=>.tup vs
 |v,_::_,_=>v
def rpS (f:AV→Option AV):List (Nat × List Nat)→List (Nat × AV)→Option (List (Nat × AV))
 | [],s=>some s
 | (i,p)::r,s=>match JZ ((look s i).getD .any) p with
  |some a=>match f a with
   |some x=>rpS f r ((i,GX ((look s i).getD .any) p x)::s)
   |none=>none
  |none=>none
def rpB (f:AV→Option AV):List (Nat × Nat)→List (Nat × Option (List AV))→Option (List (Nat × Option (List AV)))
 | [],s=>some s
 | (b,j)::r,s=>match (look s b).join with
  | some vs=>match vs[j]? with
   |some a=>match f a with
    |some x=>if isMp vs=false∧x.mp?=false then rpB f r ((b,some (vs.set j x))::s) else none
    |none=>none
   |none=>none
  |none=>none
def X4:AV→Option AV
 | .nils =>some (.ro [])
 |_=>none
def X5 (sz:Nat):D→Option (List (List D))
 | .nl =>some []
 | .sl (x::xs)=>if x.length=sz then some (x::xs) else none
 |_=>none
mutual
def dn:D→D
 | .sl rows=>.sl (dnR rows)
 | .nl =>.sl []
 | .fz rows=>.fz rows
 | .int k n=>.int k n
 | .bool b=>.bool b
 | .str s=>.str s
 | .gone =>.gone
 | .ptr ds=>.ptr ds
 | .nilp =>.nilp
def dnR:List (List D)→List (List D)
 | [] =>[]
 |x::xs=>dnC x::dnR xs
def dnC:List D→List D
 | [] =>[]
 |d::ds=>dn d::dnC ds
end
mutual
def clr:D→Bool
 | .sl rows=>Tw rows
 | .fz _=>false
 | .ptr _=>false
 | .int _ _=>true
 | .bool _=>true
 | .str _=>true
 | .gone =>true
 | .nilp =>true
 | .nl =>true
def Tw:List (List D)→Bool
 | [] =>true
 |x::xs=>X6 x&&Tw xs
def X6:List D→Bool
 | [] =>true
 |d::ds=>clr d&&X6 ds
end
inductive Nils:St→St→Prop where
 |done (σ:St):Nils σ σ
 |slot {σ σ1:St} (i t:Nat) (ap:Option Nat) (z:ZK) (h:σ.g i= .nils) (ht:look σ.t t=none) (hk:Nils ⟨(i,.own t)::σ.s,(t,some ⟨[],ap,0,z⟩)::σ.t,σ.b⟩ σ1):Nils σ σ1
 |deep {σ σ1:St} (i t:Nat) (ap:Option Nat) (z:ZK) (p:List Nat) (h:JZ (σ.g i) p=some .nils) (ht:look σ.t t=none) (hk:Nils ⟨(i,GX (σ.g i) p (.own t))::σ.s,(t,some ⟨[],ap,0,z⟩)::σ.t,σ.b⟩ σ1):Nils σ σ1
 | lit {σ σ1:St} (i t b n sz:Nat) (z:ZK) (p:List Nat) (vs:List AV) (ds:List D) (h:JZ (σ.g i) p=some (.bsl b n sz)) (hb:σ.B b=some vs) (hd:MS z vs=some ds) (hl:ds.length=n*sz) (hz:0<sz) (hp:1000≤b) (ht:look σ.t t=none)
   (hk:Nils ⟨(i,GX (σ.g i) p (.own t))::σ.s,(t,some ⟨BR sz n ds,some sz,0,z⟩)::σ.t,(b,none)::σ.b⟩ σ1):Nils σ σ1
 | clit {σ σ1 σ2:St} (b0 j t b n sz:Nat) (z:ZK) (ws vs:List AV) (ds:List D) (h0:σ.B b0=some ws) (hj:ws[j]? =some (.bsl b n sz)) (hb:σ.B b=some vs) (hm:isMp vs=false) (hd:Be z vs (σ.killB b) fun ds' σ'=>ds'=ds∧σ'=σ2) (hl:ds.length=n*sz) (hz:0<sz) (hp:1000≤b) (h2:σ2.B b0=some ws) (ht:look σ2.t t=none)
   (hk:Nils ⟨σ2.s,(t,some ⟨BR sz n ds,some sz,0,z⟩)::σ2.t,(b0,some (ws.set j (.own t)))::σ2.b⟩ σ1):Nils σ σ1
 | take {σ σ1:St} (i t n g:Nat) (p:List Nat) (q:Pth) (tk:Tok) (r:List (List D)) (h:JZ (σ.g i) p=some (.sub t g q)) (hT:σ.T t=some tk) (hg:tk.gen=g) (hq:getP q tk.rows=some r) (hq0:q≠ []) (hne:n≠t) (hn:look σ.t n=none)
   (hk:Nils ⟨(i,GX (σ.g i) p (.own n))::σ.s,(n,some ⟨r,none,0,tk.z⟩)::(t,some ⟨putR q tk.rows .gone,tk.sz,g,tk.z⟩)::σ.t,σ.b⟩ σ1):Nils σ σ1
 | takeS {σ σ1:St} (i t n g:Nat) (p:List Nat) (q:Pth) (tk:Tok) (d:D) (sz:Nat) (r:List (List D)) (h:JZ (σ.g i) p=some (.sub t g q)) (hT:σ.T t=some tk) (hg:tk.gen=g) (hq:P7 q tk.rows=some d) (hd:X5 sz d=some r) (hq0:q≠ []) (hne:n≠t) (hn:look σ.t n=none)
   (hk:Nils ⟨(i,GX (σ.g i) p (.own n))::σ.s,(n,some ⟨r,some sz,0,tk.z⟩)::(t,some ⟨putR q tk.rows .gone,tk.sz,g,tk.z⟩)::σ.t,σ.b⟩ σ1):Nils σ σ1
 |down {σ σ1:St} (t:Nat) (tk:Tok) (r:List (List D)) (hT:σ.T t=some tk) (hp:1000≤t) (hz:tk.z= .nl) (hr:dnR tk.rows=r) (hk:Nils ⟨σ.s,(t,some ⟨r,tk.sz,tk.gen,.no⟩)::σ.t,σ.b⟩ σ1):Nils σ σ1
 |pure {σ σ1:St} (t:Nat) (tk:Tok) (hT:σ.T t=some tk) (hp:1000≤t) (hz:tk.z= .yes) (hr:Tw tk.rows=true) (hk:Nils ⟨σ.s,(t,some ⟨tk.rows,tk.sz,tk.gen,.no⟩)::σ.t,σ.b⟩ σ1):Nils σ σ1
 |cell {σ σ1:St} (b j t:Nat) (ap:Option Nat) (z:ZK) (vs:List AV) (hb:σ.B b=some vs) (h:vs[j]? =some .nils) (ht:look σ.t t=none) (hk:Nils ⟨σ.s,(t,some ⟨[],ap,0,z⟩)::σ.t,(b,some (vs.set j (.own t)))::σ.b⟩ σ1):Nils σ σ1
 | ctake {σ σ1:St} (b j t n g:Nat) (vs:List AV) (q:Pth) (tk:Tok) (r:List (List D)) (hb:σ.B b=some vs) (h:vs[j]? =some (.sub t g q)) (hT:σ.T t=some tk) (hg:tk.gen=g) (hq:getP q tk.rows=some r) (hq0:q≠ []) (hne:n≠t) (hn:look σ.t n=none)
   (hk:Nils ⟨σ.s,(n,some ⟨r,none,0,tk.z⟩)::(t,some ⟨putR q tk.rows .gone,tk.sz,g,tk.z⟩)::σ.t,(b,some (vs.set j (.own n)))::σ.b⟩ σ1):Nils σ σ1
 |chdr {σ σ1:St} (b j t g n:Nat) (q:Pth) (vs:List AV) (r:List (List D)) (hb:σ.B b=some vs) (h:vs[j]? =some (.sub t g q)) (hr:subR σ.T t g q=some r) (hn:r.length=n) (hk:Nils ⟨σ.s,σ.t,(b,some (vs.set j (.ro (List.replicate n []))))::σ.b⟩ σ1):Nils σ σ1
 |forget {σ σ1:St} (i:Nat) (p:List Nat) (x:AV) (h:JZ (σ.g i) p=some x) (hk:Nils ⟨(i,GX (σ.g i) p .any)::σ.s,σ.t,σ.b⟩ σ1):Nils σ σ1
 | frzT {σ σ1:St} (t:Nat) (ps:List (Nat × List Nat)) (cs:List (Nat × Nat)) (tk:Tok) (s':List (Nat × AV)) (b':List (Nat × Option (List AV))) (hT:σ.T t=some tk) (hp:1000≤t)
   (hs:rpS (cl (only t tk) fun _=>none) ps σ.s=some s') (hb:rpB (cl (only t tk) fun _=>none) cs σ.b=some b') (hk:Nils ⟨s',(t,none)::σ.t,b'⟩ σ1):Nils σ σ1
 | frzB {σ σ1:St} (b:Nat) (ps:List (Nat × List Nat)) (cs:List (Nat × Nat)) (vs:List AV) (s':List (Nat × AV)) (b':List (Nat × Option (List AV))) (hB:σ.B b=some vs) (hp:1000≤b) (hm:isMp vs=false)
   (hs:rpS (cl (fun _=>none) (only b vs)) ps σ.s=some s') (hb:rpB (cl (fun _=>none) (only b vs)) cs ((b,none)::σ.b)=some b') (hk:Nils ⟨s',σ.t,b'⟩ σ1):Nils σ σ1
 | frzN {σ σ1:St} (ps:List (Nat × List Nat)) (cs:List (Nat × Nat)) (s':List (Nat × AV)) (b':List (Nat × Option (List AV)))
   (hs:rpS X4 ps σ.s=some s') (hb:rpB X4 cs σ.b=some b') (hk:Nils ⟨s',σ.t,b'⟩ σ1):Nils σ σ1
 |drop {σ σ1:St} (b j:Nat) (vs:List AV) (hb:σ.B b=some vs) (hm:isMp vs=false) (hk:Nils ⟨σ.s,σ.t,(b,some (vs.set j .any))::σ.b⟩ σ1):Nils σ σ1
def bB:AV→Bool
 | .sub _ _ _=>true
 |_=>false
def Tx (σ:St) (o:Oper):Bool:=
 match o.op with
 | .call {callee:=.builtin .append,args,..}=>match args.toList with
  | [x,_] =>bB (σ.e x)
  |_=>false
 |_=>false
def VQ (P:Program) (L:Bool) (pos:Nat) (o:Oper) (σ:St) (K:St→Prop):Prop:=
 ((L=true∨SY o=false)∧aop P pos o σ K)∨(L=true∧(Og P o σ K∨VP P pos o σ K∨(Tx σ o=true∧∃σ1,Nils σ σ1∧aop P pos o σ1 K)))∨(L=false∧SY o=true∧∃r,Ev P pos o σ.e σ.T σ.B r∧DY σ r.t∧FS σ r.b∧K (σ.add o.dst r))
def Ja (ops:Array Oper) (j:Nat):Option Tmp:=(ops[j]?).bind (·.dst)
def aops (P:Program) (ops:Array Oper) (base cut:Nat):Nat→List Oper→St→(St→Prop)→Prop
 |_,[],σ,K=>K σ
 | i,o::rest,σ,K=>
  match o.guard with
  |none=>VQ P (decide (cut≤i)) (base+i) o σ fun σ'=>aops P ops base cut (i+1) rest σ' K
  | some (j,want)=>∃s,Ja ops j=some s∧
   ((∃b,σ.g s= .bool b∧
    (b=want→VQ P (decide (cut≤i)) (base+i) o (σ.put (some s) (.bool want)) fun σ'=>aops P ops base cut (i+1) rest σ' K)∧
    (b= !want→aops P ops base cut (i+1) rest ((σ.put (some s) (.bool (!want))).put o.dst (.tup [])) K))∨
   (σ.g s= .tup [] ∧aops P ops base cut (i+1) rest (σ.put o.dst (.tup [])) K))
def mask (acc:List Nat) (o:Oper):Nat:=
 o.after.toList.foldl (fun s e=>if Region.binds .any e then s|||(2 ^ e.on|||acc.getD e.on 0) else s) 0
def P9:List Nat→List Oper→List Nat
 |acc,[] =>acc
 |acc,o::os=>P9 (acc++[mask acc o]) os
def deps (ops:List Oper):List Nat:=P9 [] ops
def K6 (o:Oper):Bool:=
 match o.op with
 | .move _| .assign _| .extract _ _| .fieldAddr _ _ _| .indexAddr _ _ _| .build _ _=>true
 | .binOp .add _ _ _ _| .binOp .sub _ _ _ _=>true
 | .pick _ _ _=>true
 |_=>false
def late (ops:List Oper) (m:List Nat) (q:Nat):Bool:=
 Region.noSelect ops.toArray&&match ops[q]? with
  |some o=>K6 o&&o.guard.isNone&&(List.range ops.length).all fun j=>j == q||(match ops[j]? with
   |some oj=>oj.after.any (fun e=>Region.binds .any e&&e.on == q)||o.apart ops.toArray oj||(m.getD q 0).testBit j
   |none=>true)
  |none=>false
def QA (ops:Array Oper) (o:Oper):List Tmp:=
 (o.op.operands.toList.filterMap fun| .tmp t=>some t|_=>none)++(match o.guard with|some (j,_)=>(Ja ops j).toList |none=>[])
def V6 (ops:Array Oper) (x y:Oper):Bool:=
 (match x.dst with|some d=>(QA ops y).contains d||y.dst == some d|none=>false)||(match y.dst with|some d=>(QA ops x).contains d|none=>false)
inductive AE where
 |normal|exit (id:Nat)|ret
def AE.then (next:St→Prop) (Q:AE→St→Prop):AE→St→Prop
 | .normal,σ=>next σ
 | .exit id,σ=>Q (.exit id) σ
 | .ret,σ=>Q .ret σ
def AE.inBlock (id:Nat) (Q:AE→St→Prop):AE→St→Prop
 | .exit id',σ=>if id'=id then Q .normal σ else Q (.exit id') σ
 | .normal,σ=>Q .normal σ
 | .ret,σ=>Q .ret σ
def bC (v:AV) (t f:Prop):Prop:=∃b,v= .bool b∧(b=true→t)∧(b=false→f)
mutual
def ren (rt rb:List (Nat × Nat)):AV→AV
 | .own t=>.own ((look rt t).getD t)
 | .box b off=>.box ((look rb b).getD b) off
 | .bsl b n sz=>.bsl ((look rb b).getD b) n sz
 | .elt t sz i off=>.elt ((look rt t).getD t) sz i off
 | .sub _ _ _=>.any
 | .par _ _ _ _=>.any
 | .els _ _ _ _ _ _=>.any
 | .agg vs=>.agg (rens rt rb vs)
 | .tup vs=>.tup (rens rt rb vs)
 | .fn f vs=>.fn f (rens rt rb vs)
 | .any =>.any
 | .int k n=>.int k n
 | .bool b=>.bool b
 | .str s=>.str s
 | .ro rows=>.ro rows
 | .rop vs off=>.rop (rens rt rb vs) off
 | .nilp =>.nilp
 | .nils =>.nils
 | .mpr b=>.mpr ((look rb b).getD b)
 | .mpc q rows=>.mpc q rows
def rens (rt rb:List (Nat × Nat)):List AV→List AV
 | [] =>[]
 |v::vs=>ren rt rb v::rens rt rb vs
end
mutual
def HE (rt rb:List (Nat × Nat)):AV→Bool
 | .own t=>(look rt t).isSome
 | .box b off=>(look rb b).isSome
 | .bsl b n sz=>(look rb b).isSome
 | .elt t sz i off=>(look rt t).isSome
 | .sub _ _ _=>false
 | .par _ _ _ _=>false
 | .els _ _ _ _ _ _=>false
 | .mpr b=>(look rb b).isSome
 | .agg vs=>H4 rt rb vs
 | .tup vs=>H4 rt rb vs
 | .fn f vs=>H4 rt rb vs
 | .rop vs _=>H4 rt rb vs
 |_=>true
def H4 (rt rb:List (Nat × Nat)):List AV→Bool
 | [] =>true
 |v::vs=>HE rt rb v&&H4 rt rb vs
end
def X7 (rt rb:List (Nat × Nat)) (σ:St):List (Nat × AV)→Prop
 | [] =>True
 |(i,av)::r=>HE rt rb av=true∧σ.g i=ren rt rb av∧X7 rt rb σ r
def Ty (rt:List (Nat × Nat)) (σ:St):List (Nat × Option Tok)→Prop
 | [] =>True
 |(t,some tk)::r=>(∃n,look rt t=some n∧∃tk',σ.T n=some tk'∧tk'.rows=tk.rows∧(tk.sz=none∨tk'.sz=tk.sz)∧(t<1000→n=t∧tk'.gen=tk.gen)∧okZ tk.z tk'=true)∧Ty rt σ r
 |(t,none)::r=>(look rt t).isSome =true∧Ty rt σ r
def Tz (rt rb:List (Nat × Nat)) (σ:St):List (Nat × Option (List AV))→Prop
 | [] =>True
 |(b,some vs)::r=>(∃n,look rb b=some n∧H4 rt rb vs=true∧σ.B n=some (rens rt rb vs))∧Tz rt rb σ r
 |(b,none)::r=>(look rb b).isSome =true∧Tz rt rb σ r
def eS (rt:List (Nat × Nat)):List (Nat × Option Tok)→Prop
 | [] =>True
 |(t,_)::r=>(1000≤t∨look rt t=some t)∧eS rt r
def eU (rb:List (Nat × Nat)):List (Nat × Option (List AV))→Prop
 | [] =>True
 |(t,_)::r=>(1000≤t∨look rb t=some t)∧eU rb r
def K7 (rt rb:List (Nat × Nat)) (σ σ0:St):Prop:=
 (eS rt σ.t∧eU rb σ.b)∧((rt.map (·.2)).Nodup ∧(rb.map (·.2)).Nodup)∧((rt.all fun p=>(look σ0.t p.1).isSome)=true∧(rb.all fun p=>(look σ0.b p.1).isSome)=true)∧X7 rt rb σ σ0.s∧Ty rt σ σ0.t∧Tz rt rb σ σ0.b
def jt (σ σ0:St):Prop:=∃rt rb,K7 rt rb σ σ0
def gx (σ σ0:St):Prop:=∃σ1,Nils σ σ1∧jt σ1 σ0
inductive Wk:St→St→Prop where
 |nil (σ:St):Wk σ σ
 |cons {σ σ1 σ2:St} (h:gx σ σ1) (k:Wk σ1 σ2):Wk σ σ2
 |fz {σ σ1 σ2:St} (h:Nils σ σ1) (k:Wk σ1 σ2):Wk σ σ2
theorem Wk.one {σ σ1} (h:gx σ σ1):Wk σ σ1:=.cons h (.nil σ1)
theorem Wk.trans {a b c} (h:Wk a b) (k:Wk b c):Wk a c:=by
 induction h with
 |nil σ=>exact k
 |cons h _ ih=>exact .cons h (ih k)
 |fz h _ ih=>exact .fz h (ih k)
def kW (o:Op):Bool:=match o with
 | .call c=>(match c.callee with
  | .builtin b=>(match b with
   | .append =>false
   |_=>true)
  |_=>false)
 | .makeSlice .. =>false
 | .alloc _=>false
 | .buildSlice .. =>false
 |_=>true
def Jy:Code→Bool
 | .region _ ops draw=> !draw&&ops.toList.all fun o=>o.guard.isNone&&kW o.op
 |_=>false
def seqW (p:Bool) (K:St→Prop) (σ:St):Prop:=match p with
 |true=>K σ
 |false=>∃σ1,Wk σ σ1∧K σ1
inductive Tr where
 |fin
 |stop
 |br (i:Nat) (t more:Tr)
 |fz (t:Tr)
def Tr.sq:List Nat→Tr→Tr
 | [],t=>t
 |i::l,t=>.br i (Tr.sq l t) .stop
def Tr.alts:Tr→List Nat
 | .br i _ more=>i::more.alts
 |_=>[]
def O0 (ops:List Oper) (done:List Nat) (i:Nat):Bool:= !done.contains i&&(match ops[i]? with
 |some o=>o.after.all fun e=> !Region.binds .any e||done.contains e.on
 |none=>false)
def Tr.cover (ops:List Oper) (m:List Nat) (tr:Tr) (done:List Nat):Bool:=
 let rs:=(List.range ops.length).filter (O0 ops done)
 !rs.isEmpty&&((match tr with
  | .br q _ .stop =>rs.contains q&&late ops m q
  |_=>false)||rs.all fun i=>tr.alts.contains i)
mutual
def VS (ops:List Oper) (m:List Nat):Tr→List Nat→Bool
 | .fin,done=>(List.range ops.length).all fun i=>done.contains i
 | .stop,_=>false
 | .fz t,done=>VS ops m t done
 | .br i t more,done=>(Tr.br i t more).cover ops m done&&VS ops m t (i::done)&&RS ops m more done
def RS (ops:List Oper) (m:List Nat):Tr→List Nat→Bool
 | .br i t more,done=>VS ops m t (i::done)&&RS ops m more done
 | .fin,_=>true
 | .stop,_=>true
 | .fz _,_=>true
end
inductive VR where
 |no|al|st (k:Nat)
def Cd:List (Nat × Nat)→Nat→VR
 | [],_=>.no
 |(k,j)::r,i=>if i=k then .al else if i=j then .st k else Cd r i
def vOk (E:List Bool) (V:List (Nat × Nat)) (l:List Oper) (m:List Nat):Bool:=
 (V.all fun p=>(m.getD p.2 0).testBit p.1 && !E.getD p.1 false&& !E.getD p.2 false&&(match l[p.1]?,l[p.2]? with
  |some x,some y=>x.guard.isNone&&y.guard.isNone&&(match x.op,y.op with| .alloc t,.store t' _ _=>t == t'|_,_=>false)
  |_,_=>false))&&
 (V.all fun p=>V.all fun q=>(p.1 == q.1) == (p.2 == q.2))
def Nu (E:List Bool) (V:List (Nat × Nat)) (tr:Tr) (ops:Array Oper):Bool:=
 let l:=ops.toList
 let m:=deps l
 (l.zipIdx.all fun (o,i)=>o.after.all fun e=> !Region.binds .any e||decide (e.on<i))&&
 (l.zipIdx.all fun (o,i)=>E.getD i false||((!Oz o||V.any fun p=>p.2 == i)&&o.after.all fun e=> !Region.binds .any e|| !E.getD e.on false))&&
 ((List.range l.length).all fun i=>E.getD i false||(List.range i).all fun j=>E.getD j false||(match l[i]?,l[j]? with
  |some x,some y=>(match x.dst,y.dst with|some d,some d'=>d != d'|_,_=>true)&&(!V6 ops x y||(m.getD i 0).testBit j)
  |_,_=>true))&&
 ((List.range l.length).all fun t=> !E.getD t false||(List.range l.length).all fun j=>E.getD j false||(m.getD t 0).testBit j||late l m j)&&
 VS l m tr ((List.range l.length).filter fun i=> !E.getD i false)&&vOk E V l m
def My (P:Program) (ops:Array Oper) (base:Nat) (r:VR) (i:Nat) (o:Oper) (acc:List (Nat × List AV)) (σ:St) (K:List (Nat × List AV)→St→Prop):Prop:=match r with
 | .no =>aops P ops base (i+1) i [o] σ (K acc)
 | .al =>(match o.op with
  | .alloc t=>(0<(tz P t).length ∧(tz P t).length =tsz P t∧isMp ((tz P t).map zAV)=false)∧K acc (σ.put o.dst (.box (base+i) 0))
  |_=>False)
 | .st k=>(match o.op with
  | .store t a x=>(match cellsOf (σ.e x) with
   |some cs=>(cs.length=tsz P t∧0<tsz P t∧cs.all AV.one=true)∧σ.e a= .box (base+k) 0∧K ((base+k,cs)::acc) (σ.put o.dst .any)
   |none=>False)
  |_=>False)
def GY (P:Program) (ops:Array Oper) (base:Nat) (V:List (Nat × Nat)):List Bool→Nat→List Oper→List (Nat × Oper)→List (Nat × List AV)→St→(List (Nat × Oper)→List (Nat × List AV)→St→Prop)→Prop
 |_,_,[],ts,acc,σ,K=>K ts acc σ
 |true::E,i,o::rest,ts,acc,σ,K=>GY P ops base V E (i+1) rest ((i,o)::ts) acc σ K
 |false::E,i,o::rest,ts,acc,σ,K=>My P ops base (Cd V i) i o acc σ fun acc' σ'=>GY P ops base V E (i+1) rest ts acc' σ' K
 | [],i,o::rest,ts,acc,σ,K=>My P ops base (Cd V i) i o acc σ fun acc' σ'=>GY P ops base V [] (i+1) rest ts acc' σ' K
def cV (acc:List (Nat × List AV)) (σ:St) (K:St→Prop):Prop:=FS σ acc∧K ⟨σ.s,σ.t,addB σ.b acc⟩
def aTr (P:Program) (ops:Array Oper) (base:Nat) (ts:List (Nat × Oper)):Tr→St→(St→Prop)→Prop
 | .fin,σ,K=>K σ
 | .stop,_,_=>True
 | .fz t,σ,K=>∃σ1,Nils σ σ1∧aTr P ops base ts t σ1 K
 | .br i t more,σ,K=>(match look ts i with
  |some o=>aops P ops base 0 i [o] σ fun σ'=>aTr P ops base ts t σ' K
  |none=>False)∧aTr P ops base ts more σ K
def leS (s:List (Nat × AV)):List (Nat × AV)→Prop
 | [] =>True
 |(t,v)::r=>(v= .any ∨look s t=some v)∧leS s r
def leO {α:Type} (s:List (Nat × Option α)):List (Nat × Option α)→Prop
 | [] =>True
 |(t,v)::r=>(v=none∨look s t=some v)∧leO s r
def JS {α:Type} (s:List (Nat × α)):List (Nat × α)→Prop
 | [] =>True
 |(t,_)::r=>(look s t).isSome =true∧JS s r
def St.Le (σ σ':St):Prop:=leS σ.s σ'.s∧(leO σ.t σ'.t∧JS σ'.t σ.t)∧leO σ.b σ'.b∧JS σ'.b σ.b
def cW (S:Nat→Bool):List Nat→Prop
 | [] =>True
 |j::r=>S j=true∧cW S r
def noS (S:Nat→Bool):List Nat→Prop
 | [] =>True
 |j::r=>S j=false∧noS S r
def L0 (P:Program) (ops:Array Oper) (base:Nat) (F:(Nat→Bool)→St):Nat→List Oper→List (List Nat × List Nat)→Prop
 |_,[],_=>True
 |i,o::os,(d,u)::ds=>(((d.all fun j=>o.after.any fun e=>Region.binds .any e&&e.on == j)=true∧(u.all fun j=>decide (j<ops.size)&&((deps ops.toList).getD j 0).testBit i)=true)∧∀S:Nat→Bool,S i=false→cW S d→noS S u→aops P ops base 0 i [o] (F S) fun σ'=>St.Le σ' (F fun j=>if j=i then true else S j))∧L0 P ops base F (i+1) os ds
 |_,_::_,[] =>False
def gy (l:List Oper):Bool:=l.zipIdx.all fun (o,i)=>o.after.all fun e=> !Region.binds .any e||decide (e.on<i)
def np (P:Program) (ops:Array Oper) (base:Nat) (σ:St) (K:St→Prop):Prop:=
 ∃F ds,gy ops.toList=true∧St.Le σ (F fun j=>decide (ops.size≤j))∧L0 P ops base F 0 ops.toList ds∧K (F fun _=>true)
structure Sim (cx:Cx) (N:Nat) (γ:Gh) (σ:St) (a:Act) (w:World):Prop where
 os:OSim cx γ σ.T σ.B w
 sl:∀i,VSim γ.vw γ (σ.g i) (a.tmps.getD i undef)
 td:∀t,γ.tl t→(look σ.t t).isSome =true
 bd:∀b,γ.bl b→(look σ.b b).isSome =true
 df:a.defers=[]
 n:a.tmps.size=N
def SimE (cx:Cx) (N:Nat) (σ:St) (a:Act) (w:World):Prop:=∃γ,Sim cx N γ σ a w
def kX (P:Program) (ops:Array Oper) (σ:St) (K:St→Prop):Prop:=∀ (cx:Cx) (N id:Nat) (a:Act) (w:World),cx.P=P→(∀o ∈ ops.toList,∀d,o.dst=some d→d<N)→SimE cx N σ a w→(Code.region id ops true).wp P (fun e a' w'=>e= .normal ∧∃σ',K σ'∧SimE cx N σ' a' w') a w
def cX (P:Program) (ops:Array Oper) (base:Nat) (draw:Bool) (σ:St) (K:St→Prop):Prop:=match draw with
 |false=>aops P ops base 0 0 ops.toList σ K
 |true=>(∃E V tr,Nu E V tr ops=true∧GY P ops base V E 0 ops.toList [] [] σ fun ts acc σ'=>cV acc σ' fun σ'=>aTr P ops base ts tr σ' K)∨np P ops base σ K∨kX P ops σ K
def awp (P:Program):Code→(AE→St→Prop)→St→Prop
 | .skip,Q,σ=>Q .normal σ
 | .region id ops draw,Q,σ=>cX P ops (id*1000+1000) draw σ (Q .normal)
 | .seq a b,Q,σ=>awp P a (AE.then (seqW (Jy a) (awp P b Q)) Q) σ
 | .cond c t f,Q,σ=>bC (σ.e c) (awp P t Q σ) (awp P f Q σ)
 | .block id body,Q,σ=>awp P body (AE.inBlock id Q) σ
 | .loop body,Q,σ=>∀L:St→Prop,(∀σ,awp P body (AE.then (fun σ'=>∃σ1,Wk σ' σ1∧L σ1) Q) σ→L σ)→∃σ1,Wk σ σ1∧L σ1
 | .exit id,Q,σ=>Q (.exit id) σ
 | .ret,Q,σ=>Q .ret σ
 |_,_,_=>False
mutual
def EI:AV→RV→St→(St→Prop)→Prop
 | .int k n,.int k' m,σ,K=>k=k'∧n=m∧K σ
 | .bool b,.bool c,σ,K=>b=c∧K σ
 | .str s,.str s',σ,K=>s=s'∧K σ
 | .nilp,.nilp,σ,K=>K σ
 | .nils,.ow _ rows,σ,K=>rows=[] ∧K σ
 | .bsl _ n _,.ow _ rows,σ,K=>n=0∧rows=[] ∧K σ
 | .own t,.ow ap rows,σ,K=>∃tk,σ.T t=some tk∧tk.rows=rows∧(ap=none∨tk.sz=ap)∧tk.z= .no ∧K (σ.killT t)
 | .ro rows,.ro rows',σ,K=>rows=rows'∧K σ
 | .ro rows,.ow ap rows',σ,K=>ap=none∧rows=[] ∧rows'=[] ∧K σ
 | .agg vs,.agg rs,σ,K=>LO vs rs σ K
 | .tup vs,.tup rs,σ,K=>LO vs rs σ K
 |_,_,_,_=>False
def LO:List AV→List RV→St→(St→Prop)→Prop
 | [],[],σ,K=>K σ
 |v::vs,r::rs,σ,K=>EI v r σ fun σ'=>LO vs rs σ' K
 |_,_,_,_=>False
end
def OH (P:Program) (σ:St):List ResultVar→(List AV→Prop)→Prop
 | [],K=>K []
 | .tmp t::r,K=>OH P σ r fun vs=>K (σ.g t::vs)
 | .cell a t::r,K=>∃v,Jx P σ.T σ.B t (σ.g a) v∧OH P σ r fun vs=>K (v::vs)
def ju (P:Program) (l:List ResultVar) (r:RV) (σ:St):Prop:=
 OH P σ l fun vs=>match vs with
  | [v] =>EI v r σ fun _=>True
  |vs=>EI (.tup vs) r σ fun _=>True
end Go.Proofs.YtclmbjbbojdojaaGreat.Ab
