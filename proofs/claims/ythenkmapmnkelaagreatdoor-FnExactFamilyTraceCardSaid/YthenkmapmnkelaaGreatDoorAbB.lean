/- What the walks take as given of the tables that start-up code lays. -/
import Derived.WalkKit
import Derived.Lib.LaidTab
import Derived.Lib.ItoaNum
import Derived.Test.YthenkmapmnkelaaGreatDoorAbA
import Derived.ChangeAgain
import Derived.Maps.Own
namespace Go.Proofs.YthenkmapmnkelaaGreatDoor.Ab
set_option linter.unusedVariables false
open Go.RowKit
def Amb (P:Program) (w:World):Prop:=P.globals.size<P.low∧Lib.TabIs P w "internal/strconv.uint64pow10" .u64 Lib.pow10Tab
theorem fW {P:Program} {w w':World} (h:Amb P w) (hb:∀k,k<P.low→w'.heap[k]? =w.heap[k]?):Amb P w':=by
 obtain⟨h1,h2⟩:=h
 refine⟨h1,?_⟩
 unfold Lib.TabIs World.var? at h2 ⊢
 cases hg:P.globalNamed "internal/strconv.uint64pow10" with
 |none=>rw [hg] at h2; simp at h2
 | some g=>
  have p:g<P.globals.size:=by
   unfold Program.globalNamed at hg
   split at hg
   ·rename_i q j
    cases hg
    have:g ∈ (List.range P.globals.size).filter fun g=>(P.globals[g]?).any (·.name == "internal/strconv.uint64pow10"):=by rw [j]; simp
    exact List.mem_range.1 (List.mem_filter.1 this).1
   ·cases hg
  rw [hg] at h2
  simp only [Option.bind_some] at h2 ⊢
  rw [hb g (by omega)]
  exact h2
set_option maxHeartbeats 1000000
inductive KT where
 |int (k:IntKind)
 |str
 |wide (ks:List IntKind)
inductive AV where
 |any
 |int (k:IntKind) (n:Int)
 |bool (b:Bool)
 |str (s:ByteArray)
 |ro (rows:List (List D))
 |own (t:Nat)
 |box (b off:Nat)
 |rop (vs:List AV) (off:Nat)
 |bsl (b n sz:Nat)
 |elt (t sz i off:Nat)
 |sub (t g:Nat) (p:Pth)
 |els (t g:Nat) (p:Pth) (sz i off:Nat)
 |par (t sz i n:Nat)
 |agg (vs:List AV)
 |tup (vs:List AV)
 |fn (f:FuncId) (caps:List AV)
 |nilp
 |nils
 |mpr (b:Nat)
 |mpc (q:KT) (rows:List (List D))
instance:Inhabited AV:=⟨.any⟩
def AV.mp?:AV→Bool
 | .mpc _ _=>true
 |_=>false
def isMp:List AV→Bool
 | [a] =>a.mp?
 |_=>false
def PD (vs:List AV):Bool:=vs.all fun a=> !a.mp?
theorem OD {vs} (h:PD vs=true):isMp vs=false:=by
 cases vs with
 |nil=>rfl
 |cons a l=>cases l with
  |nil=>grind [PD,isMp]
  |cons b l=>rfl
theorem Xu {vs} (h:vs.length≠1):isMp vs=false:=by
 cases vs with
 |nil=>rfl
 |cons a l=>cases l with
  |nil=>grind
  |cons b l=>rfl
theorem MM {vs} (h:isMp vs=true):∃q rows,vs=[.mpc q rows] :=by
 cases vs with
 |nil=>cases h
 |cons a l=>cases l with
  |nil=>cases a <;> simp [isMp,AV.mp?] at h; grind
  |cons b l=>cases h
def GP:D→Value→Prop
 | .int k n,v=>v= .int k n∧(Lit.int k n).wf =true
 | .bool b,v=>v= .bool b
 | .str s,v=>v= .string s∧s.size≤maxLen
 |_,_=>False
def Dh:List D→List Value→Prop
 | [],vs=>vs=[]
 | .int k n::ds,vs=>∃vs',vs= .int k n::vs'∧(Lit.int k n).wf =true∧Dh ds vs'
 |_::_,_=>False
def G3:D→Value→Prop
 | .ptr ds,v=>∃us:List Value,v= .agg us.toArray∧Dh ds us
 |d,v=>GP d v
def isKI:List IntKind→List D→Prop
 | [],[] =>True
 |k::ks,.int k' _::ds=>k'=k∧isKI ks ds
 |_,_=>False
def isKD:KT→D→Prop
 | .int k,.int k' _=>k'=k
 | .str,.str _=>True
 | .wide ks,.ptr ds=>isKI ks ds
 |_,_=>False
def VP (q:KT):List D→Value × Value→Prop
 | [k,d],e=>isKD q k∧G3 k e.1 ∧GP d e.2
 |_,_=>False
def Ba (q:KT):List (List D)→List (Value × Value)→Prop
 | [],es=>es=[]
 |r::rs,es=>∃e es',es=e::es'∧VP q r e∧Ba q rs es'
def S7 (es:List (Value × Value)):Value:=.tuple (es.map fun e=>.tuple #[e.1,e.2]).toArray
def I7 (es:Array MapEntry):List (Value × Value):=es.toList.map fun e=>(e.key,e.val)
def RY (w:World) (blk:Nat) (us:List Value):Prop:=∃es clock,w.heap[blk]? =some (.map es clock)∧us=[S7 (I7 es)] ∧MapKept.Stamped es clock
inductive ZK where
 |no|yes|nl
deriving DecidableEq
structure Tok where
 rows:List (List D)
 sz:Option Nat
 gen:Nat
 z:ZK
def zvw (z:ZK) (V:World):World:=match z with
 | .yes =>V
 | .no =>default
 | .nl =>default
abbrev Tok.vw (tk:Tok) (V:World):World:=zvw tk.z V
theorem Keeps.void (w:World):Keeps default w:=.mk' fun a u h=>by
 have:(default:World).cell? a=none:=rfl
 rw [this] at h; cases h
theorem vA {z} {V w} (h:Keeps V w):Keeps (zvw z V) w:=by
 cases z
 ·exact Keeps.void w
 ·exact h
 ·exact Keeps.void w
theorem pW {z} {V V'} (h:Keeps V V'):Keeps (zvw z V) (zvw z V'):=by
 cases z
 ·exact Keeps.refl _
 ·exact h
 ·exact Keeps.refl _
theorem pX {z z'} {V} (h:z= .yes →z'= .yes):Keeps (zvw z V) (zvw z' V):=by
 cases z
 ·exact Keeps.void _
 ·rw [h rfl]; exact Keeps.refl _
 ·exact Keeps.void _
theorem Tok.vwk {tk:Tok} {V w:World} (h:Keeps V w):Keeps (tk.vw V) w:=vA h
theorem Tok.vwm {tk:Tok} {V V':World} (h:Keeps V V'):Keeps (tk.vw V) (tk.vw V'):=pW h
def SA (V w:World) (rows:List (List D)) (v:Value) (fp:List Nat) (sz:Nat):Prop:=
 (rows=[] ∧(∃a,v= .slice a 0 0)∧fp=[])∨
 ∃g o c e cs fps,v= .slice (some ⟨g,o,none⟩) rows.length c∧rows.length≤c∧c≤maxLen∧Blk w g e cs∧o+c*sz≤cs.length∧OwnR V w cs sz o rows fps∧fp=g::fps
theorem SA.own {V w} {rows} {v} {fp} {sz} (h:SA V w rows v fp sz):Own V w (.sl rows) v fp:=by
 rcases h with ⟨h1,⟨a,h2⟩,h3⟩|⟨g,o,c,e,cs,fps,h⟩
 ·exact .inl ⟨h1,⟨a,0,h2,Nat.zero_le _⟩,h3⟩
 ·exact .inr ⟨sz,g,o,c,e,cs,fps,h⟩
theorem SA.keep {V w w'} {rows} {v} {fp} {sz} (h:SA V w rows v fp sz) (hk:∀g ∈ fp,w'.heap[g]? =w.heap[g]?):SA V w' rows v fp sz:=by
 rcases h with h|⟨g,o,c,e,cs,fps,h1,h2,h3,h4,h5,h6,rfl⟩
 ·exact .inl h
 ·exact .inr ⟨g,o,c,e,cs,fps,h1,h2,h3,by grind [Blk],h5,OwnR.keep h6 fun g hg=>hk g (by grind),rfl⟩
def Ae (V w:World) (tk:Tok) (v:Value) (fp:List Nat):Prop:=
 match tk.sz with
 |none=>Own (tk.vw V) w (.sl tk.rows) v fp
 |some sz=>SA (tk.vw V) w tk.rows v fp sz
theorem Ae.own {V w} {tk} {v} {fp} (h:Ae V w tk v fp):Own (tk.vw V) w (.sl tk.rows) v fp:=by
 unfold Ae at h
 split at h
 ·exact h
 ·exact h.own
theorem Ae.keep {V w w'} {tk} {v} {fp} (h:Ae V w tk v fp) (hk:∀g ∈ fp,w'.heap[g]? =w.heap[g]?):Ae V w' tk v fp:=by
 unfold Ae at h ⊢
 split at h
 ·exact Own.keep h hk
 ·exact h.keep hk
theorem SA.mono {V V' w} {rows} {v} {fp} {sz} (hk:Keeps V V') (h:SA V w rows v fp sz):SA V' w rows v fp sz:=by
 rcases h with h|⟨g,o,c,e,cs,fps,h1,h2,h3,h4,h5,h6,h7⟩
 ·exact .inl h
 ·exact .inr ⟨g,o,c,e,cs,fps,h1,h2,h3,h4,h5,OwnR.mono hk h6,h7⟩
theorem Ae.mono {V V' w:World} {tk:Tok} {v:Value} {fp:List Nat} (hk:Keeps V V') (h:Ae V w tk v fp):Ae V' w tk v fp:=by
 unfold Ae at h ⊢
 split at h
 ·exact Own.mono (Tok.vwm hk) h
 ·exact h.mono (Tok.vwm hk)
theorem Ae.rep {V w:World} {tk:Tok} {v:Value} {fp:List Nat} (hk:Keeps V w) (h:Ae V w tk v fp):Rep w (.sl tk.rows) v:=h.own.rep (Tok.vwk hk)
theorem Ae.lt {V w} {tk} {v} {fp} (h:Ae V w tk v fp):∀g ∈ fp,g<w.heap.size:=h.own.lt
theorem Ae.nil {V w} {z} {g} {q} {v} (h:∃a,v= .slice a 0 0):Ae V w ⟨[],z,g,q⟩ v [] :=by
 cases z with
 |none=>obtain⟨a,h⟩:=h; exact .inl ⟨rfl,⟨a,0,h,Nat.zero_le _⟩,rfl⟩
 |some s=>exact .inl ⟨rfl,h,rfl⟩
theorem Ae.block {V w} {tk} {v} {fp} (h:Ae V w tk v fp) {g o n c} (hv:v= .slice (some ⟨g,o,none⟩) n c) (hne:tk.rows≠ []):
  ∃sz e cs fps,n=tk.rows.length∧n≤c∧c≤maxLen∧Blk w g e cs∧o+c*sz≤cs.length∧OwnR (tk.vw V) w cs sz o tk.rows fps∧fp=g::fps∧
   ∀w' q j p,j.length=tk.rows.length→Blk w' g e q→q.length=cs.length→OwnR (tk.vw V) w' q sz o j p→∀k,Ae V w' ⟨j,tk.sz,k,tk.z⟩ v (g::p):=by
 subst hv
 unfold Ae at h
 split at h
 ·grind [Own,Ae]
 ·rename_i sz hz
  rcases h with ⟨he,-,-⟩|⟨g',o',c',e,cs,fps,hv,h1,h2,h3,h4,h5,h6⟩
  ·grind
  ·simp only [Value.slice.injEq,Option.some.injEq,Addr.mk.injEq,and_true] at hv
   obtain⟨⟨rfl,rfl⟩,rfl,rfl⟩:=hv
   refine⟨sz,e,cs,fps,rfl,h1,h2,h3,h4,h5,h6,fun w' q j p k1 k2 k3 k4 k=>?_⟩
   unfold Ae
   simp only [hz]
   exact .inr ⟨g,o,c,e,q,p,by rw [k1],by omega,h2,k2,by omega,k4,rfl⟩
structure Gh where
 tl:Nat→Prop
 tv:Nat→Value
 tf:Nat→List Nat
 bl:Nat→Prop
 bb:Nat→Nat
 bo:Nat→Nat
 gl:Nat→Nat→Prop
 hv:Nat→Nat→Pth→Value
 vw:World
def Gh.none:Gh:=⟨fun _=>False,fun _=>.tuple #[],fun _=>[],fun _=>False,fun _=>0,fun _=>0,fun _ _=>False,fun _ _ _=>.tuple #[],default⟩
structure Gh.Ext (γ γ':Gh):Prop where
 tl:∀t,γ.tl t→γ'.tl t
 tv:∀t,γ.tl t→γ'.tv t=γ.tv t
 bl:∀b,γ.bl b→γ'.bl b
 bb:∀b,γ.bl b→γ'.bb b=γ.bb b
 bo:∀b,γ.bl b→γ'.bo b=γ.bo b
 gl:∀t g,γ.tl t→γ.gl t g→γ'.gl t g
 hv:∀t g,γ.tl t→γ.gl t g→γ'.hv t g=γ.hv t g
 vw:Keeps γ.vw γ'.vw
theorem Gh.Ext.refl (γ:Gh):Gh.Ext γ γ:=⟨fun _ h=>h,fun _ _=>rfl,fun _ h=>h,fun _ _=>rfl,fun _ _=>rfl,fun _ _ _ h=>h,fun _ _ _ _=>rfl,Keeps.refl _⟩
theorem Gh.Ext.trans {a b c} (h:Gh.Ext a b) (k:Gh.Ext b c):Gh.Ext a c:=
 ⟨fun t x=>k.tl t (h.tl t x),fun t x=>(k.tv t (h.tl t x)).trans (h.tv t x),fun t x=>k.bl t (h.bl t x),fun t x=>(k.bb t (h.bl t x)).trans (h.bb t x),fun t x=>(k.bo t (h.bl t x)).trans (h.bo t x),fun t g x y=>k.gl t g (h.tl t x) (h.gl t g x y),fun t g x y=>(k.hv t g (h.tl t x) (h.gl t g x y)).trans (h.hv t g x y),h.vw.trans k.vw⟩
def AV.pt:AV→Bool
 | .rop _ _| .nilp | .box _ _| .elt _ _ _ _| .els _ _ _ _ _ _=>true
 |_=>false
def AV.pts (vs:List AV):Bool:=vs.any AV.pt
def FnV (f:FuncId) (us:List Value) (v:Value):Prop:=(us=[] ∧v= .func (.func f) #[] #[])∨∃ws r,us= .agg ws::r∧v= .func (.func f) ws r.toArray
mutual
def VSim (w0:World) (γ:Gh):AV→Value→Prop
 | .any,_=>True
 | .int k n,v=>v= .int k n∧(Lit.int k n).wf =true
 | .bool b,v=>v= .bool b
 | .str s,v=>v= .string s∧s.size≤maxLen
 | .ro rows,v=>Rep w0 (.sl rows) v
 | .own t,v=>(γ.tl t∧∃a n c,γ.tv t= .slice a n c)∧v=γ.tv t
 | .box b off,v=>γ.bl b∧v= .pointer (some ⟨γ.bb b,γ.bo b+off,none⟩)
 | .bsl b n sz,v=>γ.bl b∧n≤maxLen∧v= .slice (some ⟨γ.bb b,γ.bo b,none⟩) n n
 | .rop vs off,v=>∃ (b o:Nat) (us:List Value),v= .pointer (some ⟨b,o+off,none⟩)∧AH w0 γ vs us∧(AV.pts vs=true→PF w0 b)∧∀j u,us[j]? =some u→w0.cell? ⟨b,o+j,none⟩=some u
 | .elt t sz i off,v=>γ.tl t∧∃g o n c,γ.tv t= .slice (some ⟨g,o,none⟩) n c∧v= .pointer (some ⟨g,o+i*sz+off,none⟩)
 | .sub t g p,v=>(γ.tl t∧γ.gl t g)∧(∃a n c,γ.hv t g p= .slice a n c)∧v=γ.hv t g p
 | .els t g p sz i off,v=>(γ.tl t∧γ.gl t g)∧∃b o n c,γ.hv t g p= .slice (some ⟨b,o,none⟩) n c∧v= .pointer (some ⟨b,o+i*sz+off,none⟩)
 | .par t sz i n,v=>γ.tl t∧∃a m c,γ.tv t= .slice a m c∧v= .slice (if c=i then a else a.map (·.add (i*sz))) n (c - i)
 | .agg vs,v=>∃us:List Value,v= .agg us.toArray∧AH w0 γ vs us
 | .tup vs,v=>∃us:List Value,v= .tuple us.toArray∧AH w0 γ vs us
 | .fn f caps,v=>∃us:List Value,FnV f us v∧AH w0 γ caps us
 | .nilp,v=>v= .pointer none
 | .nils,v=>v= .slice none 0 0
 | .mpr b,v=>γ.bl b∧v= .map (some (γ.bb b))
 | .mpc q rows,v=>rows.length≤68719476736∧∃es,v=S7 es∧Ba q rows es
def AH (w0:World) (γ:Gh):List AV→List Value→Prop
 | [],us=>us=[]
 |a::as,us=>∃u us',us=u::us'∧VSim w0 γ a u∧AH w0 γ as us'
end
theorem S8 {w w':World} {γ:Gh} (hk:Keeps w w') {vs:List AV} {us:List Value} {b o:Nat} (hs:AH w γ vs us) (hc:∀j u,us[j]? =some u→w.cell? ⟨b,o+j,none⟩=some u) (hp:AV.pts vs=true→PF w b):AV.pts vs=true→PF w' b:=by
 intro e
 cases vs with
 |nil=>cases e
 |cons a as=>
  simp only [AH] at hs
  obtain⟨u,p,rfl,-,-⟩:=hs
  exact hk.pf _ _ (hc 0 u rfl) (hp e)
mutual
theorem VSim.mono {w0 w1} {γ γ'} (hk:Keeps w0 w1) (he:Gh.Ext γ γ'):∀ {a} {v},VSim w0 γ a v→VSim w1 γ' a v
 | .any,_,_=>trivial
 | .int _ _,_,h=>by grind [VSim]
 | .bool _,_,h=>by grind [VSim]
 | .str _,_,h=>by grind [VSim]
 | .ro rows,_,h=>by grind [VSim,Rep.keep]
 | .own t,_,h=>by simp only [VSim] at h ⊢; exact⟨⟨he.tl t h.1.1,by rw [he.tv t h.1.1]; grind⟩,by rw [he.tv t h.1.1]; grind⟩
 | .box b off,_,h=>by simp only [VSim] at h ⊢; exact⟨he.bl b h.1,by rw [he.bb b h.1,he.bo b h.1]; grind⟩
 | .bsl b n sz,_,h=>by simp only [VSim] at h ⊢; exact⟨he.bl b h.1,h.2.1,by rw [he.bb b h.1,he.bo b h.1]; grind⟩
 | .rop vs off,_,h=>by
  simp only [VSim] at h ⊢
  obtain⟨b,o,us,hv,hs,hp,q⟩:=h
  exact⟨b,o,us,hv,AH.mono hk he hs,S8 hk hs q hp,fun j u C=>hk _ _ (q j u C)⟩
 | .elt t sz i off,_,h=>by simp only [VSim] at h ⊢; exact⟨he.tl t h.1,by rw [he.tv t h.1]; grind⟩
 | .par t sz i n,_,h=>by simp only [VSim] at h ⊢; exact⟨he.tl t h.1,by rw [he.tv t h.1]; grind⟩
 | .sub t g p,_,h=>by simp only [VSim] at h ⊢; rw [he.hv t g h.1.1 h.1.2]; exact⟨⟨he.tl t h.1.1,he.gl t g h.1.1 h.1.2⟩,h.2⟩
 | .els t g p sz i off,_,h=>by simp only [VSim] at h ⊢; rw [he.hv t g h.1.1 h.1.2]; exact⟨⟨he.tl t h.1.1,he.gl t g h.1.1 h.1.2⟩,h.2⟩
 | .agg vs,_,h=>by
  simp only [VSim] at h ⊢
  obtain⟨us,hv,hs⟩:=h
  exact⟨us,hv,AH.mono hk he hs⟩
 | .tup vs,_,h=>by
  simp only [VSim] at h ⊢
  obtain⟨us,hv,hs⟩:=h
  exact⟨us,hv,AH.mono hk he hs⟩
 | .fn f vs,_,h=>by
  simp only [VSim] at h ⊢
  obtain⟨us,hv,hs⟩:=h
  exact⟨us,hv,AH.mono hk he hs⟩
 | .nilp,_,h=>by grind [VSim]
 | .nils,_,h=>by grind [VSim]
 | .mpr b,_,h=>by simp only [VSim] at h ⊢; exact⟨he.bl b h.1,by rw [he.bb b h.1]; grind⟩
 | .mpc _ rows,_,h=>by grind [VSim]
theorem AH.mono {w0 w1} {γ γ'} (hk:Keeps w0 w1) (he:Gh.Ext γ γ'):∀ {as} {us},AH w0 γ as us→AH w1 γ' as us
 | [],_,h=>by grind [AH]
 |a::as,us,h=>by
  simp only [AH] at h ⊢
  obtain⟨u,j,rfl,h1,h2⟩:=h
  exact⟨u,j,rfl,VSim.mono hk he h1,AH.mono hk he h2⟩
end
theorem AH.length {w0} {γ}:∀ {as} {us},AH w0 γ as us→us.length=as.length
 | [],us,h=>by grind [AH]
 |a::as,us,h=>by
  simp only [AH] at h
  obtain⟨u,j,rfl,h1,h2⟩:=h
  simp [AH.length h2]
theorem AH.get {w0:World} {γ:Gh}:∀ {as:List AV} {us:List Value},AH w0 γ as us→∀ {i:Nat} {a:AV},as[i]? =some a→∃u,us[i]? =some u∧VSim w0 γ a u
 | [],us,h,i,a,hi=>by grind
 |a::as,us,h,0,b,hi=>by
  grind [AH]
 |a::as,us,h,i+1,b,hi=>by
  simp only [AH] at h
  obtain⟨u,j,rfl,h1,h2⟩:=h
  simpa using AH.get h2 (by simpa using hi)
theorem AH.mk {w0} {γ}:∀ {as} {us},us.length=as.length→(∀ (i:Nat) (a:AV) (u:Value),as[i]? =some a→us[i]? =some u→VSim w0 γ a u)→AH w0 γ as us
 | [],us,hl,h=>by grind [AH]
 |a::as,[],hl,h=>by grind
 |a::as,u::us,hl,h=>by
  simp only [AH]
  exact⟨u,us,rfl,h 0 a u rfl rfl,AH.mk (by simpa using hl) fun i a u h1 h2=>h (i+1) a u (by simpa using h1) (by simpa using h2)⟩
theorem AH.append {w0} {γ}:∀ {as bs} {us vs},AH w0 γ as us→AH w0 γ bs vs→AH w0 γ (as++bs) (us++vs)
 | [],bs,us,vs,h,k=>by grind [AH]
 |a::as,bs,us,vs,h,k=>by
  simp only [AH] at h
  obtain⟨u,j,rfl,h1,h2⟩:=h
  simp only [List.cons_append,AH]
  exact⟨u,j++vs,rfl,h1,AH.append h2 k⟩
def fnA (caps args:List AV):List AV:=match caps with
 | .agg fs::cs=>fs++(args++cs)
 |cs=>args++cs
def N1:List AV→Bool
 | [] =>true
 | .agg _::_=>true
 |_=>false
def fnU (us xs:List Value):List Value:=match us with
 | .agg ws::r=>ws.toList++(xs++r)
 |r=>xs++r
theorem bN {w0} {γ} {f} {caps args:List AV} {us xs:List Value} {v:Value} (ho:N1 caps=true) (hf:FnV f us v) (hc:AH w0 γ caps us) (ha:AH w0 γ args xs):
  AH w0 γ (fnA caps args) (fnU us xs)∧∃ws cs,v= .func (.func f) ws cs∧(fnU us xs).toArray =ws++xs.toArray++cs:=by
 cases caps with
 |nil=>
  simp only [AH] at hc
  subst hc
  rcases hf with ⟨-,rfl⟩|⟨ws,r,e,-⟩
  ·grind [fnU,fnA]
  grind
 | cons c cs=>
  simp only [AH] at hc
  obtain⟨u,j,rfl,h1,h2⟩:=hc
  rcases hf with ⟨e,-⟩|⟨ws,r,e,rfl⟩
  ·cases e
  ·cases e
   cases c with
   |agg fs=>
    simp only [VSim] at h1
    obtain⟨p,e,h3⟩:=h1
    cases e
    refine⟨?_,_,_,rfl,by simp [fnU]⟩
    simp only [fnA,fnU]
    exact h3.append (ha.append h2)
   |_=>cases ho
theorem AH.set {w0:World} {γ:Gh} {as:List AV} {us:List Value} (h:AH w0 γ as us) {a:AV} {u:Value} (hv:VSim w0 γ a u) (i:Nat):AH w0 γ (as.set i a) (us.set i u):=by
 have q:=h.length
 refine AH.mk (by grind) fun j b x hj hx=>?_
 rw [List.getElem?_set] at hj hx
 by_cases e:i=j
 ·grind
 ·rw [if_neg e] at hj hx
  obtain⟨p,h1,h2⟩:=h.get hj
  rw [h1] at hx; grind
structure Cx where
 P:Program
 we:World
 w0:World
 L:List (Nat × Nat × Nat)
 LF:Nat→Prop
 keep0:Keeps w0 we
 vw:∀g o,(LF g∨∃x ∈ L,x.1 =g)→w0.cell? ⟨g,o,none⟩=none
 low:∀g,(LF g∨∃x ∈ L,x.1 =g)→P.low≤g
 lowe:P.low≤we.heap.size
 amb:Amb P we
 g0:Gh
 g0w:g0.vw=w0
 pinT:∀t,g0.tl t→t<1000
 pinB:∀b,g0.bl b→b<1000
theorem WY {P} {w w'} (h:w.ShapedOpen P) (hb:Below w.heap.size w w'):w'.ShapedOpen P:=
 h.keptBut (hb.frame (fun _=>False)) (fun _ h=>h.elim)
def Hl (we w:World) (x:Nat × Nat × Nat):Prop:=
 (∃cs cs' e,we.heap[x.1]? =some (.cells cs e (0,0))∧w.heap[x.1]? =some (.cells cs' e (0,0))∧cs'.size=cs.size∧∀o,(o<x.2.1 ∨x.2.1 +x.2.2 ≤o)→cs'[o]? =cs[o]?)∨
 ∃es k es' k',we.heap[x.1]? =some (.map es k)∧w.heap[x.1]? =some (.map es' k')
theorem Hl.lt0 {we w} {x} (h:Hl we w x):x.1 <we.heap.size:=by
 rcases h with ⟨cs,cs',e,h1,-⟩|⟨es,k,es',k',h1,-⟩
 ·grind
 grind
theorem Hl.lt {we w} {x} (h:Hl we w x):x.1 <w.heap.size:=by
 rcases h with ⟨cs,cs',e,-,h1,-⟩|⟨es,k,es',k',-,h1⟩
 ·grind
 grind
theorem Hl.keep {we w w'} {x} (h:Hl we w x) (hk:w'.heap[x.1]? =w.heap[x.1]?):Hl we w' x:=by
 rcases h with ⟨cs,cs',e,h1,h2,h3⟩|⟨es,k,es',k',h1,h2⟩
 ·exact .inl ⟨cs,cs',e,h1,hk.trans h2,h3⟩
 ·exact .inr ⟨es,k,es',k',h1,hk.trans h2⟩
structure Frm (cx:Cx) (w:World):Prop where
 sh:w.ShapedOpen cx.P
 os:w.os=cx.we.os
 tape:w.tape=cx.we.tape
 output:w.output=cx.we.output
 size:cx.we.heap.size≤w.heap.size
 block:∀k,k<cx.we.heap.size→¬cx.LF k→(∀x ∈ cx.L,x.1 ≠k)→w.heap[k]? =cx.we.heap[k]?
 lent:∀x ∈ cx.L,Hl cx.we w x
theorem WZ {V w} (h:Keeps V w) {g o} (hg:w.heap.size≤g):V.cell? ⟨g,o,none⟩=none:=by
 cases hc:V.cell? ⟨g,o,none⟩ with
 |none=>rfl
 |some u=>
  have:=World.block_lt_of_cell? w _ (h _ u hc)
  grind
theorem KS {w:World} {a:Addr} {u:Value} (h:w.cell? a=some u):a=⟨a.block,a.off,none⟩:=by
 have:a.spot=none:=by
  unfold World.cell? at h
  split at h
  ·simp_all
  grind
 cases a; simp_all
def Ic (w:World) (blk base:Nat) (us:List Value):Prop:=
 ∃cs e,w.heap[blk]? =some (.cells cs e (0,0))∧∀j,j<us.length→cs[base+j]? =us[j]?
theorem Ic.pf {w} {blk base} {us} (h:Ic w blk base us):PF w blk:=by
 obtain⟨cs,e,h1,-⟩:=h
 exact⟨_,_,h1⟩
def Fw (w:World) (vs:List AV) (blk base:Nat) (us:List Value):Prop:=match isMp vs with
 |true=>base=0∧RY w blk us
 |false=>Ic w blk base us
theorem Fw.cells {w} {vs} {blk base} {us} (h:Fw w vs blk base us) (hm:isMp vs=false):Ic w blk base us:=by
 grind [Fw]
theorem Fw.of {w} {vs} {blk base} {us} (h:Ic w blk base us) (hm:isMp vs=false):Fw w vs blk base us:=by
 grind [Fw]
theorem Fw.map {w} {vs} {blk base} {us} (h:Fw w vs blk base us) (hm:isMp vs=true):base=0∧RY w blk us:=by
 grind [Fw]
theorem Fw.ofM {w} {vs} {blk} {us} (h:RY w blk us) (hm:isMp vs=true):Fw w vs blk 0 us:=by
 grind [Fw]
theorem Fw.as {w} {vs vs'} {blk base} {us} (h:Fw w vs blk base us) (hm:isMp vs'=isMp vs):Fw w vs' blk base us:=by
 grind [Fw]
def dA (w:World) (γ:Gh) (t:Nat) (tk:Tok):Prop:=
 γ.gl t tk.gen∧(∀g,γ.gl t g→g≤tk.gen)∧∀q d,At q (.sl tk.rows) d→isSl d→hdr w (γ.tv t) q=γ.hv t tk.gen q
theorem fX {V w w'} {d} {v} {fp} {q} {d1} (h:Own V w d v fp) (ha:At q d d1) (hs:isSl d1) (hk:∀g ∈ fp,w'.heap[g]? =w.heap[g]?):hdr w' v q=hdr w v q:=
 PC h ha hs fun g hg o a n c j=>by
  grind [World.cell?]
theorem dA.keep {V w w'} {γ} {t} {tk} (h:dA w γ t tk) {fp} (ho:Own V w (.sl tk.rows) (γ.tv t) fp) (hk:∀g ∈ fp,w'.heap[g]? =w.heap[g]?):dA w' γ t tk:=
 ⟨h.1,h.2.1,fun q r j hs=>(fX ho j hs hk).trans (h.2.2 q r j hs)⟩
structure VwA (cx:Cx) (γ:Gh) (T:Nat→Option Tok) (B:Nat→Option (List AV)) (w:World):Prop where
 k:Keeps γ.vw w
 t:∀t tk,γ.tl t→T t=some tk→∀g ∈ γ.tf t,∀o,γ.vw.cell? ⟨g,o,none⟩=none
 b:∀b vs,γ.bl b→B b=some vs→∀o,γ.vw.cell? ⟨γ.bb b,o,none⟩=none
 f:∀a u,γ.vw.cell? a=some u→cx.w0.cell? a=some u∨cx.we.heap.size≤a.block∨cx.LF a.block
structure OSim (cx:Cx) (γ:Gh) (T:Nat→Option Tok) (B:Nat→Option (List AV)) (w:World):Prop where
 frm:Frm cx w
 tok:∀t tk,γ.tl t→T t=some tk→Ae γ.vw w tk (γ.tv t) (γ.tf t)
 tnd:∀t tk,γ.tl t→T t=some tk→(γ.tf t).Nodup
 tds:∀t t' tk tk',t≠t'→γ.tl t→γ.tl t'→T t=some tk→T t'=some tk'→∀g ∈ γ.tf t,g ∉ γ.tf t'
 box:∀b vs,γ.bl b→B b=some vs→∃us,AH γ.vw γ vs us∧Fw w vs (γ.bb b) (γ.bo b) us
 bds:∀b b' vs vs',b≠b'→γ.bl b→γ.bl b'→B b=some vs→B b'=some vs'→γ.bb b≠γ.bb b'
 btd:∀b t vs tk,γ.bl b→γ.tl t→B b=some vs→T t=some tk→γ.bb b ∉ γ.tf t
 tfr:∀t tk,γ.tl t→T t=some tk→∀g ∈ γ.tf t,cx.we.heap.size≤g∨(cx.LF g∧∀x ∈ cx.L,x.1 ≠g)
 bfr:∀b vs,γ.bl b→B b=some vs→(cx.we.heap.size≤γ.bb b)∨(b<1000∧∃x ∈ cx.L,x.1 =γ.bb b∧x.2.1 =γ.bo b∧x.2.2 =vs.length∧∀y ∈ cx.L,y.1 =γ.bb b→y=x)
 hds:∀t tk,γ.tl t→T t=some tk→dA w γ t tk
 beg:Gh.Ext cx.g0 γ
 vw:VwA cx γ T B w
structure VwOk (w0:World) (γ:Gh) (T:Nat→Option Tok) (B:Nat→Option (List AV)) (w:World):Prop where
 keeps:Keeps w0 w
 tok:∀t tk,γ.tl t→T t=some tk→Ae w0 w tk (γ.tv t) (γ.tf t)
 box:∀b vs,γ.bl b→B b=some vs→∃us,AH w0 γ vs us∧Fw w vs (γ.bb b) (γ.bo b) us
 hds:∀t tk,γ.tl t→T t=some tk→dA w γ t tk
theorem Zj {cx} {γ} {T} {B} {w} (h:OSim cx γ T B w):Amb cx.P w:=
 fW cx.amb fun k hk=>h.frm.block k (Nat.lt_of_lt_of_le hk cx.lowe) (fun j=>absurd (cx.low k (.inl j)) (by omega)) (fun x hx e=>absurd (cx.low k (.inr ⟨x,hx,e⟩)) (by omega))
theorem OSim.see {cx} {γ} {T} {B} {w} (h:OSim cx γ T B w):VwOk γ.vw γ T B w:=⟨h.vw.k,h.tok,h.box,h.hds⟩
theorem Ic.lt {w} {blk base} {us} (h:Ic w blk base us):blk<w.heap.size:=by
 obtain⟨cs,e,h1,-⟩:=h
 grind
theorem Ic.keep {w w'} {blk base} {us} (h:Ic w blk base us) (hk:w'.heap[blk]? =w.heap[blk]?):Ic w' blk base us:=by
 obtain⟨cs,e,h1,h2⟩:=h
 exact⟨cs,e,hk.trans h1,h2⟩
theorem RY.lt {w} {blk} {us} (h:RY w blk us):blk<w.heap.size:=by
 obtain⟨j,k,h1,-⟩:=h
 grind
theorem RY.keep {w w'} {blk} {us} (h:RY w blk us) (hk:w'.heap[blk]? =w.heap[blk]?):RY w' blk us:=by
 obtain⟨j,k,h1,h2⟩:=h
 exact⟨j,k,hk.trans h1,h2⟩
theorem Fw.lt {w} {vs} {blk base} {us} (h:Fw w vs blk base us):blk<w.heap.size:=by
 unfold Fw at h
 split at h
 ·exact h.2.lt
 ·exact h.lt
theorem Fw.keep {w w'} {vs} {blk base} {us} (h:Fw w vs blk base us) (hk:w'.heap[blk]? =w.heap[blk]?):Fw w' vs blk base us:=by
 unfold Fw at h ⊢
 split
 ·rename_i hm; rw [hm] at h; exact⟨h.1,h.2.keep hk⟩
 ·rename_i hm; rw [hm] at h; exact Ic.keep h hk
theorem Ic.cell {w} {blk base} {us} (h:Ic w blk base us) {j} {u} (hj:us[j]? =some u):w.cell? ⟨blk,base+j,none⟩=some u:=by
 obtain⟨cs,e,h1,h2⟩:=h
 grind [World.cell?]
theorem Ic.set {w} {blk base} {us} (h:Ic w blk base us) {j} (hj:j<us.length) (v:Value):Ic (w.setCell ⟨blk,base+j,none⟩ v) blk base (us.set j v):=by
 have p:=h.lt
 obtain⟨cs,e,h1,h2⟩:=h
 have q:w.heap[blk] = .cells cs e (0,0):=by grind
 refine⟨cs.setIfInBounds (base+j) v,e,?_,fun i u=>?_⟩
 ·show (w.heap.modify blk _)[blk]? =_
  rw [Array.getElem?_eq_getElem (by grind),Array.getElem_modify_self,q]
  simp
 grind
theorem Frm.below {cx} {w w'} (h:Frm cx w) (hb:Below w.heap.size w w'):Frm cx w':=by
 refine⟨WY h.sh hb,hb.os.trans h.os,hb.tape.trans h.tape,hb.output.trans h.output,Nat.le_trans h.size hb.size,fun k hk h1 h2=>?_,fun x hx=>?_⟩
 ·rw [hb.block k (Nat.lt_of_lt_of_le hk h.size)]; exact h.block k hk h1 h2
 ·exact(h.lent x hx).keep (hb.block _ (h.lent x hx).lt)
theorem OSim.below {cx} {γ} {T} {B} {w w'} (h:OSim cx γ T B w) (hb:Below w.heap.size w w'):OSim cx γ T B w' where
 frm:=h.frm.below hb
 tok t tk h1 h2:=(h.tok t tk h1 h2).keep fun g hg=>hb.block g ((h.tok t tk h1 h2).lt g hg)
 tnd:=h.tnd
 tds:=h.tds
 box b vs h1 h2:=by
  obtain⟨us,h3,j⟩:=h.box b vs h1 h2
  exact⟨us,h3,j.keep (hb.block _ j.lt)⟩
 bds:=h.bds
 btd:=h.btd
 tfr:=h.tfr
 bfr:=h.bfr
 hds t tk h1 h2:=(h.hds t tk h1 h2).keep (h.tok t tk h1 h2).own fun g hg=>hb.block g ((h.tok t tk h1 h2).lt g hg)
 beg:=h.beg
 vw:=⟨h.vw.k.trans (Keeps.of_below hb),h.vw.t,h.vw.b,h.vw.f⟩
theorem OSim.tables {cx} {γ} {T T'} {B B'} {w} (h:OSim cx γ T B w)
  (hT:∀t tk,γ.tl t→T' t=some tk→T t=some tk) (hB:∀b vs,γ.bl b→B' b=some vs→B b=some vs):OSim cx γ T' B' w where
 frm:=h.frm
 tok t tk h1 h2:=h.tok t tk h1 (hT t tk h1 h2)
 tnd t tk h1 h2:=h.tnd t tk h1 (hT t tk h1 h2)
 tds t t' tk tk' hn h1 h2 h3 h4:=h.tds t t' tk tk' hn h1 h2 (hT t tk h1 h3) (hT t' tk' h2 h4)
 box b vs h1 h2:=h.box b vs h1 (hB b vs h1 h2)
 bds b b' vs vs' hn h1 h2 h3 h4:=h.bds b b' vs vs' hn h1 h2 (hB b vs h1 h3) (hB b' vs' h2 h4)
 btd b t vs tk h1 h2 h3 h4:=h.btd b t vs tk h1 h2 (hB b vs h1 h3) (hT t tk h2 h4)
 tfr t tk h1 h2:=h.tfr t tk h1 (hT t tk h1 h2)
 bfr b vs h1 h2:=h.bfr b vs h1 (hB b vs h1 h2)
 hds t tk h1 h2:=h.hds t tk h1 (hT t tk h1 h2)
 beg:=h.beg
 vw:=⟨h.vw.k,fun t tk h1 h2=>h.vw.t t tk h1 (hT t tk h1 h2),fun b vs h1 h2=>h.vw.b b vs h1 (hB b vs h1 h2),h.vw.f⟩
theorem OSim.ext {cx:Cx} {γ γ':Gh} (he:Gh.Ext γ γ') {vs:List AV} {us:List Value} (h:AH γ.vw γ vs us):AH γ'.vw γ' vs us:=AH.mono he.vw he h
def Gh.box (γ:Gh) (b blk:Nat):Gh:= {γ with bl:=fun x=>γ.bl x∨x=b,bb:=fun x=>if x=b then blk else γ.bb x,bo:=fun x=>if x=b then 0 else γ.bo x}
theorem Gh.box_ext {γ} {b blk} (hn:¬γ.bl b):Gh.Ext γ (γ.box b blk):=
 ⟨fun _ h=>h,fun _ _=>rfl,fun _ h=>.inl h,fun x h=>by show (if x=b then _ else _)=_; rw [if_neg (by grind)],fun x h=>by show (if x=b then _ else _)=_; rw [if_neg (by grind)],fun _ _ _ h=>h,fun _ _ _ _=>rfl,Keeps.refl _⟩
theorem OSim.newObj {cx} {γ} {T} {B} {w} (h:OSim cx γ T B w) {b} (hn:¬γ.bl b) {vs} (hB:B b=some vs) {us} (hv:AH γ.vw γ vs us) (o:Obj) (hbx:Fw (w.alloc o) vs w.heap.size 0 us):
  OSim cx (γ.box b w.heap.size) T B (w.alloc o):=by
 have G:Below w.heap.size w (w.alloc o):=(Below.refl _ _).alloc (Nat.le_refl _) _
 have O:=Gh.box_ext (blk:=w.heap.size) hn
 have p:=h.below G
 have j:∀x,(γ.box b w.heap.size).bb x=if x=b then w.heap.size else γ.bb x:=fun _=>rfl
 have v:∀x,(γ.box b w.heap.size).bo x=if x=b then 0 else γ.bo x:=fun _=>rfl
 have U:∀x vs,γ.bl x→B x=some vs→γ.bb x<w.heap.size:=fun x vs h1 h2=>by
  obtain⟨us,-,h3⟩:=h.box x vs h1 h2
  exact h3.lt
 refine⟨p.frm,p.tok,p.tnd,p.tds,?_,?_,?_,p.tfr,?_,p.hds,p.beg.trans O,⟨p.vw.k,p.vw.t,fun x q h1 h2 o=>?_,p.vw.f⟩⟩
 ·intro x q h1 h2
  by_cases hx:x=b
  ·subst hx
   rw [hB] at h2; cases h2
   refine⟨us,AH.mono (Keeps.refl _) O hv,?_⟩
   rw [j,v,if_pos rfl,if_pos rfl]
   omega
  ·have u:γ.bl x:=h1.resolve_right hx
   obtain⟨I,h3,F⟩:=p.box x q u h2
   refine⟨I,AH.mono (Keeps.refl _) O h3,?_⟩
   rw [j,v,if_neg hx,if_neg hx]; exact F
 ·intro x y q J C h1 h2 h3 F
  rw [j,j]
  by_cases hx:x=b
  ·subst hx
   have W:γ.bl y:=h2.resolve_right (fun e=>C e.symm)
   rw [if_pos rfl,if_neg (fun e=>C e.symm)]
   grind
  ·have u:γ.bl x:=h1.resolve_right hx
   rw [if_neg hx]
   by_cases hy:y=b
   ·rw [if_pos hy]; grind
   ·rw [if_neg hy]; exact h.bds x y q J C u (h2.resolve_right hy) h3 F
 ·intro x t q tk h1 h2 h3 F
  rw [j]
  by_cases hx:x=b
  ·rw [if_pos hx]
   intro hm
   have:=(h.tok t tk h2 F).lt _ hm; omega
  ·rw [if_neg hx]; exact h.btd x t q tk (h1.resolve_right hx) h2 h3 F
 ·intro x q h1 h2
  rw [j,v]
  by_cases hx:x=b
  ·rw [if_pos hx]; exact .inl h.frm.size
  ·rw [if_neg hx,if_neg hx]; exact h.bfr x q (h1.resolve_right hx) h2
 ·rw [j]
  by_cases hx:x=b
  ·rw [if_pos hx]; exact WZ h.vw.k (Nat.le_refl _)
  ·rw [if_neg hx]; exact h.vw.b x q (h1.resolve_right hx) h2 o
theorem OSim.newBox {cx} {γ} {T} {B} {w} (h:OSim cx γ T B w) {b} (hn:¬γ.bl b) {vs} (hB:B b=some vs) (hm:isMp vs=false) {us} (hv:AH γ.vw γ vs us) (e:TypeId):
  OSim cx (γ.box b w.heap.size) T B (w.alloc (.cells us.toArray e)):=
 h.newObj hn hB hv _ (Fw.of ⟨us.toArray,e,heap_alloc_new w _,fun j hj=>by simp⟩ hm)
theorem OSim.newMap {cx} {γ} {T} {B} {w} (h:OSim cx γ T B w) {b} (hn:¬γ.bl b) {q} (hB:B b=some [.mpc q []]):
  OSim cx (γ.box b w.heap.size) T B (w.alloc (.map #[] 0)):=
 h.newObj hn hB (us:=[S7 []]) (by simp only [AH,VSim]; exact⟨_,[],rfl,⟨Nat.zero_le _,[],rfl,rfl⟩,rfl⟩) _ (Fw.ofM ⟨#[],0,(MapKept.heap_alloc w _).1,rfl,MapKept.stamped_empty 0⟩ rfl)
def Gh.toks (γ:Gh) (w:World) (ids:List Nat) (tv:Nat→Value) (tf:Nat→List Nat):Gh:= {γ with tl:=fun x=>γ.tl x∨x ∈ ids,tv:=fun x=>if x ∈ ids then tv x else γ.tv x,tf:=fun x=>if x ∈ ids then tf x else γ.tf x,gl:=fun x g=>if x ∈ ids then g=0 else γ.gl x g,hv:=fun x g=>if x ∈ ids then hdr w (tv x) else γ.hv x g}
theorem Gh.toks_ext {γ} {w} {ids} {tv} {tf} (hn:∀t ∈ ids,¬γ.tl t):Gh.Ext γ (γ.toks w ids tv tf):=
 ⟨fun _ h=>.inl h,fun x h=>by show (if x ∈ ids then _ else _)=_; rw [if_neg (fun e=>hn x e h)],fun _ h=>h,fun _ _=>rfl,fun _ _=>rfl,fun x g h k=>by show (if x ∈ ids then _ else _); rw [if_neg (fun e=>hn x e h)]; exact k,fun x g h k=>by show (if x ∈ ids then _ else _)=_; rw [if_neg (fun e=>hn x e h)],Keeps.refl _⟩
theorem OSim.newToks {cx} {γ} {T} {B} {w w'} (h:OSim cx γ T B w) (hb:Below w.heap.size w w') {ids} (hn:∀t ∈ ids,¬γ.tl t) {tv} {tf}
  (hok:∀t ∈ ids,∀tk,T t=some tk→(Ae γ.vw w' tk (tv t) (tf t)∧(tf t).Nodup ∧∀g ∈ tf t,w.heap.size≤g)∧tk.gen=0) (hd:∀t ∈ ids,∀t' ∈ ids,t≠t'→∀g ∈ tf t,g ∉ tf t'):
  OSim cx (γ.toks w' ids tv tf) T B w':=by
 have Y:=Gh.toks_ext (w:=w') (tv:=tv) (tf:=tf) hn
 have p:=h.below hb
 have u:∀x,(γ.toks w' ids tv tf).tv x=if x ∈ ids then tv x else γ.tv x:=fun _=>rfl
 have j:∀x,(γ.toks w' ids tv tf).tf x=if x ∈ ids then tf x else γ.tf x:=fun _=>rfl
 refine⟨p.frm,?_,?_,?_,?_,p.bds,?_,?_,p.bfr,?_,p.beg.trans Y,⟨p.vw.k,?_,p.vw.b,p.vw.f⟩⟩
 ·intro t tk h1 h2
  rw [u,j]
  by_cases hx:t ∈ ids
  ·rw [if_pos hx,if_pos hx]; exact(hok t hx tk h2).1.1
  ·rw [if_neg hx,if_neg hx]; exact p.tok t tk (h1.resolve_right hx) h2
 ·intro t tk h1 h2
  rw [j]
  by_cases hx:t ∈ ids
  ·rw [if_pos hx]; grind
  ·rw [if_neg hx]; exact h.tnd t tk (h1.resolve_right hx) h2
 ·intro t t' tk F O h1 h2 h3 v g hg
  rw [j] at hg ⊢
  by_cases hx:t ∈ ids
  ·rw [if_pos hx] at hg
   by_cases hy:t' ∈ ids
   ·rw [if_pos hy]; grind
   ·rw [if_neg hy]
    intro hm
    have I:=(h.tok t' F (h2.resolve_right hy) v).lt _ hm
    grind
  ·rw [if_neg hx] at hg
   by_cases hy:t' ∈ ids
   ·rw [if_pos hy]
    intro hm
    have I:=(h.tok t tk (h1.resolve_right hx) h3).lt _ hg
    grind
   ·rw [if_neg hy]; exact h.tds t t' tk F O (h1.resolve_right hx) (h2.resolve_right hy) h3 v g hg
 ·intro b vs h1 h2
  obtain⟨us,h3,v⟩:=p.box b vs h1 h2
  exact⟨us,AH.mono (Keeps.refl _) Y h3,v⟩
 ·intro b t vs tk h1 h2 h3 v
  rw [j]
  by_cases hx:t ∈ ids
  ·rw [if_pos hx]
   intro hm
   obtain⟨us,-,I⟩:=h.box b vs h1 h3
   have h6:=(hok t hx tk v).1.2.2 _ hm
   have h7:=I.lt
   show False
   have h8:(γ.toks w' ids tv tf).bb b=γ.bb b:=rfl
   omega
  ·rw [if_neg hx]; exact h.btd b t vs tk h1 (h2.resolve_right hx) h3 v
 ·intro t tk h1 h2
  rw [j]
  by_cases hx:t ∈ ids
  ·rw [if_pos hx]; exact fun g hg=>.inl (Nat.le_trans h.frm.size ((hok t hx tk h2).1.2.2 g hg))
  ·rw [if_neg hx]; exact h.tfr t tk (h1.resolve_right hx) h2
 ·intro t tk h1 h2
  by_cases hx:t ∈ ids
  ·have C:∀g,(γ.toks w' ids tv tf).gl t g=(g=0):=fun g=>by show (if t ∈ ids then _ else _)=_; rw [if_pos hx]
   have J:∀g,(γ.toks w' ids tv tf).hv t g=hdr w' (tv t):=fun g=>by show (if t ∈ ids then _ else _)=_; rw [if_pos hx]
   have U:(γ.toks w' ids tv tf).tv t=tv t:=by rw [u,if_pos hx]
   have e0:=(hok t hx tk h2).2
   exact⟨by rw [C]; exact e0,fun g hg=>by rw [C] at hg; omega,fun q r W hs=>by rw [J,U]⟩
  ·have C:∀g,(γ.toks w' ids tv tf).gl t g=γ.gl t g:=fun g=>by show (if t ∈ ids then _ else _)=_; rw [if_neg hx]
   have J:∀g,(γ.toks w' ids tv tf).hv t g=γ.hv t g:=fun g=>by show (if t ∈ ids then _ else _)=_; rw [if_neg hx]
   have U:(γ.toks w' ids tv tf).tv t=γ.tv t:=by rw [u,if_neg hx]
   have G:=p.hds t tk (h1.resolve_right hx) h2
   exact⟨by rw [C]; exact G.1,fun g hg=>by rw [C] at hg; exact G.2.1 g hg,fun q r W hs=>by rw [J,U]; exact G.2.2 q r W hs⟩
 ·intro t tk h1 h2
  rw [j]
  by_cases hx:t ∈ ids
  ·rw [if_pos hx]; exact fun g hg o=>WZ h.vw.k ((hok t hx tk h2).1.2.2 g hg)
  ·rw [if_neg hx]; exact h.vw.t t tk (h1.resolve_right hx) h2
end Go.Proofs.YthenkmapmnkelaaGreatDoor.Ab
