/-
  Nets are split: the wires in order. No program is in sight.
-/
import Derived.Test.YtclmbjbbojdojaaGreatModS
import Derived.Test.YtclmbjbbojdojaaGreatPlNet
import Derived.Test.YtclmbjbbojdojaaGreatPlMN
import Derived.Test.YtclmbjbbojdojaaGreatModC
import Derived.Test.YtclmbjbbojdojaaGreatModN
import Derived.Test.YtclmbjbbojdojaaGreatAbZ
namespace Go.Proofs.YtclmbjbbojdojaaGreat.Ab
set_option linter.unusedVariables false
set_option maxHeartbeats 1000000
set_option linter.unusedSimpArgs false
open Go.RowKit
def bef (p q:Port):Bool:=decide (p.agent<q.agent)||(decide (p.agent=q.agent)&&decide (p.slot<q.slot))
theorem QB (p q:Port):Gr p q=some (bef p q):=by
 grind [Gr,bef]
theorem QC (p q:Port):Gd p q=some (bef p q):=QB p q
def IY (i:Nat):Nat→List Port→List Wire
 |_,[] =>[]
 |k,q::ps=>(if bef ⟨(i:Int),(k:Int)⟩ q=true then [⟨⟨(i:Int),(k:Int)⟩,q⟩] else [])++IY i (k+1) ps
def allW:Nat→List Agent→List Wire
 |_,[] =>[]
 |i,x::xs=>IY i 0 x.ports++allW (i+1) xs
theorem L5 (i:Nat):∀ (ps:List Port) (k:Nat),(IY i k ps).length ≤ps.length
 | [],_=>by simp [IY]
 |_::ps,k=>by
  have:=L5 i ps (k+1)
  rw [IY,List.length_append,List.length_cons]; split <;> simp <;> omega
theorem UA:∀ (l:List Agent) (i:Nat),(allW i l).length ≤szl (fun a=>a.ports.length) l
 | [],_=>by grind [allW]
 |x::l,i=>by
  have h1:=UA l (i+1)
  grind [L5,allW,szl]
theorem Y3 (A:List Agent) (i:Nat) (x:Agent) (hi:at? A (i:Int)=some x) (hx:x.Small) (Z:List Wire) (N:Nat):
  ∀ (post pre:List Port) (acc:List Wire) (m:Nat),x.ports=pre++post→acc.length+post.length≤Big→(∀m,N≤m→Bl m ⟨A⟩ (acc++IY i pre.length post) (IntKind.i64.wrap ((i:Int)+1))=some Z)→N+post.length+1≤m→Bm m ⟨A⟩ (i:Int) acc ((List.length pre:Nat):Int)=some Z:=by
 intro post
 induction post with
 |nil=>
  intro pre acc m h hacc hR hm
  obtain⟨m,rfl⟩:∃k,m=k+1:=⟨m - 1,by omega⟩
  rw [Bm]
  grind [IY]
 | cons p post ih=>
  intro pre acc m h hacc hR hm
  simp only [List.length_cons] at hm hacc
  obtain⟨m,rfl⟩:∃k,m=k+1:=⟨m - 1,by omega⟩
  rw [Bm]
  simp only
  rw [hi,AA,if_pos (CY h),AA,Bn h,AA,QB,AA]
  have hnext:∀acc':List Wire,acc'=acc++(if bef ⟨(i:Int),((List.length pre:Nat):Int)⟩ p=true then [⟨⟨(i:Int),((List.length pre:Nat):Int)⟩,p⟩] else [])→Bm m ⟨A⟩ (i:Int) acc' (IntKind.i64.wrap (((List.length pre:Nat):Int)+1))=some Z:=by
   intro acc' e
   rw [BC h hx.1]
   grind [IY]
  by_cases hb:bef ⟨(i:Int),((List.length pre:Nat):Int)⟩ p=true
  ·rw [if_pos hb,AA,Bn h,AA,GD (by grind),AA]
   grind
  grind
theorem Y4 (A:List Agent) (hl:A.length≤Big) (hs:∀a ∈ A,a.Small):∀ (post pre:List Agent) (acc:List Wire) (m:Nat),A=pre++post→acc.length+szl (fun a=>a.ports.length) post≤Big→2*szl (fun a=>a.ports.length) post+1≤m→
  Bl m ⟨A⟩ acc ((List.length pre:Nat):Int)=some (acc++allW pre.length post):=by
 intro post
 induction post with
 |nil=>
  intro pre acc m h hacc hm
  obtain⟨m,rfl⟩:∃k,m=k+1:=⟨m - 1,by omega⟩
  rw [Bl]
  grind [allW]
 |cons x post ih=>
  intro pre acc m h hacc hm
  simp only [szl] at hm hacc
  obtain⟨m,rfl⟩:∃k,m=k+1:=⟨m - 1,by omega⟩
  rw [Bl]
  simp only
  rw [if_pos (CY h)]
  refine Y3 A pre.length x (Bn h) (hs x (by rw [h]; simp)) _ (2*szl (fun a=>a.ports.length) post+1) x.ports [] acc m rfl (by omega) (fun k hk=>?_) (by omega)
  have:=L5 pre.length x.ports 0
  rw [BC h hl,ih (pre++[x]) _ k (A1 h) (by grind) hk,List.length_append,List.length_singleton,allW,List.append_assoc]
  rfl
theorem XM (n:Net) (h:n.Small):GR n=some (allW 0 n.agents):=by
 obtain⟨hl,hs⟩:=h.agents
 unfold GR
 have:=Y4 n.agents hl hs n.agents [] [] fuel rfl (by have:=h.1; grind) (by rw [B3]; have:=h.1; grind)
 simp_all
def wOf (l:List Agent) (p:Port):List Wire:=match Dv l p with
 |some q=>if bef p q=true then [⟨p,q⟩] else []
 |none=>[]
theorem M7 {l pre post:List Agent} {x:Agent} (h:l=pre++x::post):∀ (ps ppre:List Port),x.ports=ppre++ps→IY pre.length ppre.length ps=(GF pre.length ppre.length ps).flatMap (wOf l)
 | [],_,_=>by rfl
 |p::ps,ppre,hx=>by
  have:=M7 h ps (ppre++[p]) (A1 hx)
  rw [List.length_append,List.length_singleton] at this
  rw [IY,GF,List.flatMap_cons,this,wOf,SR h hx]
theorem QD {l:List Agent}:∀ (post pre:List Agent),l=pre++post→allW pre.length post=(B2 pre.length post).flatMap (wOf l)
 | [],_,_=>by rfl
 |x::post,pre,h=>by
  have h1:=QD post (pre++[x]) (A1 h)
  rw [List.length_append,List.length_singleton] at h1
  have h2:=M7 h x.ports [] rfl
  rw [List.length_nil] at h2
  rw [allW,B2,List.flatMap_append,h1,h2]
end Go.Proofs.YtclmbjbbojdojaaGreat.Ab
namespace Go.Proofs.YtclmbjbbojdojaaGreat.Ab
set_option linter.unusedVariables false
set_option maxHeartbeats 1000000
set_option linter.unusedSimpArgs false
open Go.RowKit
section
variable {α:Type} {l:List α} {i j:Int} {x y:α}
theorem SU (h:at? l i=some x):0≤i:=(JR h).1
theorem H5 (h:at? l i=some x):x ∈ l:=List.mem_of_getElem? (JR h).2
theorem Rn (h:at? l i=some x):i<(l.length:Int):=by
 have:=JR h
 have:=(List.getElem?_eq_some_iff.1 this.2).1
 omega
theorem V5 (h0:0≤i) (h1:i<(l.length:Int)):∃x,at? l i=some x:=by
 unfold at?
 rw [if_pos h0]
 exact⟨_,List.getElem?_eq_getElem (by omega)⟩
theorem No (h:at? l i=some x):at? (l.set i.toNat y) j=if j=i then some y else at? l j:=by
 have h0:=SU h
 have h1:=Rn h
 unfold at?
 by_cases e:j=i
 ·subst e
  rw [if_pos h0,if_pos rfl,List.getElem?_set_self (by omega)]
 ·rw [if_neg e]
  by_cases hj:0≤j
  ·rw [if_pos hj,if_pos hj,List.getElem?_set_ne (by omega)]
  ·rw [if_neg hj,if_neg hj]
theorem HI:Ah l i y=some (l.set i.toNat y):=rfl
theorem O6:at? (l++[y]) i=if i=(l.length:Int) then some y else at? l i:=by
 unfold at?
 by_cases e:i=(l.length:Int)
 ·subst e
  rw [if_pos (by omega),if_pos rfl]
  simp
 ·rw [if_neg e]
  by_cases h0:0≤i
  ·rw [if_pos h0,if_pos h0]
   by_cases h:i.toNat<l.length
   ·rw [List.getElem?_append_left h]
   ·rw [List.getElem?_eq_none (by simp; omega),List.getElem?_eq_none (by omega)]
  ·rw [if_neg h0,if_neg h0]
theorem mem_set {z:α} (h:z ∈ l.set i.toNat y):z ∈ l∨z=y:=List.mem_or_eq_of_mem_set h
end
structure CellOf (a:Agent) (c:ShardCell):Prop where
 k:c.kind=a.kind
 l:c.level=a.level
 v:c.value=a.value
 d:c.data=a.data
 x:c.aux.length+1=a.ports.length
structure ShOk (A:List Agent) (C B:Nat) (s:Shard):Prop where
 c:∀c ∈ s.cells,∃a ∈ A.drop 1,CellOf a c
 v:∀v ∈ s.vars,v=⟨true,false,⟨0,0,0⟩⟩
 cl:s.cells.length≤C
 vl:s.vars.length≤B
 rl:s.redexes.length≤B
theorem ShOk.mono {A C B B' s} (h:ShOk A C B s) (hb:B≤B'):ShOk A C B' s:=⟨h.c,h.v,h.cl,Nat.le_trans h.vl hb,Nat.le_trans h.rl hb⟩
structure GOk (A:List Agent) (o:List Int) (m n:Nat) (B:Nat) (at_:List Address) (g:Grid):Prop where
 len:g.shards.length=m
 own:∀k w,at? o k=some w→0≤w∧w<(m:Int)
 ol:o.length=A.length
 cell:∀ (k:Int) a,at? A k=some a→0<k→k<(n:Int)→∃w s c,at? at_ k=some w∧at? o k=some w.machine∧at? g.shards w.machine=some s∧at? s.cells w.index=some c∧CellOf a c
 sh:∀s ∈ g.shards,ShOk A n B s
theorem GOk.mono {A o m n B B' at_ g} (h:GOk A o m n B at_ g) (hb:B≤B'):GOk A o m n B' at_ g:=⟨h.len,h.own,h.ol,h.cell,fun s hs=>(h.sh s hs).mono hb⟩
theorem GOk.owner {A o m n B at_ g} (h:GOk A o m n B at_ g) {k a} (ha:at? A k=some a):∃w s,at? o k=some w∧at? g.shards w=some s∧s ∈ g.shards:=by
 have h0:=SU ha
 have h1:=Rn ha
 obtain⟨w,hw⟩:=V5 (l:=o) h0 (by rw [h.ol]; exact h1)
 obtain⟨h2,h3⟩:=h.own k w hw
 obtain⟨s,hs⟩:=V5 (l:=g.shards) h2 (by rw [h.len]; exact h3)
 exact⟨w,s,hw,hs,H5 hs⟩
theorem GOk.put {A o m n B B' at_ g} (h:GOk A o m n B at_ g) (hb:B≤B') {i:Int} {s s':Shard} (hi:at? g.shards i=some s) (hs:ShOk A n B' s')
  (hc:∀j c,at? s.cells j=some c→∃c',at? s'.cells j=some c'∧∀a,CellOf a c→CellOf a c') (r:Address):GOk A o m n B' at_ ⟨g.shards.set i.toNat s',r⟩:=by
 refine⟨by simp only [List.length_set]; exact h.len,h.own,h.ol,fun k a ha h0 hk=>?_,fun t ht=>?_⟩
 ·obtain⟨w,t,c,h1,h2,h3,h4,h5⟩:=h.cell k a ha h0 hk
  by_cases e:w.machine=i
  ·rw [e,hi] at h3
   obtain rfl:=Option.some.inj h3
   obtain⟨c',h6,h7⟩:=hc _ _ h4
   exact⟨w,s',c',h1,h2,by simp only; rw [No hi,if_pos e],h6,h7 a h5⟩
  ·exact⟨w,t,c,h1,h2,by simp only; rw [No hi,if_neg e]; exact h3,h4,h5⟩
 ·rcases mem_set ht with ht|rfl
  ·exact(h.sh t ht).mono hb
  ·exact hs
theorem GOk.root {A o m n B at_ g} (h:GOk A o m n B at_ g) (r:Address):GOk A o m n B at_ ⟨g.shards,r⟩:=⟨h.len,h.own,h.ol,h.cell,h.sh⟩
def prB' (p:Port):Bool:=decide (p.slot=0)&&decide (0<p.agent)
theorem SV {A o m B at_ g} (hA:∀a ∈ A,a.Small) (h:GOk A o m A.length B at_ g) {p q:Port} (hp:Dv A p=some q) (hn:prB' p=false) (a:Address):∃g',s_l27Set g at_ p a=some g'∧GOk A o m A.length B at_ g':=by
 unfold s_l27Set
 by_cases h0:p.agent=0
 ·rw [decide_eq_true h0,if_pos rfl]
  exact⟨_,rfl,h.root a⟩
 ·rw [decide_eq_false h0,if_neg (by simp)]
  unfold Dv at hp
  cases hx:at? A p.agent with
  |none=>rw [hx] at hp; cases hp
  | some x=>
   rw [hx] at hp
   simp only [Option.bind_some] at hp
   have hpa:=SU hx
   have hps:=SU hp
   have hpl:=Rn hp
   have hs0:p.slot≠0:=fun e=>by simp [prB',e] at hn; omega
   obtain⟨w,s,c,h1,h2,h3,h4,h5⟩:=h.cell p.agent x hx (by omega) (Rn hx)
   have hw:IntKind.i64.wrap (p.slot - 1)=p.slot - 1:=by
    have:=h5.x
    have hlen:=(hA x (H5 hx)).1
    unfold Big at hlen
    exact w64 (by omega) (by omega)
   obtain⟨y,hy⟩:=V5 (l:=c.aux) (i:=p.slot - 1) (by omega) (by have:=h5.x; omega)
   rw [h1,AA,h3,AA,AA,h4,AA,hw,hy,AA,HI,AA,HI,AA,HI,AA]
   refine⟨_,rfl,h.put (s':=⟨s.cells.set w.index.toNat ⟨c.kind,c.level,c.value,c.data,c.aux.set (p.slot - 1).toNat a⟩,s.vars,s.redexes⟩) (Nat.le_refl _) h3 ⟨fun c' hc'=>?_,(h.sh s (H5 h3)).v,by simp only [List.length_set]; exact(h.sh s (H5 h3)).cl,(h.sh s (H5 h3)).vl,(h.sh s (H5 h3)).rl⟩ (fun j c' hj=>?_) g.root⟩
   ·rcases mem_set hc' with hc'|rfl
    ·exact(h.sh s (H5 h3)).c c' hc'
    ·obtain⟨a',ha',hca⟩:=(h.sh s (H5 h3)).c c (H5 h4)
     exact⟨a',ha',⟨hca.k,hca.l,hca.v,hca.d,by simp only [List.length_set]; exact hca.x⟩⟩
   ·simp only
    rw [No h4]
    by_cases e:j=w.index
    ·subst e
     rw [h4] at hj
     obtain rfl:=Option.some.inj hj
     exact⟨_,if_pos rfl,fun a' hca=>⟨hca.k,hca.l,hca.v,hca.d,by simp only [List.length_set]; exact hca.x⟩⟩
    ·exact⟨c',by rw [if_neg e]; exact hj,fun _ h=>h⟩
theorem bC (x:Splitter) (p:Port) (a:Address):Cl x p a=(s_l27Set x.grid x.att p a).map fun g=>⟨x.n,x.owners,g,x.att⟩:=by
 unfold Cl s_l27Set
 by_cases h0:p.agent=0
 ·simp [h0]
 ·rw [decide_eq_false h0,if_neg (by simp),if_neg (by simp)]
  cases h1:at? x.att p.agent with
  |none=>rfl
  | some w=>
   simp only [Option.bind_some]
   cases h2:at? x.grid.shards w.machine with
   |none=>rfl
   | some s=>
    simp only [Option.bind_some]
    cases h3:at? s.cells w.index with
    |none=>rfl
    |some c=>
     simp only [Option.bind_some]
     cases h4:at? c.aux (IntKind.i64.wrap (p.slot - 1)) with
     |none=>rfl
     |some y=>rfl
end Go.Proofs.YtclmbjbbojdojaaGreat.Ab
namespace Go.Proofs.YtclmbjbbojdojaaGreat.Ab
set_option linter.unusedVariables false
set_option maxHeartbeats 1000000
set_option linter.unusedSimpArgs false
open Go.RowKit
def OV (o:List Int) (at_:List Address) (g:Grid) (p q:Port):Option Grid:=
 if (prB' p&&prB' q)=true then
  Option.bind (at? o p.agent) fun w=>Option.bind (at? g.shards w) fun s=>Option.bind (at? at_ p.agent) fun x=>Option.bind (at? at_ q.agent) fun y=>Option.bind (app? s.redexes [⟨x,y⟩]) fun r=>some ⟨g.shards.set w.toNat ⟨s.cells,s.vars,r⟩,g.root⟩
 else if prB' p=true then Option.bind (at? at_ p.agent) fun x=>s_l27Set g at_ q x
 else if prB' q=true then Option.bind (at? at_ q.agent) fun x=>s_l27Set g at_ p x
 else Option.bind (at? o p.agent) fun w=>Option.bind (at? g.shards w) fun s=>Option.bind (app? s.vars [⟨true,false,⟨0,0,0⟩⟩]) fun v=>
  Option.bind (s_l27Set ⟨g.shards.set w.toNat ⟨s.cells,v,s.redexes⟩,g.root⟩ at_ p ⟨w,2,((List.length s.vars:Nat):Int)⟩) fun g1=>s_l27Set g1 at_ q ⟨w,2,((List.length s.vars:Nat):Int)⟩
theorem XN {p:Port} (h:prB' p=true):p.slot=0∧0<p.agent:=by simpa [prB'] using h
theorem Jd {A:List Agent} {p q:Port} (h:Dv A p=some q):∃x,at? A p.agent=some x∧at? x.ports p.slot=some q:=by
 unfold Dv at h
 cases hx:at? A p.agent with
 |none=>rw [hx] at h; cases h
 |some x=>rw [hx] at h; exact⟨x,rfl,h⟩
theorem GOk.addr {A o m B at_ g} (h:GOk A o m A.length B at_ g) {p q:Port} (hp:Dv A p=some q) (hn:prB' p=true):∃x,at? at_ p.agent=some x:=by
 obtain⟨x,hx,-⟩:=Jd hp
 obtain⟨w,_,_,h1,-⟩:=h.cell p.agent x hx (XN hn).2 (Rn hx)
 exact⟨w,h1⟩
theorem Y5 {A o m B at_ g} (hA:∀a ∈ A,a.Small) (h:GOk A o m A.length B at_ g) (hB:B<Big) {p q r:Port} (hp:Dv A p=some q) (hq:Dv A q=some r):∃g',OV o at_ g p q=some g'∧GOk A o m A.length (B+1) at_ g':=by
 unfold OV
 obtain⟨x,hx,-⟩:=Jd hp
 obtain⟨w,s,hw,hs,hsm⟩:=h.owner hx
 have hso:=h.sh s hsm
 by_cases h1:prB' p=true
 ·by_cases h2:prB' q=true
  ·obtain⟨a,ha⟩:=h.addr hp h1
   obtain⟨b,hb⟩:=h.addr hq h2
   rw [if_pos (by rw [h1,h2]; rfl),hw,AA,hs,AA,ha,AA,hb,AA,GD (by have:=hso.rl; simp only [List.length_cons,List.length_nil]; omega),AA]
   exact⟨_,rfl,h.put (s':=⟨s.cells,s.vars,s.redexes++[⟨a,b⟩]⟩) (Nat.le_succ _) hs ⟨hso.c,hso.v,hso.cl,Nat.le_succ_of_le hso.vl,by simp only [List.length_append,List.length_cons,List.length_nil]; have:=hso.rl; omega⟩ (fun j c hj=>⟨c,hj,fun _ h=>h⟩) g.root⟩
  ·obtain⟨a,ha⟩:=h.addr hp h1
   rw [if_neg (by rw [h1]; simpa using h2),if_pos h1,ha,AA]
   obtain⟨g',h3,h4⟩:=SV hA h hq (by simpa using h2) a
   exact⟨g',h3,h4.mono (Nat.le_succ _)⟩
 ·rw [if_neg (by simp [h1]),if_neg h1]
  by_cases h2:prB' q=true
  ·obtain⟨b,hb⟩:=h.addr hq h2
   rw [if_pos h2,hb,AA]
   obtain⟨g',h3,h4⟩:=SV hA h hp (by simpa using h1) b
   exact⟨g',h3,h4.mono (Nat.le_succ _)⟩
  ·rw [if_neg h2,hw,AA,hs,AA,GD (by have:=hso.vl; simp only [List.length_cons,List.length_nil]; omega),AA]
   have h3:=h.put (s':=⟨s.cells,s.vars++[⟨true,false,⟨0,0,0⟩⟩],s.redexes⟩) (Nat.le_succ B) hs ⟨hso.c,fun v hv=>by
    rcases List.mem_append.1 hv with hv|hv
    ·exact hso.v v hv
    ·simpa using hv,hso.cl,by simp only [List.length_append,List.length_cons,List.length_nil]; have:=hso.vl; omega,Nat.le_succ_of_le hso.rl⟩ (fun j c hj=>⟨c,hj,fun _ h=>h⟩) g.root
   obtain⟨g1,h4,h5⟩:=SV hA h3 hp (by simpa using h1) ⟨w,2,((List.length s.vars:Nat):Int)⟩
   rw [h4,AA]
   exact SV hA h5 hq (by simpa using h2) _
theorem QE (p:Port):Ba p=some (prB' p):=by
 unfold Ba prB'
 by_cases h:p.slot=0 <;> simp [h]
theorem Y6 (x:Splitter) (p q:Port) {w:Int} {s:Shard} (hw:at? x.owners p.agent=some w) (hs:at? x.grid.shards w=some s):Da x p q=(OV x.owners x.att x.grid p q).map fun g=>⟨x.n,x.owners,g,x.att⟩:=by
 have hj:Da x p q=CW x p q w (prB' p&&prB' q):=by
  unfold Da
  rw [hw,AA,hs,AA,QE,AA,QE,AA]
  cases prB' p <;> simp
 rw [hj]
 unfold CW OV
 simp only [hw,hs,QE,AA,bC,HE,HI]
 by_cases h1:(prB' p&&prB' q)=true
 ·rw [if_pos h1,if_pos h1]
  cases at? x.att p.agent with
  |none=>rfl
  | some a=>
   simp only [Option.bind_some]
   cases at? x.att q.agent with
   |none=>rfl
   |some b=>
    simp only [Option.bind_some]
    cases app? s.redexes [⟨a,b⟩] with
    |none=>rfl
    |some r=>rfl
 ·rw [if_neg h1,if_neg h1]
  by_cases h2:prB' p=true
  ·rw [if_pos h2,if_pos h2]
   cases at? x.att p.agent with
   |none=>rfl
   |some a=>
    simp only [Option.bind_some]
    cases s_l27Set x.grid x.att q a <;> rfl
  ·rw [if_neg h2,if_neg h2]
   by_cases h3:prB' q=true
   ·rw [if_pos h3,if_pos h3]
    cases at? x.att q.agent with
    |none=>rfl
    |some a=>
     simp only [Option.bind_some]
     cases s_l27Set x.grid x.att p a <;> rfl
   ·rw [if_neg h3,if_neg h3]
    cases app? s.vars [⟨true,false,⟨0,0,0⟩⟩] with
    |none=>rfl
    | some v=>
     simp only [Option.bind_some]
     cases h4:s_l27Set ⟨x.grid.shards.set w.toNat ⟨s.cells,v,s.redexes⟩,x.grid.root⟩ x.att p ⟨w,2,((List.length s.vars:Nat):Int)⟩ with
     |none=>rfl
     |some g1=>
      simp only [Option.map_some,Option.bind_some]
      cases s_l27Set g1 x.att q ⟨w,2,((List.length s.vars:Nat):Int)⟩ <;> rfl
def Y7 (o:List Int) (at_:List Address):Grid→List Wire→Option Grid
 |g,[] =>some g
 |g,w::ws=>Option.bind (OV o at_ g w.a w.b) fun g'=>Y7 o at_ g' ws
theorem hG (n:Nat) (o:List Int) (at_:List Address) (W:List Wire) (g:Grid) (i:Int) (w:Wire) (hi:decide (i<((List.length W:Nat):Int))=true) (hw:at? W i=some w):
  Al (n+4) o at_ W g.shards g.root.machine g.root.kind g.root.index i=Option.bind (OV o at_ g w.a w.b) fun g'=>Al n o at_ W g'.shards g'.root.machine g'.root.kind g'.root.index (IntKind.i64.wrap (i+1)):=by
 have e22:Al (n+4) o at_ W g.shards g.root.machine g.root.kind g.root.index i=Cj (n+3) o at_ g.shards g.root.machine g.root.kind g.root.index i W w w (prB' w.a):=by
  rw [Al,if_pos hi,hw,AA,AA]
  unfold prB'
  by_cases h:w.a.slot=0 <;> simp [h]
 have e23:Cj (n+3) o at_ g.shards g.root.machine g.root.kind g.root.index i W w w (prB' w.a)=Ck (n+2) o at_ g.shards g.root.machine g.root.kind g.root.index i (prB' w.a) W w w (prB' w.b):=by
  rw [Cj]
  generalize prB' w.a=b
  unfold prB'
  by_cases h:w.b.slot=0 <;> simp [h]
 have e24:Ck (n+2) o at_ g.shards g.root.machine g.root.kind g.root.index i (prB' w.a) W w w (prB' w.b)=DK (n+1) o at_ g.shards g.root.machine g.root.kind g.root.index i (prB' w.a) (prB' w.b) W w w (prB' w.a&&prB' w.b):=by
  rw [Ck]
  cases prB' w.a <;> simp
 rw [e22,e23,e24,DK]
 unfold OV
 simp only [HI,AA]
 by_cases h1:(prB' w.a&&prB' w.b)=true
 ·rw [if_pos h1,if_pos h1]
  cases at? o w.a.agent with
  |none=>rfl
  | some x=>
   simp only [Option.bind_some]
   cases at? g.shards x with
   |none=>rfl
   | some s=>
    simp only [Option.bind_some]
    cases at? at_ w.a.agent with
    |none=>rfl
    | some a=>
     simp only [Option.bind_some]
     cases at? at_ w.b.agent with
     |none=>rfl
     |some b=>
      simp only [Option.bind_some]
      cases app? s.redexes [⟨a,b⟩] <;> rfl
 ·rw [if_neg h1,if_neg h1]
  by_cases h2:prB' w.a=true
  ·rw [if_pos h2,if_pos h2]
   cases at? at_ w.a.agent <;> rfl
  ·rw [if_neg h2,if_neg h2]
   by_cases h3:prB' w.b=true
   ·rw [if_pos h3,if_pos h3]
    cases at? at_ w.b.agent <;> rfl
   ·rw [if_neg h3,if_neg h3]
    cases ho:at? o w.a.agent with
    |none=>rfl
    | some x=>
     simp only [Option.bind_some]
     cases at? g.shards x with
     |none=>rfl
     | some s=>
      simp only [Option.bind_some]
      cases app? s.vars [⟨true,false,⟨0,0,0⟩⟩] with
      |none=>rfl
      |some v=>
       simp only [Option.bind_some]
       cases s_l27Set ⟨g.shards.set x.toNat ⟨s.cells,v,s.redexes⟩,g.root⟩ at_ w.a ⟨x,2,((List.length s.vars:Nat):Int)⟩ <;> rfl
theorem Ro (o:List Int) (at_:List Address) (W:List Wire) (hW:W.length≤Big):∀ (post pre:List Wire) (n:Nat) (g g':Grid),W=pre++post→Y7 o at_ g post=some g'→4*post.length<n→
  Al n o at_ W g.shards g.root.machine g.root.kind g.root.index ((List.length pre:Nat):Int)=BO fuel g'.shards g'.root.machine g'.root.kind g'.root.index 0
 | [],pre,n,g,g',h,hr,hn=>by
  obtain⟨n,rfl⟩:∃k,n=k+1:=⟨n - 1,by omega⟩
  cases hr
  rw [Al,DR h,if_neg (by simp)]
 | w::post,pre,n,g,g',h,hr,hn=>by
  simp only [List.length_cons] at hn
  obtain⟨n,rfl⟩:∃k,n=k+4:=⟨n - 4,by omega⟩
  rw [hG n o at_ W g _ w (CY h) (Bn h)]
  rw [Y7] at hr
  cases hs:OV o at_ g w.a w.b with
  |none=>rw [hs] at hr; cases hr
  |some g1=>
   rw [hs] at hr
   rw [AA,BC h hW]
   exact Ro o at_ W hW post (pre++[w]) n g1 g' (A1 h) hr (by omega)
end Go.Proofs.YtclmbjbbojdojaaGreat.Ab
namespace Go.Proofs.YtclmbjbbojdojaaGreat.Ab
set_option linter.unusedVariables false
set_option maxHeartbeats 1000000
set_option linter.unusedSimpArgs false
open Go.RowKit
theorem Iy {l:List Int} (h:l.length≤Big):FN l=some l:=by
 unfold FN
 rw [GD (by simpa using h),AA,List.nil_append]
theorem Fg {l:List Int} (h:l.length≤Big):BB l=some l:=Iy h
theorem GOk.cell1 {A o m n at_ S r} (h:GOk A o m n 0 at_ ⟨S,r⟩) (hn:at_.length=n) (h1:1≤n) {x:Agent} (hx:at? A (n:Int)=some x) (hp:1≤x.ports.length) (hm:x ∈ A.drop 1) {w:Int} {s:Shard} (hw:at? o (n:Int)=some w) (hs:at? S w=some s):
  GOk A o m (n+1) 0 (at_++[⟨w,1,((List.length s.cells:Nat):Int)⟩]) ⟨S.set w.toNat ⟨s.cells++[⟨x.kind,x.level,x.value,x.data,List.replicate (x.ports.length - 1) ⟨0,0,0⟩⟩],s.vars,s.redexes⟩,r⟩:=by
 have hso:=h.sh s (H5 hs)
 have hc:CellOf x ⟨x.kind,x.level,x.value,x.data,List.replicate (x.ports.length - 1) ⟨0,0,0⟩⟩:=⟨rfl,rfl,rfl,rfl,by simp only [List.length_replicate]; omega⟩
 refine⟨by simp only [List.length_set]; exact h.len,h.own,h.ol,fun k a ha h0 hk=>?_,fun t ht=>?_⟩
 ·by_cases e:k=(n:Int)
  ·subst e
   rw [hx] at ha
   obtain rfl:=Option.some.inj ha
   exact⟨⟨w,1,((List.length s.cells:Nat):Int)⟩,_,_,by rw [O6,if_pos (by rw [hn])],hw,by simp only; rw [No hs,if_pos rfl],by simp only; rw [O6,if_pos rfl],hc⟩
  ·obtain⟨v,t,c,h2,h3,h4,h5,h6⟩:=h.cell k a ha h0 (by omega)
   refine⟨v,?_⟩
   rw [O6,if_neg (by rw [hn]; exact e)]
   by_cases e2:v.machine=w
   ·rw [e2] at h4
    simp only at h4
    rw [hs] at h4
    obtain rfl:=Option.some.inj h4
    exact⟨_,c,h2,h3,by simp only; rw [e2,No hs,if_pos rfl],by simp only; rw [O6,if_neg (by have:=Rn h5; omega)]; exact h5,h6⟩
   ·exact⟨t,c,h2,h3,by simp only; rw [No hs,if_neg e2]; exact h4,h5,h6⟩
 ·rcases mem_set ht with ht|rfl
  ·have:=h.sh t ht
   exact⟨this.c,this.v,Nat.le_succ_of_le this.cl,this.vl,this.rl⟩
  ·refine⟨fun c hc'=>?_,hso.v,by simp only [List.length_append,List.length_cons,List.length_nil]; have:=hso.cl; omega,hso.vl,hso.rl⟩
   rcases List.mem_append.1 hc' with hc'|hc'
   ·exact hso.c c hc'
   ·rw [List.mem_singleton.1 hc']
    exact⟨x,hm,hc⟩
theorem QF (a0:Agent) (R:List Agent) (o:List Int) (m:Nat) (r:Address) (hA:∀a ∈ a0::R,a.Small∧1≤a.ports.length) (hR:R.length<Big):∀ (post pre:List Agent) (S:List Shard) (at_:List Address),R=pre++post→at_.length=pre.length+1→GOk (a0::R) o m (pre.length+1) 0 at_ ⟨S,r⟩→
  ∃S' at',GOk (a0::R) o m (a0::R).length 0 at' ⟨S',r⟩∧
   (∀n,post.length<n→Cf n ⟨a0::R⟩ o S at_ ((List.length (a0::pre):Nat):Int)=Option.bind (GR ⟨a0::R⟩) fun W=>Al fuel o at' W S' 0 0 0 0)∧
   (∀n,post.length<n→DD n ⟨a0::R⟩ o R S at_ ((List.length pre:Nat):Int)=Option.bind (Ex ⟨a0::R⟩) fun ps=>BD fuel ⟨a0::R⟩ o at' ps (a0::R) S' 0 0 0 0)
 | [],pre,S,at_,h,hl,hg=>by
  have e1:(a0::R).length =pre.length+1:=by rw [h]; simp
  refine⟨S,at_,by rw [e1]; exact hg,fun n hn=>?_,fun n hn=>?_⟩
  ·obtain⟨n,rfl⟩:∃k,n=k+1:=⟨n - 1,by omega⟩
   rw [Cf]
   simp only
   have e:a0::R=(a0::pre)++[] :=by rw [h]; simp
   rw [DR e,if_neg (by simp)]
  ·obtain⟨n,rfl⟩:∃k,n=k+1:=⟨n - 1,by omega⟩
   rw [DD,DR h,if_neg (by simp)]
 | x::post,pre,S,at_,h,hl,hg=>by
  have hxm:x ∈ R:=by rw [h]; simp
  have hxs:=hA x (by simp [hxm])
  have h':a0::R=(a0::pre)++x::post:=by rw [h]; simp
  have hat:at? (a0::R) ((pre.length+1:Nat):Int)=some x:=Bn (l:=a0::R) (pre:=a0::pre) h'
  obtain⟨w,s,hw,hs,hsm⟩:=hg.owner hat
  have hnext:=hg.cell1 hl (by omega) hat hxs.2 (by simpa using hxm) hw hs
  rw [show pre.length+1+1=(pre++[x]).length +1 by simp] at hnext
  have hb:at_.length≤Big - 1:=by rw [hl]; have:pre.length<R.length:=by {rw [h]; simp}; unfold Big at*; omega
  have happ:app? at_ [(⟨w,1,((List.length s.cells:Nat):Int)⟩:Address)] =some (at_++[⟨w,1,((List.length s.cells:Nat):Int)⟩]):=GD (by simp only [List.length_cons,List.length_nil]; unfold Big at*; omega)
  have hcl:=(hg.sh s hsm).cl
  have happ2:∀c:ShardCell,app? s.cells [c] =some (s.cells++[c]):=fun c=>GD (by simp only [List.length_cons,List.length_nil]; unfold Big at*; omega)
  have hrep:rep? (IntKind.i64.wrap (((List.length x.ports:Nat):Int) - 1)) (⟨0,0,0⟩:Address)=some (List.replicate (x.ports.length - 1) ⟨0,0,0⟩):=by
   have:=hxs.1.1
   unfold Big at this
   rw [w64 (by omega) (by omega),show (((List.length x.ports:Nat):Int) - 1)=((x.ports.length - 1:Nat):Int) by omega]
   exact GV (by unfold Big; omega)
  obtain⟨S',at',h1,h2,h3⟩:=QF a0 R o m r hA hR post (pre++[x]) _ _ (A1 h) (by simp [hl]) hnext
  refine⟨S',at',h1,fun n hn=>?_,fun n hn=>?_⟩
  ·rw [List.length_cons] at hn
   obtain⟨n,rfl⟩:∃k,n=k+1:=⟨n - 1,by omega⟩
   rw [Cf]
   simp only
   rw [if_pos (CY (l:=a0::R) (pre:=a0::pre) h'),Bn (l:=a0::R) (pre:=a0::pre) h',AA,show ((List.length (a0::pre):Nat):Int)=((pre.length+1:Nat):Int) from rfl,hw,AA,hs,AA,AA,happ,AA,Iy hxs.1.2,AA,hrep,AA,happ2,AA,HI,AA,
    show IntKind.i64.wrap (((pre.length+1:Nat):Int)+1)=((List.length (a0::(pre++[x])):Nat):Int) from BC (l:=a0::R) (pre:=a0::pre) h' (by rw [List.length_cons]; exact hR)]
   exact h2 n (by omega)
  ·rw [List.length_cons] at hn
   obtain⟨n,rfl⟩:∃k,n=k+1:=⟨n - 1,by omega⟩
   have hwr:IntKind.i64.wrap (((List.length pre:Nat):Int)+1)=((pre.length+1:Nat):Int):=by
    have:pre.length<R.length:=by rw [h]; simp
    rw [w64 (by unfold Big at*; omega) (by unfold Big at*; omega)]; omega
   rw [DD,if_pos (CY h),Bn h,AA,hwr,hw,AA,hs,AA,Gc,AA,happ,AA,Fg hxs.1.2,AA,hrep,AA,happ2,AA,HI,AA]
   have:=h3 n (by omega)
   rw [List.length_append,List.length_singleton] at this
   exact this
def LX (s:Shard):Bool:=decide (s.cells.length≤400∧s.vars.length≤400∧s.redexes.length≤400)
theorem IM {α:Type} (L:Nat→List α→Int→(α→Option Bool)→Option Int) (C:List α→(α→Option Bool)→Option Bool)
  (hL:∀n l i f,L (n+1) l i f=(if (decide (i<((List.length l:Nat):Int)))=true then (Option.bind (at? l i) fun x=>(Option.bind (f x) fun b=>(if b=true then (some i) else (L n l (IntKind.i64.wrap (i+1)) f)))) else (some (-1))))
  (hC:∀l f,C l f=Option.bind (L fuel l 0 f) fun v=>some (decide (0≤v))) (l:List α) (f:α→Option Bool) (p:α→Bool) (hl:l.length≤Big) (hf:∀x ∈ l,f x=some (p x)):C l f=some (l.any p):=by
 obtain⟨i,h1,h2,-⟩:=Jb L hL l f p hl hf
 rw [hC]
 grind
theorem bD {A:List Agent} (hv:∀a ∈ A.drop 1,agB a=true∧a.kind≠1∧a.kind≠0∧a.Small) {c:ShardCell} (hc:∃a ∈ A.drop 1,CellOf a c):Ew c=some false:=by
 obtain⟨a,ha,h⟩:=hc
 obtain⟨h1,h2,h3,h4⟩:=hv a ha
 unfold Ew E6 HF
 have hp:=h4.1
 have hd:=h4.2
 have hx:=h.x
 unfold Big at hp
 rw [decide_eq_false (by rw [h.k]; exact h3),if_neg (by simp),decide_eq_false (by rw [h.k]; exact h2),if_pos (by simp),h.d,Fg hd,AA,w64 (by omega) (by omega),show (((List.length c.aux:Nat):Int)+1)=((a.ports.length:Nat):Int) by omega,GV (by unfold Big; omega),AA,AA,Rk ⟨c.kind,c.level,c.value,a.data,List.replicate a.ports.length ⟨0,0⟩⟩ (by simp only [List.length_replicate]; unfold Big; omega) hd]
 have:agB ⟨c.kind,c.level,c.value,a.data,List.replicate a.ports.length ⟨0,0⟩⟩=agB a:=by
  rw [h.k,h.l,h.v]
  unfold agB QA
  simp only [List.length_replicate]
 rw [this,h1]
 rfl
theorem Y8 {A C B s} (h:ShOk A C B s) (hC:C≤Big) (hB:B≤Big) (hv:∀a ∈ A.drop 1,agB a=true∧a.kind≠1∧a.kind≠0∧a.Small):E8 s=some (!LX s):=by
 have hj:CM s false=some true:=by
  unfold CM
  rw [if_neg (by simp),IM Af BU (fun n l i f=>by rw [Af]) (fun l f=>rfl) s.cells _ (fun _=>false) (Nat.le_trans h.cl hC) (fun c hc=>bD hv (h.c c hc)),AA]
  rw [show s.cells.any (fun _=>false)=false by simp,if_pos (by simp),IM Ai Bb (fun n l i f=>by rw [Ai]) (fun l f=>rfl) s.vars _ (fun _=>false) (Nat.le_trans h.vl hB) (fun v hv'=>by rw [h.v v hv']; rfl),AA]
  simp
 have hj2:CM s true=some false:=rfl
 unfold E8 HG LX
 by_cases h1:s.cells.length≤400
 ·rw [decide_eq_false (by omega),if_neg (by simp)]
  by_cases h2:s.vars.length≤400
  ·rw [decide_eq_false (by omega),if_neg (by simp)]
   by_cases h3:s.redexes.length≤400
   ·rw [decide_eq_false (by omega),hj,AA,decide_eq_true ⟨h1,h2,h3⟩]
   ·rw [decide_eq_true (by omega),hj2,AA,decide_eq_false (by omega)]
  ·rw [decide_eq_true (by omega),if_pos rfl,hj2,AA,decide_eq_false (by omega)]
 ·rw [decide_eq_true (by omega),if_pos rfl,hj2,AA,decide_eq_false (by omega)]
theorem V6 (S:List Shard) (r1 r2 r3:Int) (hS:S.length≤Big):∀ (post pre:List Shard) (n:Nat),S=pre++post→2*post.length<n→BO n S r1 r2 r3 ((List.length pre:Nat):Int)=some (if post.all LX=true then (⟨S,⟨r1,r2,r3⟩⟩,0) else (⟨[],⟨0,0,0⟩⟩,4))
 | [],pre,n,h,hn=>by
  obtain⟨n,rfl⟩:∃k,n=k+1:=⟨n - 1,by omega⟩
  rw [BO,DR h]
  simp
 | s ::post,pre,n,h,hn=>by
  rw [List.length_cons] at hn
  obtain⟨n,rfl⟩:∃k,n=k+2:=⟨n - 2,by omega⟩
  have hj:BO (n+2) S r1 r2 r3 ((List.length pre:Nat):Int)=Ci (n+1) S r1 r2 r3 ((List.length pre:Nat):Int) (!LX s):=by
   rw [BO,if_pos (CY h),Bn h,AA]
   unfold LX
   by_cases h1:s.cells.length≤400
   ·rw [decide_eq_false (by omega),if_neg (by simp)]
    by_cases h2:s.vars.length≤400
    ·rw [decide_eq_false (by omega),if_neg (by simp)]
     congr 1
     by_cases h3:s.redexes.length≤400
     ·rw [decide_eq_false (by omega),decide_eq_true ⟨h1,h2,h3⟩]; rfl
     ·rw [decide_eq_true (by omega),decide_eq_false (by omega)]; rfl
    ·rw [decide_eq_true (by omega),if_pos rfl,decide_eq_false (by omega)]; rfl
   ·rw [decide_eq_true (by omega),if_pos rfl,decide_eq_false (by omega)]; rfl
  rw [hj,Ci]
  cases hb:LX s with
  |true=>
   rw [if_neg (by simp),BC h hS,V6 S r1 r2 r3 hS post (pre++[s]) n (A1 h) (by omega),List.all_cons,hb,Bool.true_and]
  |false=>simp [hb]
end Go.Proofs.YtclmbjbbojdojaaGreat.Ab
namespace Go.Proofs.YtclmbjbbojdojaaGreat.Ab
set_option linter.unusedVariables false
set_option maxHeartbeats 1000000
set_option linter.unusedSimpArgs false
open Go.RowKit
theorem QG {a:Agent} (h:agB a=true):1≤a.ports.length∧a.ports.length≤4∧a.data.length≤4∧a.kind≠0:=by
 unfold agB at h
 simp only [Bool.and_eq_true,decide_eq_true_eq] at h
 obtain⟨⟨⟨h1,h2⟩,h3⟩,h4⟩:=h
 have hk:1≤a.kind:=by
  unfold levB at h3
  simp only [Bool.and_eq_true,decide_eq_true_eq] at h3
  omega
 refine⟨h1,?_,?_,by omega⟩
 ·unfold ports at h2
  split at h2
  ·split at h2 <;> omega
  ·split at h2
   ·omega
   ·split at h2
    ·omega
    ·split at h2
     ·omega
     ·split at h2 <;> omega
 ·unfold QA at h4
  grind
theorem QH:∀ (l:List Agent) (i:Nat),SM i l=true→∀a ∈ l,agB a=true∧(0<i→a.kind≠1)
 | [],_,_,a,ha=>by cases ha
 | x::l,i,h,a,ha=>by
  simp only [SM,Bool.and_eq_true,beq_iff_eq] at h
  obtain⟨⟨h1,h2⟩,h3⟩:=h
  rcases List.mem_cons.1 ha with rfl|ha
  ·refine⟨h1,fun hi e=>?_⟩
   rw [decide_eq_true e] at h2
   have:=of_decide_eq_true h2.symm
   omega
  ·obtain⟨h4,h5⟩:=QH l (i+1) h3 a ha
   exact⟨h4,fun _=>h5 (Nat.succ_pos _)⟩
theorem XO {A:List Agent} (h:GW A 0 A=true):∀p ∈ B2 0 A,∃q r,Dv A p=some q∧Dv A q=some r:=by
 intro p hp
 have h1:=SS (l:=A) A [] rfl
 rw [List.length_nil,h] at h1
 have h2:badB A p=false:=by
  rw [Bool.not_true,List.any_eq_false] at h1
  simpa using h1 p hp
 obtain⟨i,k,q,rfl,hq⟩:=ST A [] rfl p hp
 refine⟨q,?_⟩
 rw [List.nil_append] at hq
 unfold badB at h2
 rw [hq] at h2
 simp only [Bool.not_eq_false'] at h2
 unfold T8 at h2
 simp only [Bool.and_eq_true] at h2
 cases h3:Dv A q with
 |none=>rw [h3] at h2; simp at h2
 |some r=>exact⟨r,hq,rfl⟩
def hH (g:Grid):Option (Grid × Int):=
 Option.bind (BP g.shards (fun y0=>E8 y0)) fun v=>if v=true then some (⟨[],⟨0,0,0⟩⟩,4) else some (g,0)
theorem L6 {A:List Agent} {o:List Int} {m:Nat} {at_:List Address} (hA:∀a ∈ A,a.Small) (ps:List Port) (hps:ps.length≤Big):∀ (post pre:List Port) (B:Nat) (g:Grid),ps=pre++post→(∀p ∈ post,∃q r,Dv A p=some q∧Dv A q=some r)→B+post.length≤Big→GOk A o m A.length B at_ g→
  ∃g',Y7 o at_ g (post.flatMap (wOf A))=some g'∧GOk A o m A.length (B+post.length) at_ g'∧∀n,post.length<n→BD n ⟨A⟩ o at_ ps A g.shards g.root.machine g.root.kind g.root.index ((List.length pre:Nat):Int)=hH g'
 | [],pre,B,g,h,hp,hB,hg=>by
  refine⟨g,rfl,hg,fun n hn=>?_⟩
  obtain⟨n,rfl⟩:∃k,n=k+1:=⟨n - 1,by omega⟩
  rw [BD,DR h,if_neg (by simp)]
  rfl
 | p::post,pre,B,g,h,hp,hB,hg=>by
  obtain⟨q,r,hq,hr⟩:=hp p (by simp)
  rw [List.length_cons] at hB
  have hpeer:EM ⟨A⟩ p=some q:=by
   obtain⟨x,hx,hxq⟩:=Jd hq
   unfold EM
   simp only
   rw [hx,AA,hxq,AA]
  have hw:wOf A p=if bef p q=true then [⟨p,q⟩] else [] :=by
   unfold wOf
   rw [hq]
  have hb:BD=BD:=rfl
  by_cases hbf:bef p q=true
  ·obtain⟨g1,h1,h2⟩:=Y5 hA hg (by omega) hq hr
   obtain⟨g',h3,h4,h5⟩:=L6 hA ps hps post (pre++[p]) (B+1) g1 (A1 h) (fun p hp'=>hp p (by simp [hp'])) (by omega) h2
   refine⟨g',?_,by rw [List.length_cons,show B+(post.length+1)=B+1+post.length by omega]; exact h4,fun n hn=>?_⟩
   ·rw [List.flatMap_cons,hw,if_pos hbf,List.singleton_append,Y7]
    simp only
    rw [h1,AA]
    exact h3
   ·rw [List.length_cons] at hn
    obtain⟨n,rfl⟩:∃k,n=k+1:=⟨n - 1,by omega⟩
    obtain⟨x,hx,-⟩:=Jd hq
    obtain⟨w,s,how,hos,-⟩:=hg.owner hx
    rw [BD,if_pos (CY h),Bn h,AA,hpeer,AA,QC,AA,if_pos hbf,Y6 _ p q how hos]
    simp only
    rw [h1,Option.map_some,AA,BC h hps]
    exact h5 n (by omega)
  ·obtain⟨g',h3,h4,h5⟩:=L6 hA ps hps post (pre++[p]) B g (A1 h) (fun p hp'=>hp p (by simp [hp'])) (by omega) hg
   refine⟨g',?_,h4.mono (by rw [List.length_cons]; omega),fun n hn=>?_⟩
   ·rw [List.flatMap_cons,hw,if_neg hbf,List.nil_append]
    exact h3
   ·rw [List.length_cons] at hn
    obtain⟨n,rfl⟩:∃k,n=k+1:=⟨n - 1,by omega⟩
    rw [BD,if_pos (CY h),Bn h,AA,hpeer,AA,QC,AA,if_neg hbf,BC h hps]
    exact h5 n (by omega)
def ownB (m:Int) (w:Int):Bool:=decide (0≤w∧w≤m - 1)
theorem V7 (n0:Net) (o:List Int) (m:Int) (hm:1≤m∧m≤4) (ho:o.length≤Big):∀ (post pre:List Int) (n:Nat),o=pre++post→post.length<n→DB n n0 o m ((List.length pre:Nat):Int)=if post.all (ownB m)=true then (Option.bind (Hs n0 o m) fun v=>some (v.1,v.2)) else some (⟨[],⟨0,0,0⟩⟩,2)
 | [],pre,n,h,hn=>by
  obtain⟨n,rfl⟩:∃k,n=k+1:=⟨n - 1,by omega⟩
  rw [DB,DR h,if_neg (by simp)]
  rfl
 |w::post,pre,n,h,hn=>by
  rw [List.length_cons] at hn
  obtain⟨n,rfl⟩:∃k,n=k+1:=⟨n - 1,by omega⟩
  rw [DB,if_pos (CY h),Bn h,AA,FW,AA,w64 (by omega) (by omega),BC h ho,V7 n0 o m hm ho post (pre++[w]) n (A1 h) (by omega),List.all_cons]
  show (if (!ownB m w)=true then _ else _)=_
  cases ownB m w <;> simp
theorem bE (o:List Int) (m:Int) (hm:1≤m∧m≤4) (ho:o.length≤Big):KV (IntKind.i64.wrap (m - 1)) o=some (o.all (ownB m)):=by
 unfold KV
 rw [IM Aq Ay (fun n l i f=>by rw [Aq]) (fun l f=>rfl) o _ (fun w=> !ownB m w) ho (fun w _=>?_),AA]
 ·congr 1
  induction o with
  |nil=>rfl
  |cons w o ih=>
   have:=ih (by simp only [List.length_cons] at ho; omega)
   rw [List.any_cons,List.all_cons,Bool.not_or,this,Bool.not_not]
 ·unfold JU ownB
  rw [w64 (by omega) (by omega)]
  by_cases h0:w<0
  ·rw [decide_eq_true h0,if_pos rfl,decide_eq_false (by omega)]; rfl
  ·rw [decide_eq_false h0,if_neg (by simp)]
   by_cases h1:m - 1<w
   ·rw [decide_eq_true h1,decide_eq_false (by omega)]; rfl
   ·rw [decide_eq_false h1,decide_eq_true (by omega)]; rfl
theorem V8 (n0:Net) (o:List Int) (m:Nat) (hm:m≤4):∀ (j k n:Nat),k+j=m→j<n→DA n n0 o (m:Int) (List.replicate k ⟨[],[],[]⟩) (k:Int)=Cf fuel n0 o (List.replicate m ⟨[],[],[]⟩) [⟨0,0,0⟩] 1
 |0,k,n,h,hn=>by
  obtain⟨n,rfl⟩:∃k,n=k+1:=⟨n - 1,by omega⟩
  obtain rfl:k=m:=by omega
  rw [DA,decide_eq_false (by omega),if_neg (by simp)]
 |j+1,k,n,h,hn=>by
  obtain⟨n,rfl⟩:∃k,n=k+1:=⟨n - 1,by omega⟩
  have hw:IntKind.i64.wrap ((k:Int)+1)=((k+1:Nat):Int):=by rw [w64 (by omega) (by omega)]; omega
  rw [DA,decide_eq_true (by omega),if_pos rfl,GD (by simp only [List.length_replicate,List.length_cons,List.length_nil]; unfold Big; omega),AA,hw,show (List.replicate k (⟨[],[],[]⟩:Shard)++[⟨[],[],[]⟩])=List.replicate (k+1) ⟨[],[],[]⟩ from List.replicate_succ'.symm]
  exact V8 n0 o m hm j (k+1) n (by omega) (by omega)
structure GSmall (g:Grid) (m:Int):Prop where
 len:((List.length g.shards:Nat):Int)=m
 sh:∀s ∈ g.shards,s.cells.length≤400∧s.vars.length≤400∧s.redexes.length≤400
 c:∀s ∈ g.shards,∀c ∈ s.cells,c.data.length≤4∧c.aux.length≤4
theorem Qh (n:Net) (o:List Int) (m:Int) (hn:n.Small) (ho:o.length≤Big) (hsz:szl (fun a=>a.ports.length) n.agents<Big):∃g c,Hr n o m=some (g,c)∧Hp n o m=some (g,c)∧(c=0→1≤m∧m≤4∧GSmall g m):=by
 unfold Hr Hp
 rw [a8 n hn,bB n hn,AA,AA]
 cases hv:n.valid with
 |false=>exact⟨_,_,by rw [Bool.not_false,if_pos rfl],by rw [Bool.not_false,if_pos rfl],fun h=>by cases h⟩
 | true=>
  simp only [FW,Bool.not_false,Bool.not_true,Bool.false_eq_true,reduceIte,AA]
  obtain⟨A⟩:=n
  obtain⟨hl,hs⟩:=hn.agents
  unfold Net.valid agentsB at hv
  simp only [Bool.and_eq_true,decide_eq_true_eq] at hv hl hs hsz
  obtain⟨⟨⟨hl1,hl6⟩,hag⟩,hwi⟩:=hv
  have bad:∃g c,DC ⟨A⟩ o m true=some (g,c)∧some ((⟨[],⟨0,0,0⟩⟩,2):Grid × Int)=some (g,c)∧(c=0→1≤m∧m≤4∧GSmall g m):=⟨_,_,by unfold DC; rw [if_pos rfl],rfl,fun h=>by cases h⟩
  unfold JV
  simp only
  by_cases h1:1≤m
  rotate_left
  ·simp only [decide_eq_false (p:=1≤m∧m≤4) (by omega),decide_eq_false h1,Bool.not_false,Bool.not_true,Bool.false_eq_true,reduceIte,AA]
   exact bad
  by_cases h4:m≤4
  rotate_left
  ·simp only [decide_eq_false (p:=1≤m∧m≤4) (by omega),decide_eq_true h1,decide_eq_false h4,Bool.not_false,Bool.not_true,Bool.false_eq_true,reduceIte,AA]
   exact bad
  simp only [decide_eq_true (p:=1≤m∧m≤4) ⟨h1,h4⟩,decide_eq_true h1,decide_eq_true h4,Bool.not_false,Bool.not_true,Bool.false_eq_true,reduceIte,AA]
  by_cases hlen:o.length=A.length
  rotate_left
  ·simp only [decide_eq_false (p:=((List.length o:Nat):Int)=((List.length A:Nat):Int)) (by omega),Bool.not_false,Bool.not_true,Bool.false_eq_true,reduceIte,AA]
   exact bad
  simp only [decide_eq_true (p:=((List.length o:Nat):Int)=((List.length A:Nat):Int)) (by omega),Bool.not_false,Bool.not_true,Bool.false_eq_true,reduceIte,AA]
  obtain⟨w0,hw0⟩:=V5 (l:=o) (i:=0) (by omega) (by omega)
  simp only [hw0,AA]
  by_cases hz:w0=0
  rotate_left
  ·simp only [decide_eq_false hz,Bool.not_false,Bool.not_true,Bool.false_eq_true,reduceIte,AA]
   exact bad
  simp only [decide_eq_true hz,bE o m ⟨h1,h4⟩ ho,DC,Bool.not_false,Bool.not_true,Bool.false_eq_true,reduceIte,AA]
  have hso:=V7 ⟨A⟩ o m ⟨h1,h4⟩ ho o [] fuel rfl (by rw [B3]; unfold Big at ho; omega)
  rw [List.length_nil,Int.natCast_zero] at hso
  rw [hso]
  cases hown:o.all (ownB m) with
  |false=>
   simp only [Bool.not_false,Bool.not_true,Bool.false_eq_true,reduceIte,AA]
   exact⟨_,_,rfl,rfl,fun h=>by cases h⟩
  | true=>
   simp only [Bool.not_false,Bool.not_true,Bool.false_eq_true,reduceIte,AA]
   obtain⟨mN,rfl⟩:∃k:Nat,m=(k:Int):=⟨m.toNat,by omega⟩
   unfold Hs
   have hsh:=V8 ⟨A⟩ o mN (by omega) mN 0 fuel (by omega) (by rw [B3]; omega)
   rw [List.replicate_zero,Int.natCast_zero] at hsh
   rw [hsh,GV (by unfold Big; omega),AA,show (1:Int)=((1:Nat):Int) from rfl,GV (by unfold Big; omega),AA]
   cases A with
   |nil=>simp at hl1
   | cons a0 R=>
    have hcut:cutL (a0::R) ((1:Nat):Int) ((List.length (a0::R):Nat):Int)=some R:=by
     unfold cutL
     simp
     try omega
    rw [hcut,AA]
    have hmem:=QH _ _ hag
    have hmR:=QH R 1 (by simp only [SM,Bool.and_eq_true] at hag; exact hag.2)
    have hRl:R.length<600:=by simp only [List.length_cons] at hl6; omega
    have hg0:GOk (a0::R) o mN 1 0 [⟨0,0,0⟩] ⟨List.replicate mN ⟨[],[],[]⟩,⟨0,0,0⟩⟩:=by
     refine⟨by simp,fun k w hw=>?_,hlen,fun k a _ h0 h1=>by omega,fun s hs=>?_⟩
     ·have:=List.all_eq_true.1 hown w (H5 hw)
      unfold ownB at this
      have:=of_decide_eq_true this
      omega
     ·simp only [List.mem_replicate] at hs
      rw [hs.2]
      exact⟨by simp,by simp,by simp,by simp,by simp⟩
    have hAS:∀a ∈ a0::R,a.Small∧1≤a.ports.length:=fun a ha=>⟨hs a ha,(QG (hmem a ha).1).1⟩
    obtain⟨S',at',hg1,hsc,hic⟩:=QF a0 R o mN ⟨0,0,0⟩ hAS (by unfold Big; omega) R [] _ _ rfl rfl hg0
    have hsc:=hsc fuel (by rw [B3]; omega)
    have hic:=hic fuel (by rw [B3]; omega)
    simp only [List.length_cons,List.length_nil,Nat.zero_add,Int.natCast_zero] at hsc hic
    rw [hsc,show List.replicate 1 (⟨0,0,0⟩:Address)=[⟨0,0,0⟩] from rfl,hic,XM ⟨a0::R⟩ hn,M6 ⟨a0::R⟩ hn,AA,AA]
    simp only
    have hpl:(B2 0 (a0::R)).length <Big:=Nat.lt_of_le_of_lt (Jc _ _) hsz
    obtain⟨g',hr,hg2,hend⟩:=L6 hs (B2 0 (a0::R)) (Nat.le_of_lt hpl) (B2 0 (a0::R)) [] 0 ⟨S',⟨0,0,0⟩⟩ rfl (XO hwi) (by omega) hg1
    have hend:=hend fuel (by rw [B3]; unfold Big at hpl; omega)
    rw [List.length_nil,Int.natCast_zero] at hend
    simp only at hend
    rw [hend]
    have hW:allW 0 (a0::R)=(B2 0 (a0::R)).flatMap (wOf (a0::R)):=QD (l:=a0::R) (a0::R) [] rfl
    have hWl:=UA (a0::R) 0
    have hsr:=Ro o at' (allW 0 (a0::R)) (by omega) (allW 0 (a0::R)) [] fuel ⟨S',⟨0,0,0⟩⟩ g' rfl (by rw [hW]; exact hr) (by rw [B3]; unfold Big at hsz; omega)
    rw [List.length_nil,Int.natCast_zero] at hsr
    simp only at hsr
    rw [hsr]
    have hlg:=hg2.len
    have hse:=V6 g'.shards g'.root.machine g'.root.kind g'.root.index (by rw [hlg]; unfold Big; omega) g'.shards [] fuel rfl (by rw [B3,hlg]; omega)
    rw [List.length_nil,Int.natCast_zero] at hse
    rw [hse]
    have hvs:∀a ∈ (a0::R).drop 1,agB a=true∧a.kind≠1∧a.kind≠0∧a.Small:=fun a ha=>by
     have hR:a ∈ R:=ha
     exact⟨(hmR a hR).1,(hmR a hR).2 (by omega),(QG (hmR a hR).1).2.2.2,hs a (by simp [hR])⟩
    unfold hH
    rw [IM Ao BP (fun n l i f=>by rw [Ao]) (fun l f=>rfl) g'.shards _ (fun s=> !LX s) (by rw [hlg]; unfold Big; omega) (fun s hs'=>Y8 (hg2.sh s hs') hl (by omega) hvs),AA,AA]
    have hany:g'.shards.any (fun s=> !LX s)= !g'.shards.all LX:=by
     rw [List.any_eq_not_all_not]; simp
    rw [hany]
    cases hall:g'.shards.all LX with
    |false=>exact⟨_,_,by simp; exact⟨rfl,rfl⟩,by simp,fun h=>by simp at h⟩
    | true=>
     refine⟨g',0,by simp,by simp,fun _=>⟨h1,h4,by omega,fun s hs'=>?_,fun s hs' c hc=>?_⟩⟩
     ·have:=List.all_eq_true.1 hall s hs'
      exact of_decide_eq_true this
     ·obtain⟨a,ha,hca⟩:=(hg2.sh s hs').c c hc
      obtain⟨h5,h6,h7,-⟩:=QG (hvs a ha).1
      rw [hca.d]
      exact⟨h7,by have:=hca.x; omega⟩
end Go.Proofs.YtclmbjbbojdojaaGreat.Ab
namespace Go.Proofs.YtclmbjbbojdojaaGreat.Ab
set_option linter.unusedVariables false
set_option maxHeartbeats 1000000
set_option linter.unusedSimpArgs false
open Go.RowKit
theorem Rp {α β:Type} (l:List α) (f:α→Option α) (L:Nat→List α→Int→Option β) (K:List α→Option β)
  (hL:∀n a i,L (n+1) a i=if (decide (i<((List.length l:Nat):Int)))=true then (Option.bind (at? l i) fun x=>Option.bind (f x) fun y=>Option.bind (app? a [y]) fun b=>L n b (IntKind.i64.wrap (i+1))) else K a)
  (hf:∀x ∈ l,f x=some x) (hl:l.length≤Big):∀ (post pre:List α) (n:Nat),l=pre++post→post.length<n→L n pre ((List.length pre:Nat):Int)=K l
 | [],pre,n,h,hn=>by
  obtain⟨n,rfl⟩:∃k,n=k+1:=⟨n - 1,by omega⟩
  rw [hL,DR h,if_neg (by simp),h,List.append_nil]
 |x::post,pre,n,h,hn=>by
  rw [List.length_cons] at hn
  obtain⟨n,rfl⟩:∃k,n=k+1:=⟨n - 1,by omega⟩
  have hlen:pre.length+(post.length+1)≤Big:=by rw [h] at hl; simpa using hl
  rw [hL,if_pos (CY h),Bn h,AA,hf x (by rw [h]; simp),AA,GD (by simp only [List.length_cons,List.length_nil]; omega),AA,BC h hl]
  exact Rp l f L K hL hf hl post (pre++[x]) n (A1 h) (by omega)
theorem Y9 {α β:Type} (z:α) (l:List α) (f:α→Option α) (L:Nat→List α→Int→Option β) (K:List α→Option β)
  (hL:∀n a i,L (n+1) a i=if (decide (i<((List.length l:Nat):Int)))=true then (Option.bind (at? l i) fun x=>Option.bind (f x) fun y=>Option.bind (at? a i) fun _=>Option.bind (Ah a i y) fun b=>L n b (IntKind.i64.wrap (i+1))) else K a)
  (hf:∀x ∈ l,f x=some x) (hl:l.length≤Big):∀ (post pre:List α) (n:Nat),l=pre++post→post.length<n→L n (pre++List.replicate post.length z) ((List.length pre:Nat):Int)=K l
 | [],pre,n,h,hn=>by
  obtain⟨n,rfl⟩:∃k,n=k+1:=⟨n - 1,by omega⟩
  rw [hL,DR h,if_neg (by simp),h,List.length_nil,List.replicate_zero]
 | x::post,pre,n,h,hn=>by
  rw [List.length_cons] at hn
  obtain⟨n,rfl⟩:∃k,n=k+1:=⟨n - 1,by omega⟩
  have e:pre++List.replicate (post.length+1) z=pre++z::List.replicate post.length z:=by rw [List.replicate_succ]
  rw [List.length_cons,e,hL,if_pos (CY h),Bn h,AA,hf x (by rw [h]; simp),AA,Bn (l:=pre++z::List.replicate post.length z) rfl,AA,HI,AA,BC h hl]
  rw [show (pre++z::List.replicate post.length z).set ((List.length pre:Nat):Int).toNat x=(pre++[x])++List.replicate post.length z by
   rw [Int.toNat_natCast,List.set_append_right _ _ (Nat.le_refl _),Nat.sub_self,List.set_cons_zero,List.append_assoc,List.singleton_append]]
  exact Y9 z l f L K hL hf hl post (pre++[x]) n (A1 h) (by omega)
theorem O7 {α:Type} {l:List α} (h:l.length≤Big):app? [] l=some l:=by
 rw [GD (by simpa using h),List.nil_append]
theorem Iz {α:Type} {l:List α} (h:l.length≤Big):(Option.bind (app? [] l) fun v=>some v)=some l:=by
 rw [O7 h,AA]
theorem Gt {n:Nat} (h:n≤Big):n<fuel:=by rw [B3]; unfold Big at h; omega
theorem V9 {c:ShardCell} (h:c.sz≤Big):EL c=some c:=by
 unfold ShardCell.sz at h
 unfold EL
 rw [Iy (by omega),AA,O7 (by omega),AA]
theorem ZA {s:Shard} (h:s.sz≤Big):Ee s=some s:=by
 unfold Shard.sz at h
 have hl:=Aw ShardCell.sz s.cells
 unfold Ee
 rw [O7 (by omega),AA,O7 (by omega),AA]
 have:=Rp s.cells EL (fun n a i=>CU n s s.vars s.redexes a i) (fun a=>some ⟨a,s.vars,s.redexes⟩) (fun n a i=>by rw [CU]) (fun c hc=>V9 (by have:=A9 (s:=ShardCell.sz) hc; omega)) (by omega) s.cells [] fuel rfl (Gt (by omega))
 simpa using this
theorem bF {g:Grid} (h:g.sz≤Big):F3 g=some g:=by
 unfold Grid.sz at h
 have hl:=Aw Shard.sz g.shards
 unfold F3
 have:=Rp g.shards Ee (fun n a i=>Ct n g a i) (fun a=>some ⟨a,g.root⟩) (fun n a i=>by rw [Ct]) (fun c hc=>ZA (by have:=A9 (s:=Shard.sz) hc; omega)) (by omega) g.shards [] fuel rfl (Gt (by omega))
 simpa using this
theorem XP {s:Shard} (h:s.sz≤Big):Fq s=some s:=by
 unfold Shard.sz at h
 have hl:=Aw ShardCell.sz s.cells
 unfold Fq
 rw [show C6 s.vars=some s.vars from Iz (by omega),AA,show Ce s.redexes=some s.redexes from Iz (by omega),AA]
 have:=Rp s.cells (fun c=>Option.bind (BB c.data) fun d=>Option.bind (BJ c.aux) fun a=>some ⟨c.kind,c.level,c.value,d,a⟩) (fun n a i=>DJ n s s.vars s.redexes a i) (fun a=>some ⟨a,s.vars,s.redexes⟩) (fun n a i=>by rw [DJ]; simp only [Option.bind_assoc,Option.bind_some]) (fun c hc=>by
  have:=A9 (s:=ShardCell.sz) hc
  have e:c.sz=c.data.length+(c.aux.length+0):=rfl
  rw [Fg (by omega),AA,show BJ c.aux=some c.aux from Iz (by omega),AA]) (by omega) s.cells [] fuel rfl (Gt (by omega))
 simpa using this
theorem ZB {g:Grid} (h:g.sz≤Big):Hq g=some g:=by
 unfold Grid.sz at h
 have hl:=Aw Shard.sz g.shards
 unfold Hq
 have:=Rp g.shards Fq (fun n a i=>Dn n g a i) (fun a=>some ⟨a,g.root⟩) (fun n a i=>by rw [Dn]) (fun c hc=>XP (by have:=A9 (s:=Shard.sz) hc; omega)) (by omega) g.shards [] fuel rfl (Gt (by omega))
 simpa using this
theorem bj (C:List (List Parcel)) (hC:C.length≤Big) (i:Nat) (x:List Parcel) (hi:at? C (i:Int)=some x) (hx:szl Parcel.sz x≤Big) (acc:List (List Parcel)) (hacc:acc.length+1≤Big) (Z:List (List Parcel)) (N:Nat)
  (hZ:∀m,N≤m→An m C (acc++[x]) (IntKind.i64.wrap ((i:Int)+1))=some Z):∀ (post pre:List Parcel) (m:Nat),x=pre++post→N+post.length<m→A4 m C acc (i:Int) pre ((List.length pre:Nat):Int)=some Z
 | [],pre,m,h,hm=>by
  obtain⟨m,rfl⟩:∃k,m=k+1:=⟨m - 1,by omega⟩
  rw [A4,hi,AA,DR h,if_neg (by simp),GD (by simpa using hacc),AA]
  rw [h,List.append_nil] at hZ
  exact hZ m (by simp only [List.length_nil] at hm; omega)
 |p::post,pre,m,h,hm=>by
  rw [List.length_cons] at hm
  obtain⟨m,rfl⟩:∃k,m=k+1:=⟨m - 1,by omega⟩
  have hl:=Aw Parcel.sz x
  have hp:=A9 (s:=Parcel.sz) (show p ∈ x by rw [h]; simp)
  have hlen:pre.length+(post.length+1)≤Big:=by rw [h] at hl hx; simp only [List.length_append,List.length_cons] at hl; omega
  rw [A4,hi,AA,if_pos (CY h),AA,Bn h,AA,V9 (by have e:p.sz=p.cell.sz+0:=rfl; omega),AA,GD (by simp only [List.length_cons,List.length_nil]; omega),AA,BC h (by omega)]
  exact bj C hC i x hi hx acc hacc Z N hZ post (pre++[p]) m (A1 h) (by omega)
theorem bk (C:List (List Parcel)) (hC:szl (szl Parcel.sz) C≤Big):∀ (post pre:List (List Parcel)) (m:Nat),C=pre++post→2*szl List.length post<m→An m C pre ((List.length pre:Nat):Int)=some C
 | [],pre,m,h,hm=>by
  obtain⟨m,rfl⟩:∃k,m=k+1:=⟨m - 1,by omega⟩
  rw [An,DR h,if_neg (by simp),h,List.append_nil]
 |x::post,pre,m,h,hm=>by
  rw [szl] at hm
  obtain⟨m,rfl⟩:∃k,m=k+1:=⟨m - 1,by omega⟩
  have hl:=Aw (szl Parcel.sz) C
  have hx:=A9 (s:=szl Parcel.sz) (show x ∈ C by rw [h]; simp)
  have hlen:pre.length+1≤Big:=by rw [h] at hl hC; simp only [List.length_append,List.length_cons] at hl; omega
  rw [An,if_pos (CY h)]
  refine bj C (by omega) pre.length x (Bn h) (by omega) pre hlen C (2*szl List.length post+1) (fun k hk=>?_) x [] m rfl (by omega)
  rw [BC h (by omega)]
  exact bk C hC post (pre++[x]) k (A1 h) (by omega)
theorem ZC {α:Type} {s t:α→Nat} (h:∀x,s x≤t x):∀l:List α,szl s l≤szl t l
 | [] =>Nat.le_refl _
 |x::l=>by rw [szl,szl]; have:=h x; have:=ZC h l; omega
theorem UB {C:List (List Parcel)} (h:szl (szl Parcel.sz) C≤Big):D4 C=some C:=by
 unfold D4
 have h1:=ZC (s:=List.length) (t:=szl Parcel.sz) (fun x=>Aw _ x) C
 have:=bk C h C [] fuel rfl (by rw [B3]; unfold Big at h; omega)
 simpa using this
theorem bn (l:List Parcel) (h:szl Parcel.sz l≤Big):∀ (post pre:List Parcel) (n:Nat),l=pre++post→post.length<n→Bx n l (List.map MParcel.ow pre++List.map MParcel.sh post) ((List.length pre:Nat):Int)=some l
 | [],pre,n,hl,hn=>by
  obtain⟨n,rfl⟩:∃k,n=k+1:=⟨n - 1,by omega⟩
  rw [Bx,DR hl,if_neg (by simp),List.map_nil,List.append_nil]
  have:MParcel.ow? (List.map MParcel.ow pre)=some pre:=by
   clear hl hn
   induction pre with
   |nil=>rfl
   |cons p pre ih=>rw [List.map_cons,MParcel.ow?,ih]; rfl
  rw [this,AA,hl,List.append_nil]
 | p::post,pre,n,hl,hn=>by
  rw [List.length_cons] at hn
  obtain⟨n,rfl⟩:∃k,n=k+1:=⟨n - 1,by omega⟩
  have hp:=A9 (s:=Parcel.sz) (show p ∈ l by rw [hl]; simp)
  have e0:p.sz=p.cell.data.length+(p.cell.aux.length+0)+0:=rfl
  have hll:=Aw Parcel.sz l
  have e:List.map MParcel.ow pre++List.map MParcel.sh (p::post)=List.map MParcel.ow pre++ .sh p::List.map MParcel.sh post:=rfl
  have hat:at? (List.map MParcel.ow pre++ .sh p::List.map MParcel.sh post) ((List.length pre:Nat):Int)=some (.sh p):=by
   have:=Bn (l:=List.map MParcel.ow pre++ .sh p::List.map MParcel.sh post) rfl
   rwa [List.length_map] at this
  rw [Bx,if_pos (CY hl),e]
  simp only [hat,AA,MParcel.sh?]
  rw [Fg (by omega),AA,show BJ p.cell.aux=some p.cell.aux from Iz (by omega),AA,HI,AA,BC hl (by omega)]
  rw [show (List.map MParcel.ow pre++MParcel.sh p::List.map MParcel.sh post).set ((List.length pre:Nat):Int).toNat (MParcel.ow ⟨p.kind,⟨p.cell.kind,p.cell.level,p.cell.value,p.cell.data,p.cell.aux⟩,p.a,p.b⟩)=List.map MParcel.ow (pre++[p])++List.map MParcel.sh post by
   rw [Int.toNat_natCast,List.set_append_right _ _ (by rw [List.length_map]; exact Nat.le_refl _),List.length_map,Nat.sub_self,List.set_cons_zero,List.map_append,List.append_assoc]; rfl]
  exact bn l h post (pre++[p]) n (A1 hl) (by omega)
theorem UC {l:List Parcel} (h:szl Parcel.sz l≤Big):Ef l=some l:=by
 unfold Ef
 have hll:=Aw Parcel.sz l
 rw [show Df l=some l from Iz (by omega),AA]
 exact bn l h l [] fuel rfl (Gt (by omega))
theorem SW {C:List (List Parcel)} (h:szl (szl Parcel.sz) C≤Big):Eu C=some C:=by
 unfold Eu
 have hl:=Aw (szl Parcel.sz) C
 rw [GV (by omega),AA]
 have:=Y9 ([] :List Parcel) C Ef (fun n a i=>CA n C a i) (fun a=>some a) (fun n a i=>by rw [CA]) (fun x hx=>UC (by have:=A9 (s:=szl Parcel.sz) hx; omega)) (by omega) C [] fuel rfl (Gt (by omega))
 simpa using this
theorem ZD {C:List (List Int)} (h:szl List.length C≤Big):FO C=some C:=by
 unfold FO
 have hl:=Aw List.length C
 have:=Rp C FN (fun n a i=>CV n C a i) (fun a=>some a) (fun n a i=>by rw [CV]) (fun x hx=>Iy (by have:=A9 (s:=List.length) hx; omega)) (by omega) C [] fuel rfl (Gt (by omega))
 simpa using this
theorem VJ {C:List (List Int)} (h:szl List.length C≤Big):F5 C=some C:=by
 unfold F5
 have hl:=Aw List.length C
 rw [GV (by omega),AA]
 have:=Y9 ([] :List Int) C BB (fun n a i=>Cu n C a i) (fun a=>some a) (fun n a i=>by rw [Cu]) (fun x hx=>Fg (by have:=A9 (s:=List.length) hx; omega)) (by omega) C [] fuel rfl (Gt (by omega))
 simpa using this
theorem dV {c:Cluster} (h:c.sz≤Big):KU c=some c:=by
 unfold Cluster.sz at h
 unfold KU
 rw [bF (by omega),AA,UB (by omega),AA,ZD (by omega),AA,Iy (by omega),AA,Iy (by omega),AA]
theorem UD {c:Cluster} (h:c.sz≤Big):FP c=some c:=by
 unfold Cluster.sz at h
 unfold FP
 rw [ZB (by omega),AA,SW (by omega),AA,VJ (by omega),AA,Fg (by omega),AA,Fg (by omega),AA]
end Go.Proofs.YtclmbjbbojdojaaGreat.Ab
namespace Go.Proofs.YtclmbjbbojdojaaGreat.Ab
set_option linter.unusedVariables false
set_option linter.unusedSimpArgs false
open Go.RowKit
theorem Je:∀l:List Agent,szl (fun a=>a.ports.length) l≤szl Agent.sz l
 | [] =>by simp [szl]
 |a::l=>by
  have:=Je l
  simp only [szl,Agent.sz]; omega
theorem Net.small_of (n:Net) (h:n.sz≤Big):n.Small:=by
 unfold Net.sz at h
 refine⟨by have:=Je n.agents; omega,fun a ha=>?_⟩
 have:=A9 (s:=Agent.sz) ha
 unfold Agent.sz at this h; omega
theorem I0 {α:Type} {s:α→Nat} (b:Nat):∀ {l:List α},(∀x ∈ l,s x≤b)→szl s l≤l.length*(1+b)
 | [],_=>by simp [szl]
 |x::l,h=>by
  have h1:=I0 b fun y hy=>h y (List.mem_cons_of_mem _ hy)
  have h2:=h x List.mem_cons_self
  rw [szl,List.length_cons,Nat.succ_mul]; omega
theorem Grid.small_sz {g:Grid} {m:Int} (h:GSmall g m) (hm:m≤4):g.sz≤20000:=by
 have hs:∀s ∈ g.shards,s.sz≤4400:=fun s hs=>by
  obtain⟨h1,h2,h3⟩:=h.sh s hs
  have h4:=I0 (s:=ShardCell.sz) 8 (l:=s.cells) fun c hc=>by
   obtain⟨h5,h6⟩:=h.c s hs c hc
   show c.data.length+(c.aux.length+0)≤8
   omega
  show szl ShardCell.sz s.cells+(s.vars.length+(s.redexes.length+0))≤4400
  omega
 have h1:=I0 (s:=Shard.sz) 4400 hs
 have h2:=h.len
 show szl Shard.sz g.shards+0≤20000
 omega
def dW (g:Grid) (M:Nat):Cluster:=⟨g,List.replicate (M*M) [],List.replicate M (List.replicate 7 0),List.replicate M 0,List.replicate M 0⟩
theorem bG {g:Grid} {M:Nat} (h:GSmall g (M:Int)) (hm:M≤4):(dW g M).sz ≤21000:=by
 have h1:=Grid.small_sz h (by omega)
 have hM:M=0∨M=1∨M=2∨M=3∨M=4:=by omega
 show g.sz+(szl (szl Parcel.sz) (List.replicate (M*M) [])+(szl List.length (List.replicate M (List.replicate 7 (0:Int)))+((List.replicate M (0:Int)).length +((List.replicate M (0:Int)).length +0))))≤21000
 have h2:=I0 (s:=szl Parcel.sz) 0 (l:=List.replicate (M*M) []) fun x hx=>by
  rw [(List.mem_replicate.1 hx).2]; simp [szl]
 have h3:=I0 (s:=List.length) 7 (l:=List.replicate M (List.replicate 7 (0:Int))) fun x hx=>by
  rw [(List.mem_replicate.1 hx).2]; simp
 simp only [List.length_replicate] at h2 h3 ⊢
 have h4:M*M≤16:=by rcases hM with rfl|rfl|rfl|rfl|rfl <;> simp
 omega
theorem hI:rep? 7 (0:Int)=some (List.replicate 7 0):=GV (n:=7) (by unfold Big; omega)
theorem bp {g:Grid} {ch:List (List Parcel)} {M:Nat} (hM:M≤4) (hg:g.shards.length=M):∀ (j k n:Nat),k+j=M→j<n→EG n g ch (List.replicate k (List.replicate 7 0)) (k:Int)=some ⟨g,ch,List.replicate M (List.replicate 7 0),List.replicate M 0,List.replicate M 0⟩
 |0,k,n,h,hn=>by
  obtain⟨n,rfl⟩:∃k,n=k+1:=⟨n - 1,by omega⟩
  obtain rfl:k=M:=by omega
  rw [EG,hg,decide_eq_false (by omega),if_neg (by simp),GV (by unfold Big; omega),AA,AA]
 |j+1,k,n,h,hn=>by
  obtain⟨n,rfl⟩:∃k,n=k+1:=⟨n - 1,by omega⟩
  have hw:IntKind.i64.wrap ((k:Int)+1)=((k+1:Nat):Int):=by rw [w64 (by omega) (by omega)]; omega
  rw [EG,hg,decide_eq_true (by omega),if_pos rfl,hI,AA,GD (by simp only [List.length_replicate,List.length_cons,List.length_nil]; unfold Big; omega),AA,hw,show (List.replicate k (List.replicate 7 (0:Int))++[List.replicate 7 0])=List.replicate (k+1) (List.replicate 7 0) from List.replicate_succ'.symm]
  exact bp hM hg j (k+1) n (by omega) (by omega)
theorem bq {g:Grid × Int} {ch:List (List Parcel)} {s1 s2:List Int} {M:Nat} (hM:M≤4):∀ (j k n:Nat),k+j=M→j<n→CK n (M:Int) g ch s1 s2 (List.replicate k (List.replicate 7 0)) (k:Int)=some (⟨g.1,ch,List.replicate M (List.replicate 7 0),s1,s2⟩,0)
 |0,k,n,h,hn=>by
  obtain⟨n,rfl⟩:∃k,n=k+1:=⟨n - 1,by omega⟩
  obtain rfl:k=M:=by omega
  rw [CK,decide_eq_false (by omega),if_neg (by simp)]
 |j+1,k,n,h,hn=>by
  obtain⟨n,rfl⟩:∃k,n=k+1:=⟨n - 1,by omega⟩
  have hw:IntKind.i64.wrap ((k:Int)+1)=((k+1:Nat):Int):=by rw [w64 (by omega) (by omega)]; omega
  rw [CK,decide_eq_true (by omega),if_pos rfl,hI,AA,GD (by simp only [List.length_replicate,List.length_cons,List.length_nil]; unfold Big; omega),AA,hw,show (List.replicate k (List.replicate 7 (0:Int))++[List.replicate 7 0])=List.replicate (k+1) (List.replicate 7 0) from List.replicate_succ'.symm]
  exact bq hM j (k+1) n (by omega) (by omega)
theorem WA {M:Nat} (h:M≤4):IntKind.i64.wrap ((M:Int)*(M:Int))=((M*M:Nat):Int):=by
 have:M*M≤4*4:=Nat.mul_le_mul h h
 rw [← Int.natCast_mul,w64 (by omega) (by omega)]
theorem dX {g:Grid} {M:Nat} (hM:M≤4) (hg:g.shards.length=M):KS g=some (dW g M):=by
 unfold KS
 have:M*M≤4*4:=Nat.mul_le_mul hM hM
 rw [hg,WA hM,GV (by unfold Big; omega),AA]
 exact bp hM hg M 0 fuel (by omega) (by rw [B3]; omega)
theorem Og (n:Net) (o:List Int) (m:Int) (hn:n.Small) (ho:o.length≤Big) (hsz:szl (fun a=>a.ports.length) n.agents<Big):∃c e,F6 n o m=some (c,e)∧F4 n o m=some (c,e)∧(e=0→c.sz≤21000):=by
 obtain⟨g,e,h1,h2,h3⟩:=Qh n o m hn ho hsz
 unfold F6 F4
 rw [h1,h2,AA,AA]
 by_cases he:e=0
 ·subst he
  obtain⟨h4,h5,h6⟩:=h3 rfl
  obtain⟨M,rfl⟩:∃k:Nat,m=(k:Int):=⟨m.toNat,by omega⟩
  have hM:M≤4:=by omega
  have hg:g.shards.length=M:=by have:=h6.len; omega
  have hq:M*M≤4*4:=Nat.mul_le_mul hM hM
  refine⟨dW g M,0,?_,?_,fun _=>bG h6 hM⟩
  ·simp only [decide_true,Bool.not_true,Bool.false_eq_true,reduceIte]
   rw [dX hM hg,AA]
  ·simp only [decide_true,Bool.not_true,Bool.false_eq_true,reduceIte]
   rw [WA hM,GV (by unfold Big; omega),AA,GV (by unfold Big; omega),AA,AA]
   exact bq hM M 0 fuel (by omega) (by rw [B3]; omega)
 ·refine⟨⟨⟨[],⟨0,0,0⟩⟩,[],[],[],[]⟩,e,?_,?_,fun h=>absurd h he⟩ <;> simp only [he,decide_false,Bool.not_false,reduceIte]
theorem Oh (a0:Net) (a1:List Int) (a2:Int) (h0:a0.sz≤1048576) (h1:a1.length≤1048576):∃r,F7 a0 a1 a2=some r∧E5 a0 a1 a2=some r∧r.1.sz ≤Big:=by
 have hp:szl (fun a=>a.ports.length) a0.agents≤1048576:=Nat.le_trans (Je _) (by unfold Net.sz at h0; omega)
 obtain⟨c,e,h2,h3,h4⟩:=Og a0 a1 a2 (Net.small_of a0 (by unfold Big; omega)) (by unfold Big; omega) (by unfold Big; omega)
 unfold F7 E5
 rw [h2,h3,AA,AA]
 have hsh:(⟨[],[],[],[],[]⟩:Shot).sz =0:=rfl
 by_cases he:e=0
 ·subst he
  have hc:=h4 rfl
  refine⟨(⟨⟨c,⟨[],[],[],[],[]⟩⟩,c,0,0⟩,0),?_,?_,?_⟩
  ·simp only [decide_true,Bool.not_true,Bool.false_eq_true,reduceIte]
   rw [dV (by unfold Big; omega),AA]
  ·simp only [decide_true,Bool.not_true,Bool.false_eq_true,reduceIte]
   rw [UD (by unfold Big; omega),AA]
  ·show c.sz+((⟨[],[],[],[],[]⟩:Shot).sz +0)+(c.sz+0)≤Big
   rw [hsh]; unfold Big; omega
 ·refine⟨(⟨⟨⟨⟨[],⟨0,0,0⟩⟩,[],[],[],[]⟩,⟨[],[],[],[],[]⟩⟩,⟨⟨[],⟨0,0,0⟩⟩,[],[],[],[]⟩,0,0⟩,e),?_,?_,Nat.zero_le _⟩ <;> simp only [he,decide_false,Bool.not_false,reduceIte]
end Go.Proofs.YtclmbjbbojdojaaGreat.Ab
namespace Go.Proofs.YtclmbjbbojdojaaGreat.Ab
set_option linter.unusedVariables false
set_option linter.unusedSimpArgs false
open Go.RowKit
theorem bH {n:Nat} {K:Option Bool} (h:n≤1048576→K=some true):(if (decide ((1048576:Int)<((n:Nat):Int)))=true then some true else K)=some true:=by
 by_cases h1:n≤1048576
 ·rw [decide_eq_false (by omega),if_neg (by simp)]; exact h h1
 ·rw [decide_eq_true (by omega),if_pos rfl]
theorem Nl (a0:Net) (h0:Bw (Net.ds a0)) (a1:List Int) (h1:Bw ((slD AJ a1))) (a2:Int) (w2:(Lit.int IntKind.i64 a2).wf =true):Dy a0 a1 a2=some true:=by
 unfold Dy
 refine bH (n:=a1.length) fun z1=>?_
 refine dU (Yu a0 (Net.ok_of a0 h0) (1048576) (by omega)) fun z0=>?_
 have b0:a0.sz≤Big:=by unfold Big; omega
 have b1:a1.length≤Big:=by unfold Big; omega
 obtain⟨r,hs,hi,hr⟩:=Oh a0 a1 a2 (by omega) (by omega)
 have ft0:HD a0=some a0:=Yv a0 b0
 have fe0:K5 a0 a0=some true:=(T0 a0 a0 b0).true rfl
 have ft1:Dl a1=some a1:=OU a1 b1
 have fe1:Cs a1 a1=some true:=(ED a1 a1 b1).true rfl
 have br0:=hr
 have ge0:EH r.1 r.1 =some true:=(Of r.1 r.1 br0).true rfl
 have fm0:HR a0 1=some (((1+a0.cntV:Nat):Int),(Net.mkV (1) a0).agents):=VD a0 (1) b0 (by have:=Net.cntV_le a0; have:=b0; unfold Big KB at*; omega)
 have fm1:Bp a1 ((1+a0.cntV:Nat):Int)=some (((1+a0.cntV+cnts one a1:Nat):Int),mks mkI one (1+a0.cntV) a1):=A2 a1 (1+a0.cntV) b1 (by have:=Net.cntV_le a0; have:=b0; have:=AO (c:=one) (b:=1) (l:=a1) (fun x=>Am); have:=b1; unfold Big KB at*; omega)
 have gm0:Eg r.1 1=some (((1+r.1.cntV :Nat):Int),(Service.mkV (1) r.1).watched.cluster.grid.shards,(Service.mkV (1) r.1).watched.cluster.channels,(Service.mkV (1) r.1).watched.cluster.counts,(Service.mkV (1) r.1).watched.cluster.sent,(Service.mkV (1) r.1).watched.cluster.got,(Service.mkV (1) r.1).watched.shot.taken,(Service.mkV (1) r.1).watched.shot.shards,(Service.mkV (1) r.1).watched.shot.counts,(Service.mkV (1) r.1).watched.shot.recording,(Service.mkV (1) r.1).watched.shot.saved,(Service.mkV (1) r.1).good.grid.shards,(Service.mkV (1) r.1).good.channels,(Service.mkV (1) r.1).good.counts,(Service.mkV (1) r.1).good.sent,(Service.mkV (1) r.1).good.got):=P7 r.1 (1) br0 (by have:=Service.cntV_le r.1; have:=br0; unfold Big KB at*; omega)
 have gh0:Do ⟨⟨⟨⟨(Service.mkV (1) r.1).watched.cluster.grid.shards,⟨r.1.watched.cluster.grid.root.machine,r.1.watched.cluster.grid.root.kind,r.1.watched.cluster.grid.root.index⟩⟩,(Service.mkV (1) r.1).watched.cluster.channels,(Service.mkV (1) r.1).watched.cluster.counts,(Service.mkV (1) r.1).watched.cluster.sent,(Service.mkV (1) r.1).watched.cluster.got⟩,⟨(Service.mkV (1) r.1).watched.shot.taken,(Service.mkV (1) r.1).watched.shot.shards,(Service.mkV (1) r.1).watched.shot.counts,(Service.mkV (1) r.1).watched.shot.recording,(Service.mkV (1) r.1).watched.shot.saved⟩⟩,⟨⟨(Service.mkV (1) r.1).good.grid.shards,⟨r.1.good.grid.root.machine,r.1.good.grid.root.kind,r.1.good.grid.root.index⟩⟩,(Service.mkV (1) r.1).good.channels,(Service.mkV (1) r.1).good.counts,(Service.mkV (1) r.1).good.sent,(Service.mkV (1) r.1).good.got⟩,r.1.shots,r.1.crashes⟩ 1=some (((1+r.1.cntV :Nat):Int)):=P8 r.1 (1) br0 (by have:=Service.cntV_le r.1; have:=br0; unfold Big KB at*; omega)
 simp only [AA,hs,hi,ft0,fe0,ft1,fe1,ge0,fm0,fm1,gm0,gh0,CB,BT,CC,SL,beq_self_eq_true,Ob,eq_self,decide_true,decide_false,Bool.not_true,Bool.not_false,Bool.false_eq_true,reduceIte]
end Go.Proofs.YtclmbjbbojdojaaGreat.Ab
