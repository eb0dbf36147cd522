/-
  Labelled trees and their redexes: what both sides make of a term and its labels. No program is in sight.
-/
import Derived.Test.YtgigfdghecdlgaaPlRk
import Derived.Test.YtgigfdghecdlgaaPlL
namespace Go.Proofs.Ytgigfdghecdlgaa.Ab
set_option linter.unusedVariables false
set_option linter.unusedSimpArgs false
open Go.RowKit
mutual
def Core.ln (L:List ByteArray):Core→Nat→LabelNode
 |⟨k,v,d,ks⟩,p=>⟨⟨k,v,d,ks⟩,L.getD p ByteArray.empty,(p:Int),Core.lns L ks (p+1)⟩
def Core.lns (L:List ByteArray):List Core→Nat→List LabelNode
 | [],_=>[]
 |c::cs,p=>Core.ln L c p::Core.lns L cs (p+c.nodes)
end
mutual
def Core.lt (L:List ByteArray):Core→Nat→L38T
 |⟨k,v,d,ks⟩,p=>⟨k,v,d,L.getD p ByteArray.empty,Core.lts L ks (p+1)⟩
def Core.lts (L:List ByteArray):List Core→Nat→List L38T
 | [],_=>[]
 |c::cs,p=>Core.lt L c p::Core.lts L cs (p+c.nodes)
end
mutual
def Core.all:Core→List Core
 |⟨k,v,d,ks⟩=>⟨k,v,d,ks⟩::Core.alls ks
def Core.alls:List Core→List Core
 | [] =>[]
 |c::cs=>Core.all c++Core.alls cs
end
theorem Core.ln_eq (L:List ByteArray) (c:Core) (p:Nat):c.ln L p=⟨c,L.getD p ByteArray.empty,(p:Int),Core.lns L c.kids (p+1)⟩:=by cases c; rw [Core.ln]
theorem Core.lt_eq (L:List ByteArray) (c:Core) (p:Nat):c.lt L p=⟨c.kind,c.value,c.data,L.getD p ByteArray.empty,Core.lts L c.kids (p+1)⟩:=by cases c; rw [Core.lt]
theorem Core.all_eq (c:Core):c.all=c::Core.alls c.kids:=by cases c; rw [Core.all]
theorem Db (x:Core):∀pre:List Core,Core.nodess (pre++[x])=Core.nodess pre+x.nodes
 | [] =>by simp [Core.nodess]
 |c::cs=>by rw [List.cons_append,Core.nodess,Core.nodess,Db x cs]; omega
theorem FB (b:List Core):∀a:List Core,Core.nodess (a++b)=Core.nodess a+Core.nodess b
 | [] =>by simp [Core.nodess]
 |c::cs=>by rw [List.cons_append,Core.nodess,Core.nodess,FB b cs]; omega
theorem OM (L:List ByteArray) (x:Core):∀ (pre:List Core) (p:Nat),Core.lns L (pre++[x]) p=Core.lns L pre p++[x.ln L (p+Core.nodess pre)]
 | [],p=>by simp [Core.lns,Core.nodess]
 |c::cs,p=>by rw [List.cons_append,Core.lns,Core.lns,OM L x cs,Core.nodess,Nat.add_assoc]; rfl
theorem ON (L:List ByteArray) (x:Core):∀ (pre:List Core) (p:Nat),Core.lts L (pre++[x]) p=Core.lts L pre p++[x.lt L (p+Core.nodess pre)]
 | [],p=>by simp [Core.lts,Core.nodess]
 |c::cs,p=>by rw [List.cons_append,Core.lts,Core.lts,ON L x cs,Core.nodess,Nat.add_assoc]; rfl
theorem HF (L:List ByteArray):∀ (l:List Core) (p:Nat),(Core.lns L l p).length =l.length
 | [],p=>by simp [Core.lns]
 |c::cs,p=>by rw [Core.lns,List.length_cons,List.length_cons,HF L cs]
theorem HG (L:List ByteArray):∀ (l:List Core) (p:Nat),(Core.lts L l p).length =l.length
 | [],p=>by simp [Core.lts]
 |c::cs,p=>by rw [Core.lts,List.length_cons,List.length_cons,HG L cs]
theorem S0 {L:List ByteArray} {p:Nat} (h:p<L.length):at? L (p:Int)=some (L.getD p ByteArray.empty):=by
 unfold at?
 rw [if_pos (by omega),List.getD_eq_getElem?_getD,Int.toNat_natCast,List.getElem?_eq_getElem h]; rfl
theorem D6:∀l:List Core,l.length≤Core.nodess l
 | [] =>by simp
 |c::cs=>by rw [Core.nodess,List.length_cons]; have:=D6 cs; have:=c.nodes_pos; omega
theorem S1 (x:Labelled) (hL:x.labels.length≤Big):∀ (c:Core) (n p:Nat),p+c.nodes≤x.labels.length→4*c.nodes≤n→BK n x c (p:Int)=some (c.ln x.labels p,((p+c.nodes:Nat):Int)):=by
 refine Core.ind fun c ih n p hp hn=>?_
 have hnd:=c.nodes_eq
 have hkl:=D6 c.kids
 obtain⟨n,rfl⟩:∃m,n=m+1:=⟨n - 1,by omega⟩
 rw [BK,S0 (by omega),AA,w64 (by omega) (by unfold Big at hL; omega)]
 have loop:∀ (post pre:List Core) (n:Nat),c.kids=pre++post→4*Core.nodess post+1≤n→
   Au n x c (p:Int) (x.labels.getD p ByteArray.empty) ((p+1+Core.nodess pre:Nat):Int) (Core.lns x.labels pre (p+1)) ((List.length pre:Nat):Int)=some (c.ln x.labels p,((p+c.nodes:Nat):Int)):=by
  intro post
  induction post with
  |nil=>
   intro pre n h hn
   obtain⟨n,rfl⟩:∃m,n=m+1:=⟨n - 1,by omega⟩
   have h':c.kids=pre:=by rw [h,List.append_nil]
   rw [Au,Bz h,if_neg (by simp),Core.ln_eq,hnd,h']
   congr 2
   omega
  |cons y post ihp=>
   intro pre n h hn
   rw [Core.nodess] at hn
   have hy:=y.nodes_pos
   obtain⟨n,rfl⟩:∃m,n=m+1:=⟨n - 1,by omega⟩
   have hm:y ∈ c.kids:=by rw [h]; simp
   have hlen:c.kids.length≤Big:=by omega
   have hpl:pre.length<c.kids.length:=by rw [h]; simp
   have hsum:Core.nodess c.kids=Core.nodess pre+(y.nodes+Core.nodess post):=by rw [h,FB,Core.nodess]
   rw [Au,if_pos (BW h),BX h,AA,ih y hm n (p+1+Core.nodess pre) (by omega) (by omega),AA,Iy (by rw [HF]; simp; unfold Big at*; omega),AA,Al h hlen]
   have:=ihp (pre++[y]) n (Am h) (by omega)
   rw [Db,OM] at this
   rw [show p+1+Core.nodess pre+y.nodes=p+1+(Core.nodess pre+y.nodes) from by omega]
   exact this
 have:=loop c.kids [] n rfl (by omega)
 simpa [Core.lns,Core.nodess] using this
theorem S2 (L:List ByteArray) (hL:L.length≤Big):∀ (c:Core) (n p:Nat),p+c.nodes≤L.length→4*c.nodes≤n→DZ n c L (p:Int)=some (c.lt L p,((p+c.nodes:Nat):Int)):=by
 refine Core.ind fun c ih n p hp hn=>?_
 have hnd:=c.nodes_eq
 have hkl:=D6 c.kids
 obtain⟨n,rfl⟩:∃m,n=m+1:=⟨n - 1,by omega⟩
 rw [DZ,S0 (by omega),AA,w64 (by omega) (by unfold Big at hL; omega)]
 have loop:∀ (post pre:List Core) (n:Nat),c.kids=pre++post→4*Core.nodess post+1≤n→
   CG n c L (L.getD p ByteArray.empty) ((p+1+Core.nodess pre:Nat):Int) (Core.lts L pre (p+1)) ((List.length pre:Nat):Int)=some (c.lt L p,((p+c.nodes:Nat):Int)):=by
  intro post
  induction post with
  |nil=>
   intro pre n h hn
   obtain⟨n,rfl⟩:∃m,n=m+1:=⟨n - 1,by omega⟩
   have h':c.kids=pre:=by rw [h,List.append_nil]
   rw [CG,Bz h,if_neg (by simp),Core.lt_eq,hnd,h']
   congr 2
   omega
  |cons y post ihp=>
   intro pre n h hn
   rw [Core.nodess] at hn
   have hy:=y.nodes_pos
   obtain⟨n,rfl⟩:∃m,n=m+1:=⟨n - 1,by omega⟩
   have hm:y ∈ c.kids:=by rw [h]; simp
   have hlen:c.kids.length≤Big:=by omega
   have hpl:pre.length<c.kids.length:=by rw [h]; simp
   have hsum:Core.nodess c.kids=Core.nodess pre+(y.nodes+Core.nodess post):=by rw [h,FB,Core.nodess]
   rw [CG,if_pos (BW h),BX h,AA,ih y hm n (p+1+Core.nodess pre) (by omega) (by omega),AA,Iy (by rw [HG]; simp; unfold Big at*; omega),AA,Al h hlen]
   have:=ihp (pre++[y]) n (Am h) (by omega)
   rw [Db,ON] at this
   rw [show p+1+Core.nodess pre+y.nodes=p+1+(Core.nodess pre+y.nodes) from by omega]
   exact this
 have:=loop c.kids [] n rfl (by omega)
 simpa [Core.lts,Core.nodess] using this
end Go.Proofs.Ytgigfdghecdlgaa.Ab
namespace Go.Proofs.Ytgigfdghecdlgaa.Ab
set_option linter.unusedVariables false
set_option linter.unusedSimpArgs false
open Go.RowKit
def Dx:List Core→Nat→List (Core × Nat)
 | [],_=>[]
 |c::cs,p=>(c,p)::Dx cs (p+1)
theorem MB (b:List Core):∀ (a:List Core) (p:Nat),Dx (a++b) p=Dx a p++Dx b (p+a.length)
 | [],p=>by simp [Dx]
 |c::cs,p=>by rw [List.cons_append,Dx,Dx,MB b cs,List.cons_append,List.length_cons,show p+1+cs.length=p+(cs.length+1) from by omega]
mutual
theorem DJ:∀c:Core,c.all.length=c.nodes
 |⟨k,v,d,ks⟩=>by rw [Core.all,Core.nodes,List.length_cons,OO ks]; omega
theorem OO:∀l:List Core,(Core.alls l).length =Core.nodess l
 | [] =>by simp [Core.alls,Core.nodess]
 |c::cs=>by rw [Core.alls,Core.nodess,List.length_append,DJ c,OO cs]
end
def QA (q:Core × Nat):Bool:= !decide (rk q.1 =0)
def redl (l:List Core) (p:Nat):List (Core × Nat):=(Dx l p).filter QA
theorem OP {a b:List Core} {p:Nat}:redl (a++b) p=redl a p++redl b (p+a.length):=by unfold redl; rw [MB,List.filter_append]
theorem I0 {c:Core} {b:List Core} {p:Nat}:redl (c::b) p=(if rk c=0 then [] else [(c,p)])++redl b (p+1):=by
 unfold redl
 rw [Dx,List.filter_cons]
 unfold QA
 by_cases h:rk c=0
 ·rw [if_pos h]; simp [h]
 ·rw [if_neg h]; simp [h]
theorem QB (L:List ByteArray) (b:List Core):∀ (a:List Core) (p:Nat),Core.lns L (a++b) p=Core.lns L a p++Core.lns L b (p+Core.nodess a)
 | [],p=>by simp [Core.lns,Core.nodess]
 |c::cs,p=>by rw [List.cons_append,Core.lns,Core.lns,QB L b cs,Core.nodess,Nat.add_assoc]; rfl
theorem QC (L:List ByteArray) (b:List Core):∀ (a:List Core) (p:Nat),Core.lts L (a++b) p=Core.lts L a p++Core.lts L b (p+Core.nodess a)
 | [],p=>by simp [Core.lts,Core.nodess]
 |c::cs,p=>by rw [List.cons_append,Core.lts,Core.lts,QC L b cs,Core.nodess,Nat.add_assoc]; rfl
def lnP (L:List ByteArray) (q:Core × Nat):LabelNode:=q.1.ln L q.2
theorem S3 (L:List ByteArray):∀ (c:Core),c.wf=true→∀ (n p:Nat) (out:List LabelNode),4*c.nodes≤n→out.length+c.nodes≤Big→
  Ao n (c.ln L p) out=some (out++(redl c.all p).map (lnP L)):=by
 refine Core.ind fun c ih hw n p out hn ho=>?_
 rw [Core.wf_eq,Bool.and_eq_true] at hw
 have hnd:=c.nodes_eq
 have hkl:=D6 c.kids
 have hc:(c.ln L p).core =c:=by rw [Core.ln_eq]
 have hk:(c.ln L p).kids =Core.lns L c.kids (p+1):=by rw [Core.ln_eq]
 have loop:∀ (post pre:List Core) (n:Nat) (out:List LabelNode),c.kids=pre++post→4*Core.nodess post+1≤n→out.length+Core.nodess post≤Big→
   Ac n (c.ln L p) out ((List.length pre:Nat):Int)=some (out++(redl (Core.alls post) (p+1+Core.nodess pre)).map (lnP L)):=by
  intro post
  induction post with
  |nil=>
   intro pre n out h hn ho
   obtain⟨n,rfl⟩:∃m,n=m+1:=⟨n - 1,by omega⟩
   have h':c.kids=pre:=by rw [h,List.append_nil]
   rw [Ac,hk,HF,h',if_neg (by simp)]
   simp [Core.alls,redl,Dx]
  | cons y post ihp=>
   intro pre n out h hn ho
   rw [Core.nodess] at hn ho
   have hy:=y.nodes_pos
   obtain⟨n,rfl⟩:∃m,n=m+1:=⟨n - 1,by omega⟩
   have hm:y ∈ c.kids:=by rw [h]; simp
   have h2:Core.lns L c.kids (p+1)=Core.lns L pre (p+1)++y.ln L (p+1+Core.nodess pre)::Core.lns L post (p+1+Core.nodess pre+y.nodes):=by
    rw [h,QB,Core.lns]
   have hl:((List.length pre:Nat):Int)=((List.length (Core.lns L pre (p+1)):Nat):Int):=by rw [HF]
   have hR:(redl y.all (p+1+Core.nodess pre)).length ≤y.nodes:=by
    have h1:∀ (l:List Core) (q:Nat),(Dx l q).length =l.length:=by
     intro l
     induction l with
     |nil=>intro q; rfl
     |cons a l ih=>intro q; rw [Dx,List.length_cons,List.length_cons,ih]
    have:=List.length_filter_le QA (Dx y.all (p+1+Core.nodess pre))
    rw [h1,DJ] at this
    exact this
   rw [Ac,hk,hl,if_pos (BW h2),BX h2,AA,ih y hm (Ji hm hw.2) n _ out (by omega) (by omega),AA,Al h2 (by rw [HF]; omega)]
   have:=ihp (pre++[y]) n (out++(redl y.all (p+1+Core.nodess pre)).map (lnP L)) (Am h) (by omega) (by rw [List.length_append,List.length_map]; omega)
   rw [Db] at this
   rw [show List.length (Core.lns L pre (p+1)++[y.ln L (p+1+Core.nodess pre)])=List.length (pre++[y]) from by simp [HF],this,Core.alls,OP,DJ,List.map_append,List.append_assoc,Nat.add_assoc (p+1)]
 obtain⟨n,rfl⟩:∃m,n=m+1:=⟨n - 1,by omega⟩
 obtain⟨n,rfl⟩:∃m,n=m+1:=⟨n - 1,by omega⟩
 rw [Ao,hc,HY c hw.1,AA,Core.all_eq,I0]
 have l0:=fun o ho'=>loop c.kids [] n o rfl (by omega) ho'
 simp only [Core.nodess,Nat.add_zero,List.length_nil,Int.natCast_zero] at l0
 by_cases h:rk c=0
 ·rw [if_neg (by simp [h]),Ai,l0 out (by omega),if_pos h,List.nil_append]
 ·rw [if_pos (by simp [h]),Iy (by simp; omega),AA,Ai,l0 _ (by simp; omega),if_neg h,List.map_append,List.append_assoc]
  rfl
def Ks (L:List ByteArray) (t:L38T) (p a s:Nat):Option Core→L38T × Bool × Int
 |some e=>(e.lt L (p+a),true,0)
 |none=>(t,false,((a - s:Nat):Int))
theorem S4 (L:List ByteArray):∀ (c:Core) (n p a:Nat),4*c.nodes≤n→c.nodes≤Big→a≤Big→Da n (c.lt L p) (a:Int)=some (Ks L (c.lt L p) p a c.nodes c.all[a]?):=by
 refine Core.ind fun c ih n p a hn hN ha=>?_
 have hnd:=c.nodes_eq
 have hkl:=D6 c.kids
 have hk:(c.lt L p).kids =Core.lts L c.kids (p+1):=by rw [Core.lt_eq]
 have loop:∀ (post pre:List Core) (n a:Nat),c.kids=pre++post→4*Core.nodess post+1≤n→a≤Big→
   CH n (c.lt L p) (a:Int) ((List.length pre:Nat):Int)=some (Ks L (c.lt L p) (p+1+Core.nodess pre) a (Core.nodess post) (Core.alls post)[a]?):=by
  intro post
  induction post with
  |nil=>
   intro pre n a h hn ha
   obtain⟨n,rfl⟩:∃m,n=m+1:=⟨n - 1,by omega⟩
   have h':c.kids=pre:=by rw [h,List.append_nil]
   rw [CH,hk,HG,h',if_neg (by simp)]
   simp [Core.alls,Ks,Core.nodess]
  | cons y post ihp=>
   intro pre n a h hn ha
   rw [Core.nodess] at hn
   have hy:=y.nodes_pos
   obtain⟨n,rfl⟩:∃m,n=m+1:=⟨n - 1,by omega⟩
   have hm:y ∈ c.kids:=by rw [h]; simp
   have hsum:Core.nodess c.kids=Core.nodess pre+(y.nodes+Core.nodess post):=by rw [h,FB,Core.nodess]
   have h2:Core.lts L c.kids (p+1)=Core.lts L pre (p+1)++y.lt L (p+1+Core.nodess pre)::Core.lts L post (p+1+Core.nodess pre+y.nodes):=by
    rw [h,QC,Core.lts]
   have hl:((List.length pre:Nat):Int)=((List.length (Core.lts L pre (p+1)):Nat):Int):=by rw [HG]
   rw [CH,hk,hl,if_pos (BW h2),BX h2,AA,ih y hm n _ a (by omega) (by omega) ha,AA,Core.alls]
   by_cases hlt:a<y.nodes
   ·have e1:y.all[a]? =some (y.all[a]'(by rw [DJ]; exact hlt)):=List.getElem?_eq_getElem _
    rw [List.getElem?_append_left (by rw [DJ]; exact hlt),e1]
    simp [Ks]
   ·have e1:y.all[a]? =none:=List.getElem?_eq_none (by rw [DJ]; omega)
    rw [List.getElem?_append_right (by rw [DJ]; omega),e1,DJ]
    have:=ihp (pre++[y]) n (a - y.nodes) (Am h) (by omega) (by omega)
    rw [Db] at this
    simp only [Ks,Bool.false_eq_true,reduceIte]
    rw [Al h2 (by rw [HG]; omega),show List.length (Core.lts L pre (p+1)++[y.lt L (p+1+Core.nodess pre)])=List.length (pre++[y]) from by simp [HG],this]
    cases (Core.alls post)[a - y.nodes]? with
    |none=>simp only [Ks]; rw [Core.nodess]; congr 4; omega
    |some e=>simp only [Ks]; rw [show p+1+(Core.nodess pre+y.nodes)+(a - y.nodes)=p+1+Core.nodess pre+a from by omega]
 obtain⟨n,rfl⟩:∃m,n=m+1:=⟨n - 1,by omega⟩
 rw [Da,Core.all_eq]
 rcases Nat.eq_zero_or_pos a with rfl|h0
 ·rw [if_pos (by simp)]; simp [Ks]
 ·obtain⟨a,rfl⟩:∃b,a=b+1:=⟨a - 1,by omega⟩
  rw [if_neg (by simp; omega),w64 (by omega) (by unfold Big at ha; omega),show (((a+1:Nat):Int) - 1)=(a:Int) from by omega]
  have:=loop c.kids [] n a rfl (by omega) (by omega)
  simp only [Core.nodess,Nat.add_zero,List.length_nil,Int.natCast_zero] at this
  rw [this,List.getElem?_cons_succ]
  cases (Core.alls c.kids)[a]? with
  |none=>simp only [Ks]; congr 4; omega
  |some e=>simp only [Ks]; rw [show p+1+a=p+(a+1) from by omega]
end Go.Proofs.Ytgigfdghecdlgaa.Ab
