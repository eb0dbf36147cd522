/-
  What memory can hold fits. No program is in sight.
-/
import Derived.Test.YtgigfdghecdlgaaPlG
import Derived.Test.YtgigfdghecdlgaaAbZ
import Derived.Test.YtgigfdghecdlgaaModO
namespace Go.Proofs.Ytgigfdghecdlgaa.Ab
set_option linter.unusedVariables false
set_option linter.unusedSimpArgs false
open Go.RowKit
theorem Core.fits_ok:∀ (c:Core),Gq (Core.ds c)→c.Fits:=by
 refine Core.ind fun c ih h=>?_
 rw [Core.ds_eq] at h
 simp only [Gq,D.ok,List.length_map] at h
 obtain⟨-,-,⟨hd,-⟩,⟨hk,hr⟩,-⟩:=h
 exact⟨c,hd,hk,fun k hkk=>ih k hkk (Km hr hkk)⟩
end Go.Proofs.Ytgigfdghecdlgaa.Ab
namespace Go.Proofs.Ytgigfdghecdlgaa.Ab
set_option linter.unusedVariables false
set_option linter.unusedSimpArgs false
open Go.RowKit
section
variable {α:Type} {pre post:List α} {x y:α}
theorem Mk:at? (pre++x::post) ((List.length pre:Nat):Int)=some x:=BX rfl
theorem Ml:decide (((List.length pre:Nat):Int)<((List.length (pre++x::post):Nat):Int))=true:=BW rfl
theorem Mm:FO (pre++x::post) ((List.length pre:Nat):Int) y=some (pre++y::post):=by
 unfold FO Uf
 simp
theorem IY (h:pre.length<Big):IntKind.i64.wrap (((List.length pre:Nat):Int)+1)=((List.length pre+1:Nat):Int):=by
 unfold Big at h
 rw [w64 (by omega) (by omega)]
 omega
theorem Mn {l:List α}:decide (((List.length l:Nat):Int)<((List.length l:Nat):Int))=false:=by simp
end
abbrev KB:Nat:=4611686018427387904
theorem wk {k:Nat} (h:k+1≤KB):IntKind.i64.wrap ((k:Int)+1)=((k+1:Nat):Int):=by
 unfold KB at h
 rw [w64 (by omega) (by omega)]
 omega
theorem a8 {k:Nat}:decide (((k:Nat):Int)<0)=false:=by simp
def cnts {α:Type} (c:α→Nat):List α→Nat
 | [] =>0
 |x::l=>c x+cnts c l
def mks {α:Type} (mk:Nat→α→α) (c:α→Nat):Nat→List α→List α
 |_,[] =>[]
 |k,x::l=>mk k x::mks mk c (k+c x) l
theorem cnts_le {α:Type} {c s:α→Nat} {b:Nat}:∀ {l:List α},(∀x,c x≤b+b*s x)→cnts c l≤b*szl s l
 | [],_=>by simp [cnts]
 |x::l,h=>by
  rw [cnts,szl,Nat.mul_add,Nat.mul_add]
  have:=h x
  have:=cnts_le (l:=l) h
  omega
theorem Fl {α:Type} {c:α→Nat} {b:Nat}:∀ {l:List α},(∀x,c x≤b)→cnts c l≤b*l.length
 | [],_=>by simp [cnts]
 |x::l,h=>by
  rw [cnts,List.length_cons,Nat.mul_add]
  have:=h x
  have:=Fl (l:=l) h
  omega
def one {α:Type}:α→Nat:=fun _=>1
def mkI:Nat→Int→Int:=fun k _=>(k:Int)
theorem Mo {α:Type} {x:α}:one x≤1:=Nat.le_refl 1
theorem U8 {α:Type} (L:Nat→List α→Int→Int→Option (Int × List α)) (mk:Nat→α→α) (c:α→Nat) (P:α→Prop)
  (hL:∀n (pre post:List α) x (k:Nat),P x→k+c x≤KB→pre.length<Big→L (n+1) (pre++x::post) (k:Int) ((List.length pre:Nat):Int)=L n (pre++mk k x::post) ((k+c x:Nat):Int) ((List.length pre+1:Nat):Int))
  (hN:∀n (l:List α) (k:Int),L (n+1) l k ((List.length l:Nat):Int)=some (k,l))
  (l:List α) (k:Nat) (hP:∀x ∈ l,P x) (hl:l.length≤Big) (hk:k+cnts c l≤KB):L fuel l (k:Int) 0=some (((k+cnts c l:Nat):Int),mks mk c k l):=by
 have loop:∀ (post pre:List α) (n k:Nat),(∀x ∈ post,P x)→pre.length+post.length≤Big→k+cnts c post≤KB→post.length<n→L n (pre++post) (k:Int) ((List.length pre:Nat):Int)=some (((k+cnts c post:Nat):Int),pre++mks mk c k post):=by
  intro post
  induction post with
  |nil=>
   intro pre n k _ _ _ hn
   obtain⟨n,rfl⟩:∃m,n=m+1:=⟨n - 1,by omega⟩
   rw [List.append_nil,hN,cnts,mks,List.append_nil]; rfl
  |cons x post ih=>
   intro pre n k hp hb hk hn
   obtain⟨n,rfl⟩:∃m,n=m+1:=⟨n - 1,by omega⟩
   rw [List.length_cons] at hb hn
   rw [cnts] at hk
   rw [hL n pre post x k (hp x (List.mem_cons_self ..)) (by omega) (by omega),cnts,mks]
   have:=ih (pre++[mk k x]) n (k+c x) (fun y hy=>hp y (List.mem_cons_of_mem _ hy)) (by rw [List.length_append]; simp; omega) (by omega) (by omega)
   rw [List.append_assoc,List.append_assoc,List.length_append] at this
   simp only [List.cons_append,List.nil_append,List.length_cons,List.length_nil,Nat.zero_add] at this
   rw [this,Nat.add_assoc]
 exact loop l [] fuel k hP (by simpa using hl) hk (by rw [B5]; unfold Big at hl; omega)
theorem Yl {α:Type} (L:Nat→List α→Int→Int→Option Int) (mk:Nat→α→α) (c:α→Nat) (P:α→Prop)
  (hL:∀n (pre post:List α) x (k:Nat),P x→k+c x≤KB→pre.length<Big→L (n+1) (pre++mk k x::post) (k:Int) ((List.length pre:Nat):Int)=L n (pre++mk k x::post) ((k+c x:Nat):Int) ((List.length pre+1:Nat):Int))
  (hN:∀n (l:List α) (k:Int),L (n+1) l k ((List.length l:Nat):Int)=some k)
  (l:List α) (k:Nat) (hP:∀x ∈ l,P x) (hl:l.length≤Big) (hk:k+cnts c l≤KB):L fuel (mks mk c k l) (k:Int) 0=some ((k+cnts c l:Nat):Int):=by
 have loop:∀ (post pre:List α) (n k:Nat),(∀x ∈ post,P x)→pre.length+post.length≤Big→k+cnts c post≤KB→post.length<n→L n (pre++mks mk c k post) (k:Int) ((List.length pre:Nat):Int)=some ((k+cnts c post:Nat):Int):=by
  intro post
  induction post with
  |nil=>
   intro pre n k _ _ _ hn
   obtain⟨n,rfl⟩:∃m,n=m+1:=⟨n - 1,by omega⟩
   rw [mks,List.append_nil,hN,cnts]; rfl
  |cons x post ih=>
   intro pre n k hp hb hk hn
   obtain⟨n,rfl⟩:∃m,n=m+1:=⟨n - 1,by omega⟩
   rw [List.length_cons] at hb hn
   rw [cnts] at hk
   rw [mks,hL n pre _ x k (hp x (List.mem_cons_self ..)) (by omega) (by omega),cnts]
   have:=ih (pre++[mk k x]) n (k+c x) (fun y hy=>hp y (List.mem_cons_of_mem _ hy)) (by rw [List.length_append]; simp; omega) (by omega) (by omega)
   rw [List.append_assoc,List.length_append] at this
   simp only [List.cons_append,List.nil_append,List.length_cons,List.length_nil,Nat.zero_add] at this
   rw [this,Nat.add_assoc]
 exact loop l [] fuel k hP (by simpa using hl) hk (by rw [B5]; unfold Big at hl; omega)
end Go.Proofs.Ytgigfdghecdlgaa.Ab
namespace Go.Proofs.Ytgigfdghecdlgaa.Ab
set_option linter.unusedVariables false
set_option linter.unusedSimpArgs false
open Go.RowKit
theorem HZ (l:List Int) (k:Nat) (h:l.length≤Big) (hk:k+cnts one l≤KB):C4 l (k:Int)=some (((k+cnts one l:Nat):Int),mks mkI one k l):=by
 unfold C4
 refine U8 (fun n l k i=>BJ n l k i) mkI one (fun _=>True) ?_ ?_ l k (fun _ _=>trivial) h hk
 ·intro n pre post x k hx hk hp
  have e:k+one x=k+1:=by rfl
  rw [e] at hk ⊢
  rw [BJ,if_pos Ml]
  simp (disch:=omega) only [Mk,Mm,AA,wk,IY]
  rfl
 ·intro n l k; rw [BJ,if_neg (by rw [Mn]; decide)]
mutual
def Core.cnt:Core→Nat
 |⟨_,_,d,ks⟩=>1+1+Ab.cnts one d+Core.cnts ks
def Core.cnts:List Core→Nat
 | [] =>0
 |c::cs=>Core.cnt c+Core.cnts cs
end
theorem Core.cnt_eq (c:Core):c.cnt=1+1+Ab.cnts one c.data+Core.cnts c.kids:=by cases c; rw [Core.cnt]
mutual
def Core.mk1:Nat→Core→Core
 |k,⟨_,_,d,ks⟩=>⟨(k:Int),((k+1:Nat):Int),Ab.mks mkI one (k+1+1) d,Core.mks (k+1+1+Ab.cnts one d) ks⟩
def Core.mks:Nat→List Core→List Core
 |_,[] =>[]
 |k,c::cs=>Core.mk1 k c::Core.mks (k+Core.cnt c) cs
end
theorem Core.mk1_eq (k:Nat) (c:Core):Core.mk1 k c=⟨(k:Int),((k+1:Nat):Int),Ab.mks mkI one (k+1+1) c.data,Core.mks (k+1+1+Ab.cnts one c.data) c.kids⟩:=by cases c; rw [Core.mk1]
mutual
theorem Core.cnt_le:∀c:Core,c.cnt≤2+2*c.sz
 |⟨k,v,d,ks⟩=>by
  rw [Core.cnt,Core.sz]
  have:=Fl (c:=one) (b:=1) (l:=d) (fun x=>Mo)
  have:=Core.cnts_le ks
  omega
theorem Core.cnts_le:∀l:List Core,Core.cnts l≤2*Core.szs l
 | [] =>by simp [Core.cnts,Core.szs]
 |c::cs=>by
  rw [Core.cnts,Core.szs]
  have:=Core.cnt_le c
  have:=Core.cnts_le cs
  omega
end
theorem Mp:∀n:Nat,(∀ (l:List Core) (k:Nat),2*Core.szs l+2≤n→Core.szs l≤Big→k+Core.cnts l≤KB→CF n l (k:Int)=some (((k+Core.cnts l:Nat):Int),Core.mks k l))∧
  (∀ (pre post:List Core) (k:Nat),2*Core.szs post+1≤n→pre.length+post.length≤Big→Core.szs post≤Big→k+Core.cnts post≤KB→
   BV n (pre++post) (k:Int) ((List.length pre:Nat):Int)=some (((k+Core.cnts post:Nat):Int),pre++Core.mks k post)):=by
 intro n
 induction n with
 |zero=>exact⟨fun l k h=>by omega,fun pre post k h=>by omega⟩
 | succ n ih=>
  refine⟨fun l k h hs hk=>?_,fun pre post k h hl hs hk=>?_⟩
  ·rw [CF]
   exact ih.2 [] l k (by omega) (by have:=Core.len_szs l; simp; omega) hs hk
  ·cases post with
   |nil=>rw [List.append_nil,BV,if_neg (by rw [Mn]; decide),Core.cnts,Core.mks,List.append_nil]; rfl
   |cons x post=>
    rw [Core.szs] at h hs
    rw [Core.cnts] at hk ⊢
    rw [List.length_cons] at hl
    have e:k+(Core.cnt x+Core.cnts post)=k+1+1+Ab.cnts one x.data+Core.cnts x.kids+Core.cnts post:=by rw [Core.cnt_eq]; omega
    rw [e] at hk ⊢
    rw [Core.sz_eq] at h hs
    rw [BV,if_pos Ml]
    simp (disch:=omega) only [Mk,Mm,AA,wk,IY,HZ,ih.1]
    have hx:Core.mk1 k x=⟨(k:Int),((k+1:Nat):Int),Ab.mks mkI one (k+1+1) x.data,Core.mks (k+1+1+Ab.cnts one x.data) x.kids⟩:=Core.mk1_eq k x
    rw [← hx]
    have:=ih.2 (pre++[Core.mk1 k x]) post (k+1+1+Ab.cnts one x.data+Core.cnts x.kids) (by omega) (by simp; omega) (by omega) (by omega)
    rw [List.append_assoc,List.append_assoc,List.length_append] at this
    simp only [List.cons_append,List.nil_append,List.length_cons,List.length_nil,Nat.zero_add] at this
    rw [this,Core.mks,show k+Core.cnt x=k+1+1+Ab.cnts one x.data+Core.cnts x.kids from by rw [Core.cnt_eq]; omega]
theorem Mq (l:List Core) (k:Nat) (h:Core.szs l≤Big) (hk:k+Core.cnts l≤KB):CF fuel l (k:Int)=some (((k+Core.cnts l:Nat):Int),Core.mks k l):=
 (Mp fuel).1 l k (by rw [B5]; unfold Big at h; omega) h hk
def Core.mkV (k:Nat) (c:Core):Core:=⟨c.kind,c.value,Ab.mks mkI one k c.data,Core.mks (k+Ab.cnts one c.data) c.kids⟩
def Core.cntV (c:Core):Nat:=Ab.cnts one c.data+Core.cnts c.kids
theorem Core.cntV_le (c:Core):c.cntV≤2*c.sz:=by
 rw [Core.cntV,Core.sz_eq]
 have:=Fl (c:=one) (b:=1) (l:=c.data) (fun x=>Mo)
 have:=Core.cnts_le c.kids
 omega
theorem OQ (c:Core) (k:Nat) (h:c.sz≤Big) (hk:k+c.cntV≤KB):E9 c (k:Int)=some (((k+c.cntV:Nat):Int),(Core.mkV k c).data,(Core.mkV k c).kids):=by
 have h1:=Core.cntV_le c
 rw [Core.cntV] at h1
 have h2:=Core.sz_eq c
 rw [Core.cntV] at hk
 unfold E9
 rw [HZ _ _ (by omega) (by omega),AA,Mq _ _ (by omega) (by omega),AA]
 simp only [Core.mkV,Core.cntV,Nat.add_assoc]
end Go.Proofs.Ytgigfdghecdlgaa.Ab
