/- Results that are marked and found marked again. -/
import Derived.Test.YtjnifengdhcojaaGreatDoorPlNet
import Derived.Test.YtjnifengdhcojaaGreatDoorModC
import Derived.Test.YtjnifengdhcojaaGreatDoorAbZ
import Derived.Test.YtjnifengdhcojaaGreatDoorModU
import Derived.Test.YtjnifengdhcojaaGreatDoorModD
namespace Go.Proofs.YtjnifengdhcojaaGreatDoor.Ab
set_option linter.unusedVariables false
set_option maxHeartbeats 1000000
set_option linter.unusedSimpArgs false
open Go.RowKit
section
variable {α:Type} {pre post:List α} {x y:α}
theorem RC:at? (pre++x::post) (pre.length:Int)=some x:=AU rfl
theorem RD:decide ((pre.length:Int)<((List.length (pre++x::post):Nat):Int))=true:=Ah rfl
theorem TZ:Cn (pre++x::post) (pre.length:Int) y=some (pre++y::post):=by
 simp [Cn,mI]
theorem K1 (h:pre.length<Big):IntKind.i64.wrap ((pre.length:Int)+1)=((List.length pre+1:Nat):Int):=by
 grind [w64]
theorem RE {l:List α}:decide ((l.length:Int)<(l.length:Int))=false:=by simp
end
abbrev KB:Nat:=4611686018427387904
theorem wk {k:Nat} (h:k+1≤KB):IntKind.i64.wrap ((k:Int)+1)=((k+1:Nat):Int):=by
 grind [w64]
theorem mK {k:Nat}:decide (((k:Nat):Int)<0)=false:=by simp
def cnts {α:Type} (c:α→Nat):List α→Nat
 | [] =>0
 |x::l=>c x+cnts c l
def mks {α:Type} (mk:Nat→α→α) (c:α→Nat):Nat→List α→List α
 |_,[] =>[]
 |k,x::l=>mk k x::mks mk c (k+c x) l
theorem cnts_le {α:Type} {c s:α→Nat} {b:Nat}:∀ {l:List α},(∀x,c x≤b+b*s x)→cnts c l≤b*szl s l
 | [],_=>by simp [cnts]
 |x::l,h=>by
  rw [cnts,szl,Nat.mul_add,Nat.mul_add]
  have:=h x
  have:=cnts_le (l:=l) h
  omega
theorem H2 {α:Type} {c:α→Nat} {b:Nat}:∀ {l:List α},(∀x,c x≤b)→cnts c l≤b*l.length
 | [],_=>by simp [cnts]
 |x::l,h=>by
  rw [cnts,List.length_cons,Nat.mul_add]
  have:=h x
  have:=H2 (l:=l) h
  omega
def one {α:Type}:α→Nat:=fun _=>1
def mkI:Nat→Int→Int:=fun k _=>(k:Int)
theorem Xv {α:Type} {x:α}:one x≤1:=Nat.le_refl 1
theorem jU {α:Type} (L:Nat→List α→Int→Int→Option (Int × List α)) (mk:Nat→α→α) (c:α→Nat) (P:α→Prop)
  (hL:∀n (pre post:List α) x (k:Nat),P x→k+c x≤KB→pre.length<Big→L (n+1) (pre++x::post) (k:Int) (pre.length:Int)=L n (pre++mk k x::post) ((k+c x:Nat):Int) ((List.length pre+1:Nat):Int))
  (hN:∀n (l:List α) (k:Int),L (n+1) l k (l.length:Int)=some (k,l))
  (l:List α) (k:Nat) (hP:∀x ∈ l,P x) (hl:l.length≤Big) (hk:k+cnts c l≤KB):L fuel l (k:Int) 0=some (((k+cnts c l:Nat):Int),mks mk c k l):=by
 have loop:∀ (post pre:List α) (n k:Nat),(∀x ∈ post,P x)→pre.length+post.length≤Big→k+cnts c post≤KB→post.length<n→L n (pre++post) (k:Int) (pre.length:Int)=some (((k+cnts c post:Nat):Int),pre++mks mk c k post):=by
  intro post
  induction post with
  |nil=>
   intro pre n k _ _ _ j
   obtain⟨n,rfl⟩:∃m,n=m+1:=⟨n - 1,by omega⟩
   rw [List.append_nil,hN,cnts,mks,List.append_nil]; rfl
  |cons x post ih=>
   intro pre n k hp hb hk j
   obtain⟨n,rfl⟩:∃m,n=m+1:=⟨n - 1,by omega⟩
   rw [List.length_cons] at hb j
   rw [cnts] at hk
   rw [hL n pre post x k (hp x (List.mem_cons_self ..)) (by omega) (by omega),cnts,mks]
   have:=ih (pre++[mk k x]) n (k+c x) (fun y hy=>hp y (List.mem_cons_of_mem _ hy)) (by rw [List.length_append]; grind) (by omega) (by omega)
   rw [List.append_assoc,List.append_assoc,List.length_append] at this
   simp only [List.cons_append,List.nil_append,List.length_cons,List.length_nil,Nat.zero_add] at this
   rw [this,Nat.add_assoc]
 exact loop l [] fuel k hP (by grind) hk (by rw [Af]; grind)
theorem sS {α:Type} (L:Nat→List α→Int→Int→Option Int) (mk:Nat→α→α) (c:α→Nat) (P:α→Prop)
  (hL:∀n (pre post:List α) x (k:Nat),P x→k+c x≤KB→pre.length<Big→L (n+1) (pre++mk k x::post) (k:Int) (pre.length:Int)=L n (pre++mk k x::post) ((k+c x:Nat):Int) ((List.length pre+1:Nat):Int))
  (hN:∀n (l:List α) (k:Int),L (n+1) l k (l.length:Int)=some k)
  (l:List α) (k:Nat) (hP:∀x ∈ l,P x) (hl:l.length≤Big) (hk:k+cnts c l≤KB):L fuel (mks mk c k l) (k:Int) 0=some ((k+cnts c l:Nat):Int):=by
 have loop:∀ (post pre:List α) (n k:Nat),(∀x ∈ post,P x)→pre.length+post.length≤Big→k+cnts c post≤KB→post.length<n→L n (pre++mks mk c k post) (k:Int) (pre.length:Int)=some ((k+cnts c post:Nat):Int):=by
  intro post
  induction post with
  |nil=>
   intro pre n k _ _ _ j
   obtain⟨n,rfl⟩:∃m,n=m+1:=⟨n - 1,by omega⟩
   rw [mks,List.append_nil,hN,cnts]; rfl
  |cons x post ih=>
   intro pre n k hp hb hk j
   obtain⟨n,rfl⟩:∃m,n=m+1:=⟨n - 1,by omega⟩
   rw [List.length_cons] at hb j
   rw [cnts] at hk
   rw [mks,hL n pre _ x k (hp x (List.mem_cons_self ..)) (by omega) (by omega),cnts]
   have:=ih (pre++[mk k x]) n (k+c x) (fun y hy=>hp y (List.mem_cons_of_mem _ hy)) (by rw [List.length_append]; grind) (by omega) (by omega)
   rw [List.append_assoc,List.length_append] at this
   simp only [List.cons_append,List.nil_append,List.length_cons,List.length_nil,Nat.zero_add] at this
   rw [this,Nat.add_assoc]
 exact loop l [] fuel k hP (by grind) hk (by rw [Af]; grind)
theorem GT (l:List Int) (k:Nat) (h:l.length≤Big) (hk:k+cnts one l≤KB):Eu l (k:Int)=some (((k+cnts one l:Nat):Int),mks mkI one k l):=by
 unfold Eu
 refine jU (fun n l k i=>CC n l k i) mkI one (fun _=>True) ?_ ?_ l k (fun _ _=>trivial) h hk
 ·intro n pre post x k hx hk hp
  have e:k+one x=k+1:=by rfl
  rw [e] at hk ⊢
  rw [CC,if_pos RD]
  simp (disch:=omega) only [RC,TZ,AA,wk,K1]
  rfl
 ·intro n l k; rw [CC,if_neg (by rw [RE]; decide)]
theorem Ns (l:List Int) (k:Nat) (h:l.length≤Big) (hk:k+cnts one l≤KB):F6 (mks mkI one k l) (k:Int)=some ((k+cnts one l:Nat):Int):=by
 unfold F6
 refine sS (fun n l k i=>CD n l k i) mkI one (fun _=>True) ?_ ?_ l k (fun _ _=>trivial) h hk
 ·intro n pre post x k hx hk hp
  have e:k+one x=k+1:=by rfl
  rw [e] at hk ⊢
  rw [CD,if_pos RD]
  simp (disch:=omega) only [mkI,RC,AA,wk,K1,eq_self,decide_true,Bool.not_true,Bool.false_eq_true,reduceIte]
 ·intro n l k; rw [CD,if_neg (by rw [RE]; decide)]
theorem Core.fits_ok:∀ (c:Core),Io (Core.ds c)→c.Fits:=by
 refine Core.ind fun c p h=>?_
 rw [Core.ds_eq] at h
 simp only [Io,D.ok,List.length_map] at h
 obtain⟨-,-,⟨hd,-⟩,⟨hk,q⟩,-⟩:=h
 exact⟨c,hd,hk,fun k j=>p k j (Ke q j)⟩
mutual
def Core.cnt:Core→Nat
 |⟨_,_,d,ks⟩=>1+1+Ab.cnts one d+Core.cnts ks
def Core.cnts:List Core→Nat
 | [] =>0
 |c::cs=>Core.cnt c+Core.cnts cs
end
theorem Core.cnt_eq (c:Core):c.cnt=1+1+Ab.cnts one c.data+Core.cnts c.kids:=by cases c; rw [Core.cnt]
mutual
def Core.mk1:Nat→Core→Core
 |k,⟨_,_,d,ks⟩=>⟨(k:Int),((k+1:Nat):Int),Ab.mks mkI one (k+1+1) d,Core.mks (k+1+1+Ab.cnts one d) ks⟩
def Core.mks:Nat→List Core→List Core
 |_,[] =>[]
 |k,c::cs=>Core.mk1 k c::Core.mks (k+Core.cnt c) cs
end
theorem Core.mk1_eq (k:Nat) (c:Core):Core.mk1 k c=⟨(k:Int),((k+1:Nat):Int),Ab.mks mkI one (k+1+1) c.data,Core.mks (k+1+1+Ab.cnts one c.data) c.kids⟩:=by cases c; rw [Core.mk1]
mutual
theorem Core.cnt_le:∀c:Core,c.cnt≤2+2*c.sz
 |⟨k,v,d,ks⟩=>by
  rw [Core.cnt,Core.sz]
  have:=H2 (c:=one) (b:=1) (l:=d) (fun x=>Xv)
  have:=Core.cnts_le ks
  omega
theorem Core.cnts_le:∀l:List Core,Core.cnts l≤2*Core.szs l
 | [] =>by simp [Core.cnts,Core.szs]
 |c::cs=>by
  rw [Core.cnts,Core.szs]
  have:=Core.cnt_le c
  have:=Core.cnts_le cs
  omega
end
theorem Xw:∀n:Nat,(∀ (l:List Core) (k:Nat),2*Core.szs l+2≤n→Core.szs l≤Big→k+Core.cnts l≤KB→C9 n l (k:Int)=some (((k+Core.cnts l:Nat):Int),Core.mks k l))∧
  (∀ (pre post:List Core) (k:Nat),2*Core.szs post+1≤n→pre.length+post.length≤Big→Core.szs post≤Big→k+Core.cnts post≤KB→
   Ca n (pre++post) (k:Int) (pre.length:Int)=some (((k+Core.cnts post:Nat):Int),pre++Core.mks k post)):=by
 intro n
 induction n with
 |zero=>exact⟨fun l k h=>by omega,fun pre post k h=>by omega⟩
 | succ n ih=>
  refine⟨fun l k h j hk=>?_,fun pre post k h p j hk=>?_⟩
  ·rw [C9]
   exact ih.2 [] l k (by omega) (by have:=Core.len_szs l; simp; omega) j hk
  ·cases post with
   |nil=>rw [List.append_nil,Ca,if_neg (by rw [RE]; decide),Core.cnts,Core.mks,List.append_nil]; rfl
   |cons x post=>
    rw [Core.szs] at h j
    rw [Core.cnts] at hk ⊢
    rw [List.length_cons] at p
    have e:k+(Core.cnt x+Core.cnts post)=k+1+1+Ab.cnts one x.data+Core.cnts x.kids+Core.cnts post:=by rw [Core.cnt_eq]; omega
    rw [e] at hk ⊢
    rw [Core.sz_eq] at h j
    rw [Ca,if_pos RD]
    simp (disch:=omega) only [RC,TZ,AA,wk,K1,GT,ih.1]
    have hx:Core.mk1 k x=⟨(k:Int),((k+1:Nat):Int),Ab.mks mkI one (k+1+1) x.data,Core.mks (k+1+1+Ab.cnts one x.data) x.kids⟩:=Core.mk1_eq k x
    rw [← hx]
    have:=ih.2 (pre++[Core.mk1 k x]) post (k+1+1+Ab.cnts one x.data+Core.cnts x.kids) (by omega) (by simp; omega) (by omega) (by omega)
    rw [List.append_assoc,List.append_assoc,List.length_append] at this
    simp only [List.cons_append,List.nil_append,List.length_cons,List.length_nil,Nat.zero_add] at this
    rw [this,Core.mks,show k+Core.cnt x=k+1+1+Ab.cnts one x.data+Core.cnts x.kids from by rw [Core.cnt_eq]; omega]
theorem Xx:∀n:Nat,(∀ (l:List Core) (k:Nat),2*Core.szs l+2≤n→Core.szs l≤Big→k+Core.cnts l≤KB→Dx n (Core.mks k l) (k:Int)=some ((k+Core.cnts l:Nat):Int))∧
  (∀ (pre post:List Core) (k:Nat),2*Core.szs post+1≤n→pre.length+post.length≤Big→Core.szs post≤Big→k+Core.cnts post≤KB→
   Cb n (pre++Core.mks k post) (k:Int) (pre.length:Int)=some ((k+Core.cnts post:Nat):Int)):=by
 intro n
 induction n with
 |zero=>exact⟨fun l k h=>by omega,fun pre post k h=>by omega⟩
 | succ n ih=>
  refine⟨fun l k h j hk=>?_,fun pre post k h q j hk=>?_⟩
  ·rw [Dx]
   exact ih.2 [] l k (by omega) (by have:=Core.len_szs l; simp; omega) j hk
  ·cases post with
   |nil=>rw [Core.mks,List.append_nil,Cb,if_neg (by rw [RE]; decide),Core.cnts]; rfl
   |cons x post=>
    rw [Core.szs] at h j
    rw [Core.cnts] at hk ⊢
    rw [List.length_cons] at q
    have e:k+(Core.cnt x+Core.cnts post)=k+1+1+Ab.cnts one x.data+Core.cnts x.kids+Core.cnts post:=by rw [Core.cnt_eq]; omega
    rw [e] at hk ⊢
    rw [Core.sz_eq] at h j
    rw [Core.mks,Cb,if_pos RD]
    have hx:Core.mk1 k x=⟨(k:Int),((k+1:Nat):Int),Ab.mks mkI one (k+1+1) x.data,Core.mks (k+1+1+Ab.cnts one x.data) x.kids⟩:=Core.mk1_eq k x
    have h1:(Core.mk1 k x).kind =(k:Int):=by rw [hx]
    have h2:(Core.mk1 k x).value =((k+1:Nat):Int):=by rw [hx]
    have h3:(Core.mk1 k x).data =Ab.mks mkI one (k+1+1) x.data:=by rw [hx]
    have p:(Core.mk1 k x).kids =Core.mks (k+1+1+Ab.cnts one x.data) x.kids:=by rw [hx]
    simp (disch:=omega) only [RC,AA,h1,h2,h3,p,wk,K1,mK,eq_self,decide_true,Bool.not_true,Bool.false_eq_true,reduceIte,Ns,ih.1]
    have:=ih.2 (pre++[Core.mk1 k x]) post (k+1+1+Ab.cnts one x.data+Core.cnts x.kids) (by omega) (by simp; omega) (by omega) (by omega)
    rw [List.append_assoc,List.length_append] at this
    simp only [List.cons_append,List.nil_append,List.length_cons,List.length_nil,Nat.zero_add] at this
    rw [show k+Core.cnt x=k+1+1+Ab.cnts one x.data+Core.cnts x.kids from by rw [Core.cnt_eq]; omega]
    exact this
theorem Ps (l:List Core) (k:Nat) (h:Core.szs l≤Big) (hk:k+Core.cnts l≤KB):C9 fuel l (k:Int)=some (((k+Core.cnts l:Nat):Int),Core.mks k l):=
 (Xw fuel).1 l k (by rw [Af]; unfold Big at h; omega) h hk
theorem Xy (l:List Core) (k:Nat) (h:Core.szs l≤Big) (hk:k+Core.cnts l≤KB):Dx fuel (Core.mks k l) (k:Int)=some ((k+Core.cnts l:Nat):Int):=
 (Xx fuel).1 l k (by rw [Af]; unfold Big at h; omega) h hk
def Core.mkV (k:Nat) (c:Core):Core:=⟨c.kind,c.value,Ab.mks mkI one k c.data,Core.mks (k+Ab.cnts one c.data) c.kids⟩
def Core.cntV (c:Core):Nat:=Ab.cnts one c.data+Core.cnts c.kids
theorem Core.cntV_le (c:Core):c.cntV≤2*c.sz:=by
 rw [Core.cntV,Core.sz_eq]
 have:=H2 (c:=one) (b:=1) (l:=c.data) (fun x=>Xv)
 have:=Core.cnts_le c.kids
 omega
theorem Zr (c:Core) (k:Nat) (h:c.sz≤Big) (hk:k+c.cntV≤KB):Hq c (k:Int)=some (((k+c.cntV:Nat):Int),(Core.mkV k c).data,(Core.mkV k c).kids):=by
 have h1:=Core.cntV_le c
 rw [Core.cntV] at h1
 have h2:=Core.sz_eq c
 rw [Core.cntV] at hk
 unfold Hq
 rw [GT _ _ (by omega) (by omega),AA,Ps _ _ (by omega) (by omega),AA]
 simp only [Core.mkV,Core.cntV,Nat.add_assoc]
theorem Zs (c:Core) (k:Nat) (h:c.sz≤Big) (hk:k+c.cntV≤KB):Gb (Core.mkV k c) (k:Int)=some ((k+c.cntV:Nat):Int):=by
 have h1:=Core.cntV_le c
 rw [Core.cntV] at h1
 have h2:=Core.sz_eq c
 rw [Core.cntV] at hk
 unfold Gb Core.mkV
 rw [Ns _ _ (by omega) (by omega),AA,if_neg (by rw [mK]; decide),Xy _ _ (by omega) (by omega),AA,if_neg (by rw [mK]; decide)]
 simp only [Core.cntV,Nat.add_assoc]
structure Port.Ok (x:Port):Prop where
 agent:(Lit.int IntKind.i64 x.agent).wf =true
 slot:(Lit.int IntKind.i64 x.slot).wf =true
theorem Port.ok_of (x:Port) (h:Io (Port.ds x)):x.Ok:=by
 rw [Port.ds_eq] at h
 simp only [Io,D.ok,List.length_map] at h
 obtain⟨h1,h2,-⟩:=h
 exact⟨h1,h2⟩
theorem Port.eq_iff (x y:Port):x=y↔x.agent=y.agent∧x.slot=y.slot:=by
 cases x; cases y; simp only [Port.mk.injEq]
theorem cC (l:List Port) (hl:l.length≤9223372036854775807) (h:∀x ∈ l,x.Ok) (left:Nat) (h1:left≤1048576):Kt l left=some (szr l.length left):=by
 unfold Kt
 exact dw h1 hl fun _=>cD
theorem f7 (x:Port):Ku x=some x:=by
 unfold Ku
 rfl
theorem cE (l:List Port) (hl:l.length≤Big):Kv l=some l:=by
 unfold Kv
 exact gTo (fun n acc i=>E6 n l acc i) Ku _ l (fun n acc i=>by rw [E6]) hl (fun x hx=>f7 x)
theorem Xz (x y:Port):Cj (Kw x y) (x=y):=by
 unfold Kw
 exact Cj.iff (Gv J2 fun _=>Gv J2 fun _=>Oe) (by rw [Port.eq_iff]; simp only [and_true])
theorem Vo (l m:List Port) (hl:l.length≤Big):Cj (Kx l m) (l=m):=by
 unfold Kx
 exact jV (fun n i=>E7 n l m i) Kw l m (fun n i=>by rw [E7]) hl fun x hx y _=>Xz x y
structure Agent.Ok (x:Agent):Prop where
 kind:(Lit.int IntKind.i64 x.kind).wf =true
 level:(Lit.int IntKind.i64 x.level).wf =true
 value:(Lit.int IntKind.i64 x.value).wf =true
 data:(x.data.length≤9223372036854775807∧∀e ∈ x.data,(Lit.int IntKind.i64 e).wf =true)
 ports:(x.ports.length≤9223372036854775807∧∀e ∈ x.ports,Port.Ok e)
theorem Agent.ok_of (x:Agent) (h:Io (Agent.ds x)):x.Ok:=by
 rw [Agent.ds_eq] at h
 simp only [Io,D.ok,List.length_map] at h
 obtain⟨h1,h2,h3,p,q,-⟩:=h
 exact⟨h1,h2,h3,⟨p.1,fun e j=>by have:=(Ke p.2 j); simpa only [AD,Io,D.ok,and_true] using this⟩,⟨q.1,fun e j=>Port.ok_of e (Ke q.2 j)⟩⟩
theorem Agent.eq_iff (x y:Agent):x=y↔x.kind=y.kind∧x.level=y.level∧x.value=y.value∧x.data=y.data∧x.ports=y.ports:=by
 cases x; cases y; simp only [Agent.mk.injEq]
def Agent.sz (x:Agent):Nat:=x.data.length+(x.ports.length+0)
theorem cG (x:Agent) (h:x.Ok) (left:Nat) (h1:left≤1048576):I6 x left=some (szr x.sz left):=by
 unfold I6 Agent.sz
 exact Ta (SM _ _ (by omega) h.data.1) fun _=>Ta (cC _ h.ports.1 h.ports.2 _ (by omega)) fun _=>cD
theorem Zv (l:List Agent) (hl:l.length≤9223372036854775807) (h:∀x ∈ l,x.Ok) (left:Nat) (h1:left≤1048576):Jb l left=some (szr (szl Agent.sz l) left):=by
 unfold Jb
 exact gSz (fun n p i=>EM n l p i) I6 Agent.sz l (fun n p i=>by rw [EM]) left h1 (fun x hx k hk=>cG x (h x hx) k hk) hl
theorem cH (x:Agent) (h:x.sz≤Big):I7 x=some x:=by
 unfold I7
 rw [SN _ (by have:=h; simp only [Agent.sz] at this; omega),AA]
 rw [cE _ (by have:=h; simp only [Agent.sz] at this; omega),AA]
 first|done|rfl
theorem Zw (l:List Agent) (hl:szl Agent.sz l≤Big):Jc l=some l:=by
 unfold Jc
 exact gTo (fun n acc i=>EN n l acc i) I7 _ l (fun n acc i=>by rw [EN]) (by have:=LV Agent.sz l; omega) (fun x hx=>cH x (by have:=NP (s:=Agent.sz) hx; omega))
theorem Vp (x y:Agent) (h:x.sz≤Big):Cj (I8 x y) (x=y):=by
 unfold I8
 exact Cj.iff (Gv J2 fun _=>Gv J2 fun _=>Gv J2 fun _=>HZ (Ul _ _ (by have:=h; simp only [Agent.sz] at this; omega)) fun _=>HZ (Vo _ _ (by have:=h; simp only [Agent.sz] at this; omega)) fun _=>Oe) (by rw [Agent.eq_iff]; simp only [and_true])
theorem Um (l m:List Agent) (hl:szl Agent.sz l≤Big):Cj (Jd l m) (l=m):=by
 unfold Jd
 exact jV (fun n i=>EO n l m i) I8 l m (fun n i=>by rw [EO]) (by have:=LV Agent.sz l; omega) fun x hx y _=>Vp x y (by have:=NP (s:=Agent.sz) hx; omega)
structure Net.Ok (x:Net):Prop where
 agents:(x.agents.length≤9223372036854775807∧∀e ∈ x.agents,Agent.Ok e)
theorem Net.ok_of (x:Net) (h:Io (Net.ds x)):x.Ok:=by
 rw [Net.ds_eq] at h
 simp only [Io,D.ok,List.length_map] at h
 obtain⟨h1,-⟩:=h
 exact⟨⟨h1.1,fun e j=>Agent.ok_of e (Ke h1.2 j)⟩⟩
theorem Net.eq_iff (x y:Net):x=y↔x.agents=y.agents:=by
 cases x; cases y; simp only [Net.mk.injEq]
def Net.sz (x:Net):Nat:=szl Agent.sz x.agents+0
theorem jR (x:Net) (h:x.Ok) (left:Nat) (h1:left≤1048576):Pq x left=some (szr x.sz left):=by
 unfold Pq Net.sz
 exact Ta (Zv _ h.agents.1 h.agents.2 _ (by omega)) fun _=>cD
theorem jS (x:Net) (h:x.sz≤Big):Ip x=some x:=by
 unfold Ip
 rw [Zw _ (by have:=h; simp only [Net.sz] at this; omega),AA]
 first|done|rfl
theorem Zp (x y:Net) (h:x.sz≤Big):Cj (NQ x y) (x=y):=by
 unfold NQ
 exact Cj.iff (HZ (Um _ _ (by have:=h; simp only [Net.sz] at this; omega)) fun _=>Oe) (by rw [Net.eq_iff]; simp only [and_true])
def Port.cnt (x:Port):Nat:=1+1
def Port.mk1 (k:Nat) (x:Port):Port:=⟨mkI (k) x.agent,mkI (k+1) x.slot⟩
def Port.cntV (x:Port):Nat:=0
def Port.mkV (k:Nat) (x:Port):Port:=⟨x.agent,x.slot⟩
theorem Port.cnt_le (x:Port):x.cnt≤2:=by unfold Port.cnt; omega
theorem Pt (l:List Port) (k:Nat) (h:l.length≤Big) (hk:k+cnts Port.cnt l≤KB):IR l (k:Int)=some (((k+cnts Port.cnt l:Nat):Int),mks Port.mk1 Port.cnt k l):=by
 unfold IR
 refine jU (fun n l k i=>Ch n l k i) Port.mk1 Port.cnt (fun _=>True) ?_ ?_ l k (fun _ _=>trivial) h hk
 ·intro n pre post x k hx hk hp
  have e:k+Port.cnt x=k+1+1:=by unfold Port.cnt; omega
  rw [e] at hk ⊢
  rw [Ch,if_pos RD]
  simp (maxSteps:=2000000) (disch:=omega) only [RC,TZ,AA,wk,K1,GT]
  rfl
 ·intro n l k; rw [Ch,if_neg (by rw [RE]; decide)]
def Agent.cnt (x:Agent):Nat:=1+1+1+cnts one x.data+cnts Port.cnt x.ports
def Agent.mk1 (k:Nat) (x:Agent):Agent:=⟨mkI (k) x.kind,mkI (k+1) x.level,mkI (k+1+1) x.value,mks mkI one (k+1+1+1) x.data,mks Port.mk1 Port.cnt (k+1+1+1+cnts one x.data) x.ports⟩
def Agent.cntV (x:Agent):Nat:=cnts one x.data+cnts Port.cnt x.ports
def Agent.mkV (k:Nat) (x:Agent):Agent:=⟨x.kind,x.level,x.value,mks mkI one (k) x.data,mks Port.mk1 Port.cnt (k+cnts one x.data) x.ports⟩
theorem Agent.cnt_le (x:Agent):x.cnt≤3+3*x.sz:=by
 simp only [Agent.cnt,Agent.sz]
 have:=H2 (c:=one) (b:=1) (l:=x.data) (fun x=>Xv)
 have:=H2 (c:=Port.cnt) (b:=2) (l:=x.ports) (fun x=>Port.cnt_le x)
 omega
theorem Agent.cntV_le (x:Agent):x.cntV≤3+3*x.sz:=by
 simp only [Agent.cntV,Agent.sz]
 have:=H2 (c:=one) (b:=1) (l:=x.data) (fun x=>Xv)
 have:=H2 (c:=Port.cnt) (b:=2) (l:=x.ports) (fun x=>Port.cnt_le x)
 omega
theorem Vq (l:List Agent) (k:Nat) (h:szl Agent.sz l≤Big) (hk:k+cnts Agent.cnt l≤KB):HU l (k:Int)=some (((k+cnts Agent.cnt l:Nat):Int),mks Agent.mk1 Agent.cnt k l):=by
 unfold HU
 refine jU (fun n l k i=>CI n l k i) Agent.mk1 Agent.cnt (fun x=>x.sz≤Big) ?_ ?_ l k (fun x hx=>by have:=NP (s:=Agent.sz) hx; omega) (by have:=LV Agent.sz l; omega) hk
 ·intro n pre post x k hx hk hp
  have e:k+Agent.cnt x=k+1+1+1+cnts one x.data+cnts Port.cnt x.ports:=by unfold Agent.cnt; omega
  rw [e] at hk ⊢
  simp only [Agent.sz] at hx
  rw [CI,if_pos RD]
  simp (maxSteps:=2000000) (disch:=omega) only [RC,TZ,AA,wk,K1,GT,Pt]
  rfl
 ·intro n l k; rw [CI,if_neg (by rw [RE]; decide)]
def Net.cnt (x:Net):Nat:=cnts Agent.cnt x.agents
def Net.mk1 (k:Nat) (x:Net):Net:=⟨mks Agent.mk1 Agent.cnt (k) x.agents⟩
def Net.cntV (x:Net):Nat:=cnts Agent.cnt x.agents
def Net.mkV (k:Nat) (x:Net):Net:=⟨mks Agent.mk1 Agent.cnt (k) x.agents⟩
theorem Net.cnt_le (x:Net):x.cnt≤3+3*x.sz:=by
 simp only [Net.cnt,Net.sz]
 have:=cnts_le (c:=Agent.cnt) (s:=Agent.sz) (b:=3) (l:=x.agents) (fun x=>Agent.cnt_le x)
 omega
theorem Net.cntV_le (x:Net):x.cntV≤3+3*x.sz:=by
 simp only [Net.cntV,Net.sz]
 have:=cnts_le (c:=Agent.cnt) (s:=Agent.sz) (b:=3) (l:=x.agents) (fun x=>Agent.cnt_le x)
 omega
theorem bw (x:Net) (k:Nat) (h:x.sz≤Big) (hk:k+x.cntV≤KB):Iz x (k:Int)=some (((k+x.cntV:Nat):Int),mks Agent.mk1 Agent.cnt (k) x.agents):=by
 have e:k+x.cntV=k+cnts Agent.cnt x.agents:=by unfold Net.cntV; omega
 rw [e] at hk ⊢
 simp only [Net.sz] at h
 unfold Iz
 simp (maxSteps:=2000000) (disch:=omega) only [AA,wk,GT,Pt,Vq]
def Book.sz (b:Book):Nat:=Core.szs b.defs
theorem Book.parts (b:Book) (h:Io (Book.ds b)):b.defs.length≤9223372036854775807∧∀x ∈ b.defs,x.Fits:=by
 rw [Book.ds_eq] at h
 simp only [Io,D.ok,List.length_map] at h
 obtain⟨⟨hk,j⟩,-⟩:=h
 exact⟨hk,fun x hx=>x.fits_ok (Ke j hx)⟩
theorem jQ (b:Book) (h:Io (Book.ds b)) (left:Nat) (h1:left≤1048576):Mk b left=some (szr b.sz left):=by
 obtain⟨hk,j⟩:=b.parts h
 unfold Mk Book.sz
 rw [cI b.defs hk j left fuel h1 (by rw [Af]; omega),AA,NT]
 by_cases h2:left<Core.szs b.defs
 ·rw [if_pos (by simpa using h2),LW h2]
 ·rw [if_neg (by simpa using h2)]
theorem f5 (b:Book) (h:b.sz≤Big):G2 b=some b:=by
 unfold G2
 rw [f8 b.defs h,AA]
theorem Zo (b:Book) (h:b.sz≤Big):Kg b b=some true:=by
 unfold Kg
 rw [f9 b.defs h,AA,if_neg (by simp)]
def Book.cntV (b:Book):Nat:=Core.cnts b.defs
def Book.mkV (k:Nat) (b:Book):Book:=⟨Core.mks k b.defs⟩
theorem Book.cntV_le (b:Book):b.cntV≤2*b.sz:=Core.cnts_le b.defs
theorem Zq (b:Book) (k:Nat) (h:b.sz≤Big) (hk:k+b.cntV≤KB):Hp b (k:Int)=some (((k+b.cntV:Nat):Int),(Book.mkV k b).defs):=by
 unfold Hp
 rw [Ps _ _ h hk,AA]
 rfl
end Go.Proofs.YtjnifengdhcojaaGreatDoor.Ab
