/-
  Programs that are in order; free names: both sides. No program is in sight.
-/
import Derived.Test.YtaedfiifhjlmlaaGreatPlR
namespace Go.Proofs.YtaedfiifhjlmlaaGreat.Ab
set_option linter.unusedVariables false
set_option linter.unusedSimpArgs false
open Go.RowKit
noncomputable def Ly (pre:List Def) (d:Def):Bool:=lowB d.name&& !(pre.any fun x=>sameStr x.name d.name)&&vtB d.typ&&tmB d.body
noncomputable def K7 (p:TProgram):Bool:=HD p.datas&&decide (1≤p.defs.length)&&decide (p.defs.length≤8)&&allp Ly [] p.defs
theorem dT {α:Type} {p:α→Bool} {x:α} {l pre post:List α} (h:l=pre++x::post) (hx:p x=true):decide (idx p l<(pre.length:Int))=pre.any p:=by
 rw [h,Sd p x post hx]
 have hg:=J2 p pre
 by_cases ha:pre.any p=true
 ·rw [if_pos ha,ha]; simp; omega
 ·rw [if_neg ha]; simp only [Bool.not_eq_true] at ha; rw [ha]; simp
theorem Se (p:TProgram) (hz:p.sz≤Big):GJ p=some (K7 p):=by
 unfold TProgram.sz at hz
 have hB:=bgE
 have hlen:=AZ Def.sz p.defs
 unfold GJ EX K7
 rw [bF p.datas (by omega),AA,ZR,AA]
 have e1:decide ((1:Int)≤(p.defs.length:Int))=decide (1≤p.defs.length):=decide_eq_decide.2 ⟨fun h=>by omega,fun h=>by omega⟩
 have e2:decide ((p.defs.length:Int)≤8)=decide (p.defs.length≤8):=decide_eq_decide.2 ⟨fun h=>by omega,fun h=>by omega⟩
 rw [e1,e2]
 have:=Cr (L:=fun n (_:Unit) i=>BE n p i) p.defs 2 1 (fun _=>()) Ly (some false) (some true) (fun N R pre d post hh hp hN hR m hm=>by
   obtain⟨m,rfl⟩:∃k,m=k+2:=⟨m - 2,by omega⟩
   have hds:=Ah (s:=Def.sz) (BZ hh)
   have hd:d.sz=d.name.size+(d.typ.sz+(d.body.sz+0)):=rfl
   show BE (m+2) p _=_
   have hfi:decide (fIdx p.defs d.name=(pre.length:Int))= !(pre.any fun x=>sameStr x.name d.name):=R6 hh (BY _)
   rw [BE,if_pos (Ai hh),AW hh,AA,J3,AA,Iw p.defs _ (by omega),AA,IG d.typ (by omega),AA,UB d.body (by omega),AA,hfi]
   simp only [CU]
   rw [AP hh (by omega),Ly]
   rw [Ly] at hR
   have hR:=fun h=>hR h m (by omega)
   rcases btf (lowB d.name) with a1|a1 <;> rcases btf (pre.any fun x=>sameStr x.name d.name) with a2|a2 <;> rcases btf (vtB d.typ) with a3|a3 <;> rcases btf (tmB d.body) with a4|a4 <;> simp only [a1,a2,a3,a4,Bool.not_true,Bool.not_false,Bool.true_and,Bool.and_true,Bool.false_and,Bool.and_false,Bool.false_eq_true,if_true,if_false,forall_const] at hR ⊢
   exact hR) (fun _ m hm=>by
   obtain⟨m,rfl⟩:∃k,m=k+1:=⟨m - 1,by omega⟩
   show BE (m+1) p _=_
   rw [BE]; simp) fuel (CY (by omega))
 have h0:BE fuel p 0=_:=this
 rw [h0]
 rcases btf (HD p.datas) with a1|a1 <;> rcases btf (decide (1≤p.defs.length)) with a2|a2 <;> rcases btf (decide (p.defs.length≤8)) with a3|a3 <;> rcases btf (allp Ly [] p.defs) with a4|a4 <;> simp only [a1,a2,a3,a4,Bool.not_true,Bool.not_false,Bool.true_and,Bool.and_true,Bool.false_and,Bool.and_false,Bool.false_eq_true,if_true,if_false]
theorem Sf (p:TProgram) (hz:p.sz≤Big):E6 p=some (K7 p):=by
 unfold TProgram.sz at hz
 have hB:=bgE
 have hlen:=AZ Def.sz p.defs
 unfold E6 Co K7
 rw [bG p.datas (by omega),AA]
 have e1:decide ((p.defs.length:Int)<1)= !decide (1≤p.defs.length):=by rw [← decide_not]; exact decide_eq_decide.2 ⟨fun h=>by omega,fun h=>by omega⟩
 have e2:decide ((8:Int)<(p.defs.length:Int))= !decide (p.defs.length≤8):=by rw [← decide_not]; exact decide_eq_decide.2 ⟨fun h=>by omega,fun h=>by omega⟩
 rw [e1,e2]
 have:=Cr (L:=fun n (_:Unit) i=>A2 n p i) p.defs 2 1 (fun _=>()) Ly (some false) (some true) (fun N R pre d post hh hp hN hR m hm=>by
   obtain⟨m,rfl⟩:∃k,m=k+2:=⟨m - 2,by omega⟩
   have hds:=Ah (s:=Def.sz) (BZ hh)
   have hd:d.sz=d.name.size+(d.typ.sz+(d.body.sz+0)):=rfl
   show A2 (m+2) p _=_
   have hfi:decide (fIdx p.defs d.name<(pre.length:Int))=pre.any fun x=>sameStr x.name d.name:=dT hh (BY _)
   rw [A2,if_pos (Ai hh),AW hh,AA,J4,AA,J0 p _ (by omega),AA,II d.typ (by omega),AA,UC d.body (by omega),AA,hfi]
   simp only [Bx]
   rw [AP hh (by omega),Ly]
   rw [Ly] at hR
   have hR:=fun h=>hR h m (by omega)
   rcases btf (lowB d.name) with a1|a1 <;> rcases btf (pre.any fun x=>sameStr x.name d.name) with a2|a2 <;> rcases btf (vtB d.typ) with a3|a3 <;> rcases btf (tmB d.body) with a4|a4 <;> simp only [a1,a2,a3,a4,Bool.not_true,Bool.not_false,Bool.true_and,Bool.and_true,Bool.false_and,Bool.and_false,Bool.false_eq_true,if_true,if_false,forall_const] at hR ⊢
   exact hR) (fun _ m hm=>by
   obtain⟨m,rfl⟩:∃k,m=k+1:=⟨m - 1,by omega⟩
   show A2 (m+1) p _=_
   rw [A2]; simp) fuel (CY (by omega))
 have h0:A2 fuel p 0=_:=this
 rw [h0]
 rcases btf (HD p.datas) with a1|a1 <;> rcases btf (decide (1≤p.defs.length)) with a2|a2 <;> rcases btf (decide (p.defs.length≤8)) with a3|a3 <;> rcases btf (allp Ly [] p.defs) with a4|a4 <;> simp only [a1,a2,a3,a4,Bool.not_true,Bool.not_false,Bool.true_and,Bool.and_true,Bool.false_and,Bool.and_false,Bool.false_eq_true,if_true,if_false]
def CX (t:Term) (i:Nat):List ByteArray:=if t.kind=4 then [t.name] else if t.kind=7 then (if i=1 then [t.name] else []) else if t.kind=10 then t.names else []
def hasS (l:List ByteArray) (s:ByteArray):Bool:=l.any fun k=>sameStr k s
def addV (t:Term) (b a:List ByteArray):List ByteArray:=if (decide (t.kind=1)&& !hasS b t.name&& !hasS a t.name)=true then a++[t.name] else a
mutual
def Term.fr:Term→List ByteArray→List ByteArray→List ByteArray
 |⟨k,num,nm,ty,nms,ks⟩,b,a=>Term.frs ⟨k,num,nm,ty,nms,[]⟩ 0 ks b (addV ⟨k,num,nm,ty,nms,[]⟩ b a)
def Term.frs:Term→Nat→List Term→List ByteArray→List ByteArray→List ByteArray
 |_,_,[],_,a=>a
 |t,i,x::l,b,a=>Term.frs t (i+1) l b (Term.fr x (b++CX t i) a)
end
theorem Term.frs_same {t u:Term} (h:∀i,CX t i=CX u i):∀ (l:List Term) (i:Nat) (b a:List ByteArray),Term.frs t i l b a=Term.frs u i l b a
 | [],_,_,_=>by rw [Term.frs,Term.frs]
 |x::l,i,b,a=>by rw [Term.frs,Term.frs,h i,Term.frs_same h l]
theorem Term.fr_eq (t:Term) (b a:List ByteArray):t.fr b a=Term.frs t 0 t.kids b (addV t b a):=by
 obtain⟨k,num,nm,ty,nms,ks⟩:=t
 rw [Term.fr]
 exact Term.frs_same (t:=⟨k,num,nm,ty,nms,[]⟩) (u:=⟨k,num,nm,ty,nms,ks⟩) (fun i=>rfl) ks 0 b (addV ⟨k,num,nm,ty,nms,ks⟩ b a)
theorem Term.frs_app (t:Term) (x:Term) (b:List ByteArray):∀ (l:List Term) (i:Nat) (a:List ByteArray),Term.frs t i (l++[x]) b a=x.fr (b++CX t (i+l.length)) (Term.frs t i l b a)
 | [],i,a=>by simp [Term.frs]
 |y::l,i,a=>by
  simp only [List.cons_append,Term.frs,List.length_cons]
  rw [Term.frs_app t x b l]
  congr 3; omega
theorem UD (t:Term) (b a:List ByteArray):(addV t b a).length ≤a.length+1:=by
 unfold addV; split <;> simp
theorem Term.frs_len (t:Term) (b:List ByteArray):∀ (l:List Term) (i:Nat) (a:List ByteArray),(∀x ∈ l,∀b a,(x.fr b a).length ≤a.length+x.cnt)→(Term.frs t i l b a).length +1≤a.length+Term.cnts l
 | [],i,a,_=>by simp [Term.frs,Term.cnts]
 |x::l,i,a,h=>by
  have h1:=h x (by simp) (b++CX t i) a
  have h2:=Term.frs_len t b l (i+1) (x.fr (b++CX t i) a) fun y hy=>h y (by simp [hy])
  simp only [Term.frs,Term.cnts]; omega
theorem Term.fr_len:∀t:Term,∀b a,(t.fr b a).length ≤a.length+t.cnt:=by
 refine Term.ind fun t ih b a=>?_
 rw [Term.fr_eq,Term.cnt_eq]
 have h1:=Term.frs_len t b t.kids 0 (addV t b a) ih
 have h2:=UD t b a
 omega
theorem QY {t x:Term} (hx:x ∈ t.kids) (i:Nat):(CX t i).length +x.sz≤t.sz:=by
 have hsz:=t.sz_eq
 have h:=Fr (s:=Term.sz) hx
 unfold CX
 split
 ·simp; omega
 ·split
  ·split <;> simp <;> omega
  ·split
   ·omega
   ·simp; omega
theorem QZ (t:Term) (i:Nat):IB t (i:Int)=some (CX t i):=by
 unfold IB Ee CX
 have e1:decide ((i:Int)=1)=decide (i=1):=decide_eq_decide.2 ⟨fun h=>by omega,fun h=>by omega⟩
 rw [e1]
 by_cases h4:t.kind=4
 ·simp [h4]
 ·by_cases h7:t.kind=7
  ·by_cases hi:i=1 <;> simp [h7,hi]
  ·by_cases h10:t.kind=10 <;> simp [h4,h7,h10]
theorem Vh (t:Term) (i:Nat):GN t (i:Int)=some (CX t i):=QZ t i
theorem bu (l:List ByteArray) (s:ByteArray) (hl:l.length≤Big):∃v,HX l s=some v∧decide (v<0)= !hasS l s∧decide (0≤v)=hasS l s:=by
 refine⟨_,Sc l s hl,?_,JV _ l⟩
 have:=JV (fun k=>sameStr k s) l
 rw [hasS,← this,← decide_not]; exact decide_eq_decide.2 ⟨fun h=>by omega,fun h=>by omega⟩
theorem bv (l:List ByteArray) (s:ByteArray) (hl:l.length≤Big):BM l s=some (hasS l s):=by
 rw [IJ l s hl,hasS]; congr 2; funext k; exact Hc s k
theorem Xo:∀t:Term,t.sz≤Big→∀ (n:Nat) (b a:List ByteArray),b.length+t.sz≤Big→a.length+t.cnt≤Big→16*t.sz+16≤n→F6 n t b a=some (t.fr b a):=by
 refine Term.ind fun t ih hz n b a hb ha hn=>?_
 obtain⟨n,rfl⟩:∃m,n=m+3:=⟨n - 3,by omega⟩
 have hsz:=t.sz_eq
 have hlen:=AZ Term.sz t.kids
 have hB:=bgE
 have hl:t.kids.length≤Big:=by omega
 have h1c:1≤t.cnt:=by rw [Term.cnt_eq]; exact(Term.one_le _).2
 obtain⟨v1,hv1,hv2,_⟩:=bu b t.name (by omega)
 obtain⟨u1,hu1,hu2,_⟩:=bu a t.name (by omega)
 have hloop:B6 n t b (addV t b a) 0=some (t.fr b a):=by
  have hal:=UD t b a
  have:=Cr (L:=fun n (s:List ByteArray) i=>B6 n t b s i) t.kids 1 (16*szl Term.sz t.kids+8 - 6*t.kids.length) (fun pre=>Term.frs t 0 pre b (addV t b a)) (fun _ _=>true) none (some (Term.frs t 0 t.kids b (addV t b a))) (fun N R pre x post hh hp hN hR m hm=>by
    obtain⟨m,rfl⟩:∃k,m=k+1:=⟨m - 1,by omega⟩
    have hx:=BZ hh
    have hm2:=Ah (s:=Term.sz) hx
    have hp1:1≤t.kids.length:=List.length_pos_of_mem hx
    have hbl:=QY hx pre.length
    have hfl:=Term.frs_len t b pre 0 (addV t b a) fun y _=>y.fr_len
    have hcp:=Term.cnts_pre' post x pre
    rw [← hh,← Term.cnt_eq] at hcp
    show B6 (m+1) t b _ _=_
    rw [B6,if_pos (Ai hh),AW hh,AA,QZ,AA,Lb,EW (by simp; omega),AA,EW (by simp; omega),AA,AA,List.nil_append,ih x hx (by omega) m _ _ (by simp; omega) (by omega) (by omega),AA,AP hh hl,if_pos rfl]
    have:=hR rfl m (by omega)
    rw [Term.frs_app,Nat.zero_add] at this
    exact this) (fun _ m hm=>by
    obtain⟨m,rfl⟩:∃k,m=k+1:=⟨m - 1,by omega⟩
    show B6 (m+1) t b _ _=_
    rw [B6,if_neg (by simp)]) n (by omega)
  have h0:B6 n t b (addV t b a) 0=_:=this
  rw [h0,GU (fun _=>true),if_pos (by simp),Term.fr_eq]
 rw [F6,hv1,AA,hu1,AA,hv2,hu2]
 simp only [EL,FP]
 rw [EW (by simp; omega),AA]
 unfold addV at hloop
 by_cases h1:t.kind=1
 ·rcases btf (hasS b t.name) with e1|e1 <;> rcases btf (hasS a t.name) with e2|e2 <;> simp only [h1,e1,e2,decide_true,Bool.not_true,Bool.not_false,Bool.true_and,Bool.and_true,Bool.false_and,Bool.and_false,Bool.false_eq_true,if_true,if_false] at hloop ⊢ <;> exact hloop
 ·simp only [h1,decide_false,Bool.false_and,Bool.false_eq_true,if_false] at hloop ⊢
  exact hloop
theorem Ft {t x:Term} (h:t.okS=true) (hx:x ∈ t.kids):x.okS=true:=by
 rw [Term.okS_eq,Bool.and_eq_true] at h
 exact List.all_eq_true.1 h.2 x hx
theorem Li {t:Term} (h:t.okS=true):J5 t=true∧fldB t=true∧allp (Ej t.kind) [] t.kids=true:=by
 rw [Term.okS_eq,bH,Bool.and_eq_true,Bool.and_eq_true,Bool.and_eq_true] at h
 exact⟨h.1.1.1,h.1.1.2,h.1.2⟩
theorem Hb {t:Term} (h:t.okS=true):kLo t.kind≤(t.kids.length:Int)∧(t.kids.length:Int)≤kHi t.kind:=by
 have:=(Li h).1
 unfold J5 at this; simpa using this
theorem ZS {t:Term} (h:t.okS=true):1≤t.kind∧t.kind≤11:=by
 have h1:=Hb h
 rcases kind_cases t.kind with h|h|h|h|h|h|h|h|h|h|h|⟨a1,a2,a3,a4,a5,a6,a7,a8,a9,a10,a11⟩
 all_goals first|omega|skip
 unfold kHi at h1
 simp [a1,a2,a3,a4,a5,a6,a7,a8,a9,a10,a11] at h1
 omega
theorem UE (b v:List ByteArray) (h:b.length+v.length≤Big):D2 [b,v] =some (b++v):=by
 have hB:=bgE
 unfold D2
 obtain⟨m,hm⟩:∃m,fuel=m+3:=⟨fuel - 3,by rw [BL]⟩
 have h3:BC fuel [b,v] [] 0=some (b++v):=by
  rw [hm,BC,if_pos (by simp),show at? [b,v] 0=some b from rfl,AA,EW (by simp; omega),AA,List.nil_append,w64 (by decide) (by decide),BC,if_pos (by simp),show at? [b,v] (0+1)=some v from rfl,AA,EW (by omega),AA,w64 (by decide) (by decide),BC,if_neg (by simp)]
 rw [hm] at h3 ⊢
 rw [BU,if_pos (by simp),show at? [b,v] 0=some b from rfl,AA,w64 (by omega) (by omega),if_neg (by first|(simp; done)|(simp; omega)),w64 (by decide) (by decide),BU,if_pos (by simp),show at? [b,v] (0+1)=some v from rfl,AA,w64 (by omega) (by omega),if_neg (by first|(simp; done)|(simp; omega)),w64 (by decide) (by decide),BU,if_neg (by simp)]
 have hg:Ew [] (0+(b.length:Int)+(v.length:Int))=some [] :=by
  unfold Ew; rw [if_pos ⟨rfl,by omega,by omega⟩]
 rw [hg,AA,hm,h3]
theorem Xp:∀t:Term,t.sz≤Big→t.okS=true→∀ (n:Nat) (b a:List ByteArray),b.length+t.sz≤Big→a.length+t.cnt≤Big→16*t.sz+16≤n→F9 n t b a=some (t.fr b a):=by
 refine Term.ind fun t ih hz ho n b a hb ha hn=>?_
 obtain⟨n,rfl⟩:∃m,n=m+2:=⟨n - 2,by omega⟩
 have hsz:=t.sz_eq
 have hlen:=AZ Term.sz t.kids
 have hB:=bgE
 have hl:t.kids.length≤Big:=by omega
 have h1c:1≤t.cnt:=by rw [Term.cnt_eq]; exact(Term.one_le _).2
 have hloop:addV t b a=a→B7 n t b a 0=some (t.fr b a):=fun hadd=>by
  have:=Cr (L:=fun n (s:List ByteArray) i=>B7 n t b s i) t.kids 1 (16*szl Term.sz t.kids+8 - 6*t.kids.length) (fun pre=>Term.frs t 0 pre b a) (fun _ _=>true) none (some (Term.frs t 0 t.kids b a)) (fun N R pre x post hh hp hN hR m hm=>by
    obtain⟨m,rfl⟩:∃k,m=k+1:=⟨m - 1,by omega⟩
    have hx:=BZ hh
    have hm2:=Ah (s:=Term.sz) hx
    have hp1:1≤t.kids.length:=List.length_pos_of_mem hx
    have hbl:=QY hx pre.length
    have hfl:=Term.frs_len t b pre 0 a fun y _=>y.fr_len
    have hcp:=Term.cnts_pre' post x pre
    rw [← hh,← Term.cnt_eq] at hcp
    show B7 (m+1) t b _ _=_
    rw [B7,if_pos (Ai hh),AW hh,AA,Vh,AA,UE _ _ (by omega),AA,ih x hx (by omega) (Ft ho hx) m _ _ (by simp; omega) (by omega) (by omega),AA,AP hh hl,if_pos rfl]
    have:=hR rfl m (by omega)
    rw [Term.frs_app,Nat.zero_add] at this
    exact this) (fun _ m hm=>by
    obtain⟨m,rfl⟩:∃k,m=k+1:=⟨m - 1,by omega⟩
    show B7 (m+1) t b _ _=_
    rw [B7,if_neg (by simp)]) n (by omega)
  have h0:B7 n t b a 0=_:=this
  rw [h0,GU (fun _=>true),if_pos (by simp),Term.fr_eq,hadd]
 rw [F9,bv b t.name (by omega),AA,bv a t.name (by omega),AA]
 simp only [EM]
 rw [EW (by simp; omega),AA]
 by_cases h1:t.kind=1
 ·have hk:t.kids=[] :=by
   have:=Hb ho
   rw [h1] at this
   exact List.eq_nil_of_length_eq_zero (by have h2:(t.kids.length:Int)≤0:=this.2; omega)
  have hfr:t.fr b a=addV t b a:=by rw [Term.fr_eq,hk,Term.frs]
  unfold addV at hloop hfr
  rcases btf (hasS b t.name) with e1|e1 <;> rcases btf (hasS a t.name) with e2|e2 <;> simp only [h1,e1,e2,decide_true,Bool.not_true,Bool.not_false,Bool.true_and,Bool.and_true,Bool.false_and,Bool.and_false,Bool.false_eq_true,if_true,if_false,forall_const] at hloop hfr ⊢
  ·exact hloop
  ·exact hloop
  ·exact hloop
  ·rw [hfr]
 ·have:addV t b a=a:=by unfold addV; simp [h1]
  simp only [h1,decide_false,Bool.false_eq_true,if_false]
  exact hloop this
def GT (s:ByteArray):Nat→List Data→Option (Nat × Nat)
 |_,[] =>none
 |i,d::l=>if (d.cons.any fun c=>sameStr c.name s)=true then some (i,(idx (fun c=>sameStr c.name s) d.cons).toNat) else GT s (i+1) l
def cRes (bad:Int × Int):Option (Nat × Nat)→Int × Int
 |some (i,j)=>((i:Int),(j:Int))
 |none=>bad
theorem UF (l:List Data) (hl:szl Data.sz l≤Big) (s:ByteArray) (bad:Int × Int) (L3:Nat→Int→Option (Int × Int)) (L4:Nat→Int→Data→Int→Option (Int × Int))
  (h3:∀n pre d post,l=pre++d::post→L3 (n+1) (pre.length:Int)=L4 n (pre.length:Int) d 0) (h3e:∀n,L3 (n+1) (l.length:Int)=some bad)
  (h4:∀n pre d post pc c qc,l=pre++d::post→d.cons=pc++c::qc→L4 (n+1) (pre.length:Int) d (pc.length:Int)=if sameStr c.name s=true then some ((pre.length:Int),(pc.length:Int)) else L4 n (pre.length:Int) d ((List.length (pc++[c]):Nat):Int))
  (h4e:∀n pre d post,l=pre++d::post→L4 (n+1) (pre.length:Int) d (d.cons.length:Int)=L3 n ((List.length (pre++[d]):Nat):Int)):
  L3 fuel 0=some (cRes bad (GT s 0 l)):=by
 have hB:=bgE
 have inner:∀ (pre:List Data) (d:Data) (post:List Data),l=pre++d::post→∀ (R:Option (Int × Int)) (N:Nat),(∀m,N≤m→L3 m ((List.length (pre++[d]):Nat):Int)=R)→
   ∀ (qc pc:List Constructor) (m:Nat),d.cons=pc++qc→N+qc.length+1≤m→L4 m (pre.length:Int) d (pc.length:Int)=if (qc.any fun c=>sameStr c.name s)=true then some ((pre.length:Int),(pc.length:Int)+idx (fun c=>sameStr c.name s) qc) else R:=by
  intro pre d post hh R N hR qc
  induction qc with
  |nil=>
   intro pc m h hm
   obtain⟨m,rfl⟩:∃k,m=k+1:=⟨m - 1,by omega⟩
   rw [List.append_nil] at h
   rw [← h,h4e m pre d post hh,hR m (by simp at hm; omega)]; simp
  | cons c qc ih=>
   intro pc m h hm
   obtain⟨m,rfl⟩:∃k,m=k+1:=⟨m - 1,by omega⟩
   rw [h4 m pre d post pc c qc hh h,List.any_cons,idx]
   by_cases hc:sameStr c.name s=true
   ·simp [hc]
   ·rw [if_neg hc,if_neg hc,ih (pc++[c]) m (by rw [h]; simp) (by simp at hm; omega)]
    simp only [Bool.not_eq_true] at hc
    rw [hc,Bool.false_or]
    by_cases ha:(qc.any fun c=>sameStr c.name s)=true
    ·have hg:=J2 (fun c:Constructor=>sameStr c.name s) qc
     have:idx (fun c:Constructor=>sameStr c.name s) qc≠ -1:=fun h'=>by rw [hg.2.2.1 h'] at ha; cases ha
     rw [if_pos ha,if_pos ha,if_neg this]; simp; omega
    ·rw [if_neg ha,if_neg ha]
 have outer:∀ (post pre:List Data) (m:Nat),l=pre++post→3*szl Data.sz post+1≤m→L3 m (pre.length:Int)=some (cRes bad (GT s pre.length post)):=by
  intro post
  induction post with
  |nil=>
   intro pre m h hm
   obtain⟨m,rfl⟩:∃k,m=k+1:=⟨m - 1,by omega⟩
   rw [List.append_nil] at h
   rw [← h,h3e]; rfl
  | cons d post ih=>
   intro pre m h hm
   obtain⟨m,rfl⟩:∃k,m=k+1:=⟨m - 1,by omega⟩
   have hd:d.cons.length≤d.sz:=by have:=AZ Constructor.sz d.cons; unfold Data.sz; omega
   simp only [szl] at hm
   rw [h3 m pre d post h]
   have:=inner pre d post h _ (3*szl Data.sz post+1) (fun m hm=>ih (pre++[d]) m (by rw [h]; simp) hm) d.cons [] m rfl (by omega)
   simp only [List.length_nil] at this
   refine Eq.trans this ?_
   rw [GT]
   by_cases ha:(d.cons.any fun c=>sameStr c.name s)=true
   ·have hg:=J2 (fun c:Constructor=>sameStr c.name s) d.cons
    have h2:idx (fun c:Constructor=>sameStr c.name s) d.cons≠ -1:=fun h'=>by rw [hg.2.2.1 h'] at ha; cases ha
    rw [if_pos ha,if_pos ha,cRes]
    congr 2
    simp; omega
   ·rw [if_neg ha,if_neg ha]; simp
 exact outer l [] fuel rfl (CY (by omega))
theorem JY (l:List Data) (hl:szl Data.sz l≤Big) (s:ByteArray):BP l s=some (cRes (-1,-1) (GT s 0 l)):=by
 unfold BP
 have hlen:=AZ Data.sz l
 have hB:=bgE
 refine UF l hl s (-1,-1) (fun n i=>Ay n l s i) (fun n i _ j=>A3 n l s i j) (fun n pre d post hh=>?_) (fun n=>?_) (fun n pre d post pc c qc hh hc=>?_) (fun n pre d post hh=>?_)
 ·show Ay (n+1) l s _=_
  rw [Ay,if_pos (Ai hh)]
 ·show Ay (n+1) l s _=_
  rw [Ay,if_neg (by simp)]
 ·have hds:=Ah (s:=Data.sz) (BZ hh)
  have hd:d.cons.length≤d.sz:=by have:=AZ Constructor.sz d.cons; unfold Data.sz; omega
  show A3 (n+1) l s _ _=_
  rw [A3,AW hh,AA,if_pos (Ai hc),AA,AW hc,AA,AP hc (by omega)]
 ·show A3 (n+1) l s _ _=_
  rw [A3,AW hh,AA,if_neg (by simp),AP hh (by omega)]
theorem K6 (l:List Data) (hl:szl Data.sz l≤Big) (s:ByteArray):BW l s=some (cRes (-1,0) (GT s 0 l)):=by
 unfold BW
 have hlen:=AZ Data.sz l
 have hB:=bgE
 refine UF l hl s (-1,0) (fun n i=>Ap n l s i) (fun n i d j=>A0 n l s i d j) (fun n pre d post hh=>?_) (fun n=>?_) (fun n pre d post pc c qc hh hc=>?_) (fun n pre d post hh=>?_)
 ·show Ap (n+1) l s _=_
  rw [Ap,if_pos (Ai hh),AW hh,AA]
 ·show Ap (n+1) l s _=_
  rw [Ap,if_neg (by simp)]
 ·have hds:=Ah (s:=Data.sz) (BZ hh)
  have hd:d.cons.length≤d.sz:=by have:=AZ Constructor.sz d.cons; unfold Data.sz; omega
  show A0 (n+1) l s _ _ _=_
  rw [A0,if_pos (Ai hc),AW hc,AA,AP hc (by omega)]
 ·show A0 (n+1) l s _ _ _=_
  rw [A0,if_neg (by simp),AP hh (by omega)]
def cHas (l:List Data) (s:ByteArray):Bool:=(GT s 0 l).isSome
theorem R7 (s:ByteArray):∀ (l:List Data) (i0 i j:Nat),GT s i0 l=some (i,j)→∃k d c,i=i0+k∧l[k]? =some d∧d.cons[j]? =some c∧sameStr c.name s=true
 | [],_,_,_,h=>by simp [GT] at h
 | d::l,i0,i,j,h=>by
  rw [GT] at h
  split at h
  ·rename_i ha
   simp only [Option.some.injEq,Prod.mk.injEq] at h
   obtain⟨rfl,rfl⟩:=h
   obtain⟨c,hc1,hc2,_⟩:=Wh ha
   refine⟨0,d,c,by omega,by simp,?_,hc2⟩
   unfold at? at hc1
   split at hc1
   ·exact hc1
   ·cases hc1
  ·obtain⟨k,d',c,h1,h2,h3,h4⟩:=R7 s l (i0+1) i j h
   exact⟨k+1,d',c,by omega,by simpa using h2,h3,h4⟩
theorem ZN {l:List Data} {s:ByteArray} (h:cHas l s=true):∃ (i j:Nat) (d:Data) (c:Constructor),GT s 0 l=some (i,j)∧at? l (i:Int)=some d∧at? d.cons (j:Int)=some c∧d ∈ l∧c ∈ d.cons∧sameStr c.name s=true:=by
 unfold cHas at h
 cases hf:GT s 0 l with
 |none=>rw [hf] at h; cases h
 |some ij=>
  obtain⟨i,j⟩:=ij
  obtain⟨k,d,c,h1,h2,h3,h4⟩:=R7 s l 0 i j hf
  rw [Nat.zero_add] at h1
  subst h1
  exact⟨i,j,d,c,rfl,by simp [at?,h2],by simp [at?,h3],List.mem_of_getElem? h2,List.mem_of_getElem? h3,h4⟩
theorem UG (l:List Data) (s:ByteArray) (b:Int):decide ((cRes (-1,b) (GT s 0 l)).1 <0)= !cHas l s:=by
 unfold cHas
 cases hf:GT s 0 l with
 |none=>rfl
 |some ij=>
  obtain⟨i,j⟩:=ij
  show decide ((i:Int)<0)=false
  exact decide_eq_false (by omega)
mutual
def Term.allT (f:Term→Bool):Term→Bool
 |⟨k,num,nm,ty,nms,ks⟩=>f ⟨k,num,nm,ty,nms,ks⟩&&Term.allTs f ks
def Term.allTs (f:Term→Bool):List Term→Bool
 | [] =>true
 |x::l=>Term.allT f x&&Term.allTs f l
end
theorem Term.allTs_eq (f:Term→Bool):∀l:List Term,Term.allTs f l=l.all (Term.allT f)
 | [] =>by rw [Term.allTs]; rfl
 |x::l=>by rw [Term.allTs,List.all_cons,Term.allTs_eq f l]
theorem Term.allT_eq (f:Term→Bool) (t:Term):t.allT f=(f t&&t.kids.all (Term.allT f)):=by cases t; rw [Term.allT,Term.allTs_eq]
theorem B5 {f:Term→Bool} {t x:Term} (h:t.allT f=true) (hx:x ∈ t.kids):x.allT f=true:=by
 rw [Term.allT_eq,Bool.and_eq_true] at h
 exact List.all_eq_true.1 h.2 x hx
theorem J1 {f:Term→Bool} {t:Term} (h:t.allT f=true):f t=true:=by
 rw [Term.allT_eq,Bool.and_eq_true] at h; exact h.1
def nfL (l:List Data) (t:Term):Bool:= !(decide (t.kind=4)&& !t.typ.knB (dHas l))&& !((decide (t.kind=8)||decide (t.kind=10))&& !cHas l t.name)
theorem Wi {t:Term} (h:t.okS=true) (h4:t.kind=4):vtB t.typ=true:=by
 have:=(Li h).2.1
 unfold fldB at this
 simp only [h4,if_pos,Bool.and_eq_true] at this
 exact this.1.1.2
theorem Q9 (l:List Data) (hl:szl Data.sz l≤Big):∀t:Term,t.sz≤Big→∀n,16*t.sz+16≤n→C9 n l t=some (t.allT (nfL l)):=by
 refine Term.ind fun t ih hz n hn=>?_
 obtain⟨n,rfl⟩:∃m,n=m+4:=⟨n - 4,by omega⟩
 have hsz:=t.sz_eq
 have hlen:=AZ Term.sz t.kids
 have hdl:=AZ Data.sz l
 have hB:=bgE
 have hl':t.kids.length≤Big:=by omega
 have hloop:BF n l t 0=some (t.kids.all (Term.allT (nfL l))):=by
  refine IK (L:=fun n i=>BF n l t i) t.kids 1 (16*szl Term.sz t.kids+8 - 6*t.kids.length) _ n (fun m pre x post hh hm=>?_) (fun m hm=>?_) (by omega)
  ·have hx:=BZ hh
   have hm2:=Ah (s:=Term.sz) hx
   have hp1:1≤t.kids.length:=List.length_pos_of_mem hx
   show BF (m+1) l t _=_
   rw [BF,if_pos (Ai hh),AW hh,AA,ih x hx (by omega) m (by omega),AA,AP hh hl']
   rcases btf (x.allT (nfL l)) with h|h <;> simp [h]
  ·show BF (m+1) l t _=_
   rw [BF]; simp
 rw [C9,Mb l (by omega) t.typ (by omega) fuel (D8 (by omega)),AA]
 simp only [DD,DE,DF]
 rw [JY l hl,AA,UG,hloop,Term.allT_eq,nfL]
 rcases btf (t.typ.knB (dHas l)) with e1|e1 <;> rcases btf (cHas l t.name) with e2|e2 <;> rcases (by omega:t.kind=4∨t.kind=8∨t.kind=10∨(t.kind≠4∧t.kind≠8∧t.kind≠10)) with h|h|h|⟨h1,h2,h3⟩ <;> simp [*]
theorem UH (f:Term→Option Bool) (p:Term→Bool) (Q:Term→Prop) (hQ:∀t,Q t→∀x ∈ t.kids,Q x) (hf:∀t,Q t→t.sz≤Big→f t=some (p t)):
  ∀t:Term,t.sz≤Big→Q t→∀n,16*t.sz+16≤n→FR n t f=some (!t.allT fun x=> !p x):=by
 refine Term.ind fun t ih hz hq n hn=>?_
 obtain⟨n,rfl⟩:∃m,n=m+2:=⟨n - 2,by omega⟩
 have hsz:=t.sz_eq
 have hlen:=AZ Term.sz t.kids
 have hB:=bgE
 rw [FR,hf t hq hz,AA,Xq t.kids _ (fun x=> !x.allT fun x=> !p x) (by omega) (fun x hx=>by
  have hm2:=Ah (s:=Term.sz) hx
  have hp1:1≤t.kids.length:=List.length_pos_of_mem hx
  rw [G3,ih x hx (by omega) (hQ t hq x hx) n (by omega),AA]),AA,Term.allT_eq,List.all_eq_not_any_not]
 rcases btf (p t) with e1|e1 <;> simp [e1]
def fHas (l:List Def) (s:ByteArray):Bool:=l.any fun d=>sameStr d.name s
def unkB (p:TProgram) (d:Def):Bool:= !(d.typ.knB (dHas p.datas))||((d.body.fr [] []).any fun s=> !fHas p.defs s)|| !d.body.allT (nfL p.datas)
theorem Sg (p:TProgram) (hz:p.sz≤Big) (d:Def) (hd:d ∈ p.defs) (ht:vtB d.typ=true) (ho:d.body.okS=true) (hc:d.body.cnt≤160):Cb p d=some (unkB p d):=by
 unfold TProgram.sz at hz
 have hB:=bgE
 have hdl:=AZ Data.sz p.datas
 have hfl:=AZ Def.sz p.defs
 have hds:=Ah (s:=Def.sz) hd
 have hdz:d.sz=d.name.size+(d.typ.sz+(d.body.sz+0)):=rfl
 unfold Cb B2 Ij unkB
 rw [Ix p.datas (by omega) d.typ (by omega) (OF ht) fuel (D8 (by omega)),AA,Xp d.body (by omega) ho fuel [] [] (by simp; omega) (by simp; omega) (In (by omega)),AA,AA]
 have hfr:=d.body.fr_len [] []
 rw [ZT (d.body.fr [] []) _ (fun s=> !fHas p.defs s) (by simp at hfr; omega) (fun s _=>by
  unfold Cp
  rw [J0 p s (by omega),AA]
  congr 1
  exact Sh _ _),AA,UH _ (fun x=> !nfL p.datas x) (fun x=>x.okS=true) (fun t h x hx=>Ft h hx) (fun t hq htz=>by
   have htsz:=t.sz_eq
   unfold Cq Bg nfL
   rw [K6 p.datas (by omega),AA,UG]
   by_cases h4:t.kind=4
   ·rw [if_pos (by simpa using h4),Ix p.datas (by omega) t.typ (by omega) (OF (Wi hq h4)) fuel (D8 (by omega)),AA]
    simp [h4]
   ·rw [if_neg (by simpa using h4)]
    rcases btf (cHas p.datas t.name) with e2|e2 <;> rcases (by omega:t.kind=8∨t.kind=10∨(t.kind≠8∧t.kind≠10)) with h|h|⟨h2,h3⟩ <;> simp [*]) d.body (by omega) ho fuel (In (by omega)),AA]
 simp only [Bool.not_not]
 rcases btf (d.typ.knB (dHas p.datas)) with e1|e1 <;> rcases btf ((d.body.fr [] []).any fun s=> !fHas p.defs s) with e2|e2 <;> simp [e1,e2]
def cDat (l:List Data) (s:ByteArray):Data:=match GT s 0 l with|some (i,_)=>(l[i]?).getD ⟨ByteArray.empty,[]⟩|none=>⟨ByteArray.empty,[]⟩
def cCon (l:List Data) (s:ByteArray):Constructor:=match GT s 0 l with|some (_,j)=>((cDat l s).cons[j]?).getD ⟨ByteArray.empty,[]⟩|none=>⟨ByteArray.empty,[]⟩
theorem K4 {l:List Data} {s:ByteArray} (h:cHas l s=true):∃i j:Nat,GT s 0 l=some (i,j)∧at? l (i:Int)=some (cDat l s)∧at? (cDat l s).cons (j:Int)=some (cCon l s)∧cDat l s ∈ l∧cCon l s ∈ (cDat l s).cons :=by
 obtain⟨i,j,d,c,h1,h2,h3,h4,h5,_⟩:=ZN h
 have e1:cDat l s=d:=by
  unfold cDat; rw [h1]
  simp only [at?,Int.toNat_natCast] at h2
  rw [if_pos (by omega)] at h2
  show (l[i]?).getD _=d
  rw [h2]; rfl
 have e2:cCon l s=c:=by
  unfold cCon; rw [h1,e1]
  simp only [at?,Int.toNat_natCast] at h3
  rw [if_pos (by omega)] at h3
  show (d.cons[j]?).getD _=c
  rw [h3]; rfl
 rw [e1,e2]
 exact⟨i,j,h1,h2,h3,h4,h5⟩
def IF (q:Term × Constructor):Bool:=sameStr q.1.name q.2.name &&decide (q.1.names.length =q.2.fields.length)
def Mc (l:List Data):List Term→Bool
 |_::k1::rest=>decide ((k1::rest).length =(cDat l k1.name).cons.length)&&((k1::rest).zip (cDat l k1.name).cons).all IF
 |_=>true
def ccL (l:List Data) (t:Term):Bool:=
 if t.kind=8 then decide ((cCon l t.name).fields.length =t.kids.length) else if t.kind=9 then Mc l t.kids else true
theorem UI {α β:Type} {L:Nat→Int→Option Bool} (l:List α) (m:List β) (h:l.length=m.length) (c K:Nat) (p:α × β→Bool) (n:Nat)
  (hs:∀n pre x post pre' y post',l=pre++x::post→m=pre'++y::post'→pre.length=pre'.length→K≤n→L (n+c) (pre.length:Int)=if p (x,y)=true then L n ((List.length (pre++[x]):Nat):Int) else some false)
  (he:∀n,K≤n→L (n+1) (l.length:Int)=some true) (hn:K+c*l.length+1≤n):L n 0=some ((l.zip m).all p):=by
 have key:∀ (post pre:List α) (post' pre':List β) (n:Nat),l=pre++post→m=pre'++post'→pre.length=pre'.length→K+c*post.length+1≤n→L n (pre.length:Int)=some ((post.zip post').all p):=by
  intro post
  induction post with
  |nil=>
   intro pre post' pre' n h1 h2 h3 hn
   obtain⟨n,rfl⟩:∃m,n=m+1:=⟨n - 1,by omega⟩
   rw [List.append_nil] at h1
   rw [← h1,he n (by simp at hn; omega)]; simp
  | cons x post ih=>
   intro pre post' pre' n h1 h2 h3 hn
   rw [List.length_cons,Nat.mul_add,Nat.mul_one] at hn
   obtain⟨n,rfl⟩:∃m,n=m+c:=⟨n - c,by omega⟩
   cases post' with
   |nil=>rw [h1,h2] at h; simp at h; omega
   | cons y post'=>
    rw [hs n pre x post pre' y post' h1 h2 h3 (by omega),List.zip_cons_cons,List.all_cons]
    by_cases hp:p (x,y)=true
    ·rw [if_pos hp,hp,Bool.true_and]
     exact ih (pre++[x]) post' (pre'++[y]) n (by rw [h1]; simp) (by rw [h2]; simp) (by simp [h3]) (by omega)
    ·rw [if_neg hp]; simp only [Bool.not_eq_true] at hp; rw [hp]; simp
 exact key l [] m [] n rfl rfl rfl hn
theorem Qa {t:Term} (h:t.okS=true) (h9:t.kind=9):∃k0 k1 rest,t.kids=k0::k1::rest∧k1.kind=10∧(∀x ∈ k1::rest,x.kind=10)∧rest.length≤3:=by
 have hl:=Hb h
 have hc:=(Li h).2.2
 rw [h9] at hl hc
 have h1:(2:Int)≤(t.kids.length:Int):=hl.1
 have h2:(t.kids.length:Int)≤5:=hl.2
 cases hk:t.kids with
 |nil=>rw [hk] at h1; simp at h1
 | cons k0 l=>
  cases l with
  |nil=>rw [hk] at h1; simp at h1
  | cons k1 rest=>
   rw [hk] at hc h2
   have hall:∀ (l pre:List Term),0<pre.length→allp (Ej 9) pre l=true→∀x ∈ l,x.kind=10:=by
    intro l
    induction l with
    |nil=>intro _ _ _ x hx; cases hx
    |cons y l ih=>
     intro pre hp ha x hx
     simp only [allp,Bool.and_eq_true] at ha
     rcases List.mem_cons.1 hx with rfl|hx
     ·have:=ha.1; unfold Ej at this; simp [hp] at this; exact this
     ·exact ih (pre++[y]) (by simp) ha.2 x hx
   rw [allp,Bool.and_eq_true] at hc
   have:=hall (k1::rest) ([] ++[k0]) (by simp) hc.2
   exact⟨k0,k1,rest,rfl,this k1 (by simp),this,by simp at h2; omega⟩
theorem OH {l:List Data} {t:Term} (h:nfL l t=true) (hk:t.kind=8∨t.kind=10):cHas l t.name=true:=by
 unfold nfL at h
 rw [Bool.and_eq_true] at h
 have:=h.2
 rcases hk with hk|hk <;> simp [hk] at this <;> exact this
theorem Vi (l:List Data) (hl:szl Data.sz l≤Big) (t:Term) (hz:t.sz≤Big) (ho:t.okS=true) (h9:t.kind=9) (hn:t.allT (nfL l)=true):Fg l t=some (Mc l t.kids):=by
 obtain⟨k0,k1,rest,hk,hk1,hk2,hk3⟩:=Qa ho h9
 have hB:=bgE
 have hc:=OH (J1 (B5 hn (by rw [hk]; simp:k1 ∈ t.kids))) (Or.inr hk1)
 obtain⟨i,j,e1,e2,e3,e4,e5⟩:=K4 hc
 have hds:=Ah (s:=Data.sz) e4
 have hdc:(cDat l k1.name).cons.length ≤(cDat l k1.name).sz :=by have:=AZ Constructor.sz (cDat l k1.name).cons; unfold Data.sz; omega
 unfold Fg
 rw [hk,show at? (k0::k1::rest) 1=some k1 from rfl,AA,JY l hl,AA,e1]
 simp only [cRes]
 rw [e2,AA,w64 (by omega) (by omega),Mc]
 by_cases hlen:(k1::rest).length =(cDat l k1.name).cons.length
 ·rw [if_neg (by simp at hlen ⊢; omega),show decide ((k1::rest).length =(cDat l k1.name).cons.length)=true from by simpa using hlen,Bool.true_and]
  refine UI (L:=fun n i=>BG n t (cDat l k1.name) i) (k1::rest) (cDat l k1.name).cons hlen 2 0 IF fuel (fun m pre x post pre' y post' h1 h2 h3 hm=>?_) (fun m hm=>?_) (CY (by simp; omega))
  ·show BG (m+2) t (cDat l k1.name) _=_
   have hkk:t.kids=(k0::pre)++x::post:=by rw [hk,h1]; rfl
   have hpl0:(k1::rest).length =(pre++x::post).length :=by rw [h1]
   have hpl:pre.length<4:=by simp at hpl0; omega
   have hw:IntKind.i64.wrap ((pre.length:Int)+1)=((List.length (k0::pre):Nat):Int):=by rw [w64 (by omega) (by omega)]; simp
   have hw2:((List.length (k0::pre):Nat):Int)=((List.length (pre++[x]):Nat):Int):=by simp
   rw [BG,h3,if_pos (Ai h2),← h3,hw,AW hkk,AA,h3,AW h2,AA,← h3,AA,AA]
   simp only [DG]
   rw [hw,hw2,IF]
   have hfl:decide ((x.names.length:Int)=(y.fields.length:Int))=decide (x.names.length=y.fields.length):=decide_eq_decide.2 ⟨fun h=>by omega,fun h=>by omega⟩
   simp only [hfl]
   rcases btf (sameStr x.name y.name) with a1|a1 <;> rcases btf (decide (x.names.length=y.fields.length)) with a2|a2 <;> simp only [a1,a2,Bool.not_true,Bool.not_false,Bool.true_and,Bool.and_true,Bool.false_and,Bool.and_false,Bool.false_eq_true,if_true,if_false]
  ·show BG (m+1) t (cDat l k1.name) _=_
   rw [BG,hlen,if_neg (by simp)]
 ·rw [if_pos (by simp at hlen ⊢; omega),show decide ((k1::rest).length =(cDat l k1.name).cons.length)=false from by simpa using hlen,Bool.false_and]
theorem UJ (l:List Data) (hl:szl Data.sz l≤Big):∀t:Term,t.sz≤Big→t.okS=true→t.allT (nfL l)=true→∀n,16*t.sz+16≤n→Cg n l t=some (t.allT (ccL l)):=by
 refine Term.ind fun t ih hz ho hn n hf=>?_
 obtain⟨n,rfl⟩:∃m,n=m+2:=⟨n - 2,by omega⟩
 have hsz:=t.sz_eq
 have hlen:=AZ Term.sz t.kids
 have hB:=bgE
 have hl':t.kids.length≤Big:=by omega
 have hloop:A6 n l t 0=some (t.kids.all (Term.allT (ccL l))):=by
  refine IK (L:=fun n i=>A6 n l t i) t.kids 1 (16*szl Term.sz t.kids+8 - 6*t.kids.length) _ n (fun m pre x post hh hm=>?_) (fun m hm=>?_) (by omega)
  ·have hx:=BZ hh
   have hm2:=Ah (s:=Term.sz) hx
   have hp1:1≤t.kids.length:=List.length_pos_of_mem hx
   show A6 (m+1) l t _=_
   rw [A6,if_pos (Ai hh),AW hh,AA,ih x hx (by omega) (Ft ho hx) (B5 hn hx) m (by omega),AA,AP hh hl']
   rcases btf (x.allT (ccL l)) with h|h <;> simp [h]
  ·show A6 (m+1) l t _=_
   rw [A6]; simp
 rw [Cg,CL,Term.allT_eq,ccL,hloop]
 by_cases h8:t.kind=8
 ·have hc:=OH (J1 hn) (Or.inl h8)
  obtain⟨i,j,e1,e2,e3,e4,e5⟩:=K4 hc
  rw [if_pos (by simpa using h8),if_pos h8,JY l hl,AA,e1]
  simp only [cRes]
  rw [e2,AA,e3,AA]
  have hfl:decide (((List.length (cCon l t.name).fields :Nat):Int)=(t.kids.length:Int))=decide ((cCon l t.name).fields.length =t.kids.length):=decide_eq_decide.2 ⟨fun h=>by omega,fun h=>by omega⟩
  rw [hfl]
  rcases btf (decide ((cCon l t.name).fields.length =t.kids.length)) with a1|a1 <;> simp only [a1,Bool.not_true,Bool.not_false,Bool.true_and,Bool.false_and,Bool.false_eq_true,if_true,if_false]
 ·rw [if_neg (by simpa using h8),if_neg h8]
  by_cases h9:t.kind=9
  ·rw [if_pos (by simpa using h9),if_pos h9,Vi l hl t hz ho h9 hn,AA]
   rcases btf (Mc l t.kids) with a1|a1 <;> simp only [a1,Bool.not_true,Bool.not_false,Bool.true_and,Bool.false_and,Bool.false_eq_true,if_true,if_false]
  ·rw [if_neg (by simpa using h9),if_neg h9,Bool.true_and]
theorem Vj (p:TProgram) (hl:szl Data.sz p.datas≤Big) (t:Term) (hz:t.sz≤Big) (ho:t.okS=true) (hn:t.allT (nfL p.datas)=true):Ci p t=some (!ccL p.datas t):=by
 have hB:=bgE
 unfold Ci ccL
 by_cases h8:t.kind=8
 ·have hc:=OH (J1 hn) (Or.inl h8)
  obtain⟨i,j,e1,e2,e3,e4,e5⟩:=K4 hc
  rw [if_pos (by simpa using h8),if_pos h8,K6 p.datas hl,AA,e1]
  simp only [cRes]
  rw [e2,AA,e3,AA]
  congr 2
  exact decide_eq_decide.2 ⟨fun h=>by omega,fun h=>by omega⟩
 ·rw [if_neg (by simpa using h8),if_neg h8]
  by_cases h9:t.kind=9
  ·obtain⟨k0,k1,rest,hk,hk1,hk2,hk3⟩:=Qa ho h9
   have hc:=OH (J1 (B5 hn (by rw [hk]; simp:k1 ∈ t.kids))) (Or.inr hk1)
   obtain⟨i,j,e1,e2,e3,e4,e5⟩:=K4 hc
   have hcut:cutL (k0::k1::rest) 1 ((List.length (k0::k1::rest):Nat):Int)=some (k1::rest):=by
    rw [cutL,if_pos ⟨by decide,by simp; omega,by simp⟩]; simp
   rw [if_pos (by simpa using h9),if_pos h9,hk,hcut,AA,Df,show at? (k1::rest) 0=some k1 from rfl,AA,K6 p.datas hl,AA,e1]
   simp only [cRes]
   rw [e2,AA,Mc]
   unfold C3
   by_cases hlen:(k1::rest).length =(cDat p.datas k1.name).cons.length
   ·rw [if_neg (by simp at hlen ⊢; omega),show decide ((k1::rest).length =(cDat p.datas k1.name).cons.length)=true from by simpa using hlen,Bool.true_and]
    have:=UI (L:=fun n i=>AU n (k1::rest) (cDat p.datas k1.name).cons i (fun y0 y1=>Bq y0 y1)) (k1::rest) (cDat p.datas k1.name).cons hlen 1 0 IF fuel (fun m pre x post pre' y post' h1 h2 h3 hm=>by
      show AU (m+1) _ _ _ _=_
      rw [AU,if_pos (Ai h1),AW h1,AA,h3,AW h2,AA,← h3,AP h1 (by simp; omega),Bq,IF]
      have hfl:decide ((x.names.length:Int)=(y.fields.length:Int))=decide (x.names.length=y.fields.length):=decide_eq_decide.2 ⟨fun h=>by omega,fun h=>by omega⟩
      rw [hfl]
      rcases btf (sameStr x.name y.name) with a1|a1 <;> rcases btf (decide (x.names.length=y.fields.length)) with a2|a2 <;> simp only [a1,a2,Bool.not_true,Bool.not_false,Bool.true_and,Bool.and_true,Bool.false_and,Bool.and_false,Bool.false_eq_true,if_true,if_false,AA])
     (fun m hm=>by
      show AU (m+1) _ _ _ _=_
      rw [AU,if_neg (by simp)]) (CY (by simp; omega))
    have h0:AU fuel (k1::rest) (cDat p.datas k1.name).cons 0 (fun y0 y1=>Bq y0 y1)=_:=this
    rw [h0,AA,AA]
   ·rw [if_pos (by simp at hlen ⊢; omega),AA,AA,show decide ((k1::rest).length =(cDat p.datas k1.name).cons.length)=false from by simpa using hlen,Bool.false_and]
  ·rw [if_neg (by simpa using h9),if_neg h9]; rfl
noncomputable def Md (p:TProgram):Int:=if K7 p=true then if (p.defs.any fun d=>unkB p d)=true then 7 else if (p.defs.any fun d=> !d.body.allT (ccL p.datas))=true then 2 else 0 else 1
theorem G9 {p:TProgram} (h:K7 p=true) {d:Def} (hd:d ∈ p.defs):vtB d.typ=true∧d.body.okS=true∧d.body.cnt≤160∧d.body.kind≠10:=by
 unfold K7 at h
 rw [Bool.and_eq_true] at h
 obtain⟨pre,hp⟩:=JU h.2 hd
 unfold Ly tmB at hp
 simp only [Bool.and_eq_true,decide_eq_true_eq] at hp
 exact⟨hp.1.2,hp.2.1.1.2,hp.2.2,hp.2.1.1.1⟩
theorem Vk {p:TProgram} {d:Def} (h:unkB p d=false):d.body.allT (nfL p.datas)=true∧d.typ.knB (dHas p.datas)=true∧(∀s ∈ d.body.fr [] [],fHas p.defs s=true):=by
 unfold unkB at h
 simp only [Bool.or_eq_false_iff,Bool.not_eq_false',List.any_eq_false] at h
 exact⟨h.2,h.1.1,fun s hs=>by have:=h.1.2 s hs; simpa using this⟩
theorem Vl (p:TProgram) (hz:p.sz≤Big):IC p=some (Md p):=by
 have hz':=hz
 unfold TProgram.sz at hz'
 have hB:=bgE
 have hdl:=AZ Data.sz p.datas
 have hfl:=AZ Def.sz p.defs
 unfold IC Md
 rw [Se p hz,AA]
 rcases btf (K7 p) with hp|hp
 rotate_left
 ·rw [hp]; simp
 rw [hp,if_neg (by simp),if_pos rfl]
 have hsizes:∀d ∈ p.defs,d.typ.sz≤Big∧d.body.sz≤Big:=fun d hd=>by
  have hds:=Ah (s:=Def.sz) hd
  have hdz:d.sz=d.name.size+(d.typ.sz+(d.body.sz+0)):=rfl
  omega
 have h21:(p.defs.all fun d=> !unkB p d)=true→BN fuel p 0=if (p.defs.all fun d=>d.body.allT (ccL p.datas))=true then some 0 else some 2:=fun hu=>by
  refine NM (L:=fun n (_:Unit) i=>BN n p i) p.defs 1 0 (fun _=>()) (fun d=>d.body.allT (ccL p.datas)) (some 2) (some 0) fuel (fun m pre d post hh hq hm=>?_) (fun m hq hm=>?_) (CY (by omega))
  ·have hd:=BZ hh
   have hs:=hsizes d hd
   have hun:=List.all_eq_true.1 hu d hd
   rw [Bool.not_eq_true'] at hun
   show BN (m+1) p _=_
   rw [BN,if_pos (Ai hh),AW hh,AA,UJ p.datas (by omega) d.body hs.2 (G9 hp hd).2.1 (Vk hun).1 fuel (In hs.2),AA,AP hh (by omega)]
   rcases btf (d.body.allT (ccL p.datas)) with a1|a1 <;> simp [a1]
  ·show BN (m+1) p _=_
   rw [BN,if_neg (by simp)]
 have main:=Cr (L:=fun n (_:Unit) i=>BO n p i) p.defs 200 1 (fun _=>()) (fun _ d=> !unkB p d) (some 7) (BN fuel p 0) (fun N R pre d post hh hq hN hR m hm=>by
   obtain⟨m,rfl⟩:∃k,m=k+1:=⟨m - 1,by omega⟩
   have hd:=BZ hh
   have hs:=hsizes d hd
   have hpd:=G9 hp hd
   have hfr:=d.body.fr_len [] []
   have hlen:(d.body.fr [] []).length ≤160:=by simp at hfr; omega
   show BO (m+1) p _=_
   rw [BO,if_pos (Ai hh),AW hh,AA,Xo d.body hs.2 fuel [] [] (by simp; omega) (by simp; omega) (In hs.2),AA]
   have:=Cr (L:=fun n (_:Unit) k=>Bc n p (pre.length:Int) d (d.body.fr [] []) k) (d.body.fr [] []) 1 (N+2) (fun _=>()) (fun _ s=>fHas p.defs s) (some 7) (if (!unkB p d)=true then R else some 7) (fun N' R' pre' s post' hh' hq' hN' hR' m hm=>by
     obtain⟨m,rfl⟩:∃k,m=k+1:=⟨m - 1,by omega⟩
     show Bc (m+1) p _ d _ _=_
     have hneg:decide (fIdx p.defs s<0)= !fHas p.defs s:=Sh _ _
     rw [Bc,if_pos (Ai hh'),AW hh',AA,Iw p.defs s (by omega),AA,hneg,AP hh' (by omega)]
     have hR':=fun h=>hR' h m (by omega)
     rcases btf (fHas p.defs s) with a1|a1 <;> simp only [a1,Bool.not_true,Bool.not_false,Bool.false_eq_true,if_true,if_false,forall_const] at hR' ⊢
     exact hR') (fun hall m hm=>by
     obtain⟨m,rfl⟩:∃k,m=k+2:=⟨m - 2,by omega⟩
     show Bc (m+2) p _ d _ _=_
     rw [GU (fun s=>fHas p.defs s)] at hall
     have hany:((d.body.fr [] []).any fun s=> !fHas p.defs s)=false:=by
      rw [List.any_eq_false]; intro s hs; have:=List.all_eq_true.1 hall s hs; simp [this]
     rw [Bc,if_neg (by simp),Mb p.datas (by omega) d.typ hs.1 fuel (D8 hs.1),AA,Q9 p.datas (by omega) d.body hs.2 fuel (In hs.2),AA]
     simp only [D0]
     rw [AP hh (by omega)]
     unfold unkB at hR ⊢
     rw [hany] at hR ⊢
     have hR:=fun h=>hR h m (by omega)
     rcases btf (d.typ.knB (dHas p.datas)) with a1|a1 <;> rcases btf (d.body.allT (nfL p.datas)) with a2|a2 <;> simp only [a1,a2,Bool.not_true,Bool.not_false,Bool.or_false,Bool.false_or,Bool.or_true,Bool.true_or,Bool.false_eq_true,if_true,if_false,forall_const] at hR ⊢
     exact hR) m (by omega)
   have h0:Bc m p (pre.length:Int) d (d.body.fr [] []) 0=_:=this
   rw [h0,GU (fun s=>fHas p.defs s)]
   rcases btf ((d.body.fr [] []).all fun s=>fHas p.defs s) with a1|a1
   ·rw [a1,if_pos rfl]
   ·have:unkB p d=true:=by
     unfold unkB
     have:((d.body.fr [] []).any fun s=> !fHas p.defs s)=true:=by
      rw [List.all_eq_not_any_not] at a1
      simpa using a1
     rw [this]; simp
    rw [a1,this]; simp) (fun hq m hm=>by
   obtain⟨m,rfl⟩:∃k,m=k+1:=⟨m - 1,by omega⟩
   show BO (m+1) p _=_
   rw [BO,if_neg (by simp)]) fuel (CY (by omega))
 have h0:BO fuel p 0=_:=main
 rw [h0,GU (fun d=> !unkB p d)]
 have e1:(p.defs.all fun d=> !unkB p d)= !(p.defs.any fun d=>unkB p d):=by rw [List.all_eq_not_any_not]; simp
 have e2:(p.defs.any fun d=> !d.body.allT (ccL p.datas))= !(p.defs.all fun d=>d.body.allT (ccL p.datas)):=by rw [List.all_eq_not_any_not]; simp
 rcases btf (p.defs.any fun d=>unkB p d) with a1|a1
 ·rw [e1,a1]; simp
 ·rw [h21 (by rw [e1,a1]; rfl),e1,a1,e2]
  rcases btf (p.defs.all fun d=>d.body.allT (ccL p.datas)) with a2|a2 <;> simp [a2]
theorem Vm (p:TProgram) (hz:p.sz≤Big):GP p=some (Md p):=by
 have hz':=hz
 unfold TProgram.sz at hz'
 have hB:=bgE
 have hdl:=AZ Data.sz p.datas
 have hfl:=AZ Def.sz p.defs
 unfold GP Md
 rw [Sf p hz,AA]
 rcases btf (K7 p) with hp|hp
 rotate_left
 ·rw [hp]; simp
 have hsizes:∀d ∈ p.defs,d.typ.sz≤Big∧d.body.sz≤Big:=fun d hd=>by
  have hds:=Ah (s:=Def.sz) hd
  have hdz:d.sz=d.name.size+(d.typ.sz+(d.body.sz+0)):=rfl
  omega
 rw [hp,if_neg (by simp),if_pos rfl,UK p.defs _ (fun d=>unkB p d) (by omega) (fun d hd=>Sg p hz d hd (G9 hp hd).1 (G9 hp hd).2.1 (G9 hp hd).2.2.1),AA]
 rcases btf (p.defs.any fun d=>unkB p d) with a1|a1
 ·rw [a1]; simp
 ·rw [a1,if_neg (by simp),if_neg (by simp),UK p.defs _ (fun d=> !d.body.allT (ccL p.datas)) (by omega) (fun d hd=>by
   have hun:unkB p d=false:=by
    have:=List.any_eq_false.1 a1 d hd; simpa using this
   unfold GO
   rw [UH _ (fun x=> !ccL p.datas x) (fun x=>x.okS=true∧x.allT (nfL p.datas)=true) (fun t h x hx=>⟨Ft h.1 hx,B5 h.2 hx⟩) (fun t hq htz=>Vj p (by omega) t htz hq.1 hq.2) d.body (hsizes d hd).2 ⟨(G9 hp hd).2.1,(Vk hun).1⟩ fuel (In (hsizes d hd).2),AA]
   simp only [Bool.not_not]),AA]
  rcases btf (p.defs.any fun d=> !d.body.allT (ccL p.datas)) with a2|a2 <;> simp [a2]
end Go.Proofs.YtaedfiifhjlmlaaGreat.Ab
