/-
  Frames: what both sides take from bytes. No program is in sight.
-/
import Derived.Test.YtijdanbelnmmlaaPlDj
import Derived.Test.YtijdanbelnmmlaaPlByte
import Derived.Test.YtijdanbelnmmlaaPlEnc
import Derived.Test.YtijdanbelnmmlaaPlG
import Derived.Test.YtijdanbelnmmlaaPlBook
import Derived.Test.YtijdanbelnmmlaaAbZ
import Derived.Test.YtijdanbelnmmlaaModD
namespace Go.Proofs.Ytijdanbelnmmlaa.Ab
set_option linter.unusedVariables false
set_option linter.unusedSimpArgs false
open Go.RowKit
def chk (s:Int):List Int:=[s % 256,s / 256 % 256,s / 65536 % 256,s / 16777216 % 256]
def Dz (k:Int) (a:List Int):List Int:=[73,78,69,84,1,k] ++a++chk (crcSum ([73,78,69,84,1,k] ++a))
theorem Gc (k:Int) (a:List Int):(Dz k a).length =a.length+10:=by unfold Dz chk; simp
theorem Pw {k:Int} {a a':List Int} (h:Dz k a=Dz k a'):a=a':=by
 have hl:a.length=a'.length:=by
  have:=congrArg List.length h
  rw [Gc,Gc] at this
  omega
 unfold Dz at h
 rw [List.append_assoc,List.append_assoc] at h
 exact List.append_inj_left (List.append_cancel_left h) hl
theorem La (kind:Int) (a:List Int) (ha:a.length≤16777300):GB kind a=some (if 60000<a.length+10 then ([],4) else (Dz kind a,0)):=by
 have hbody:([73,78,69,84,1,kind] ++a).length =a.length+6:=by simp
 have hs:=Mr ([73,78,69,84,1,kind] ++a)
 unfold GB Fr
 rw [AA,CS (by simp [Big]),AA,CS (by simp [Big]; omega),AA]
 have e: [73,78,69,84,1] ++[kind] ++a=[73,78,69,84,1,kind] ++a:=by simp
 rw [e,VU _ (by rw [hbody]; unfold Big; omega),AA,O0 _ hs _ (by rw [hbody]; unfold Big; omega) fuel (by rw [A7]; omega),hbody]
 rfl
theorem I2 (l m:List Int) (hl:l.length≤Big):Di (Co l m) (l=m):=by
 unfold Co
 exact ZX (fun n i=>Bo n l m i) (fun x y=>some (decide (x=y))) l m (fun n i=>by rw [Bo]; rfl) hl fun x _ y _=>.mk QY
section
variable {x0 x1 x2 x3 x4 x5 y0 y1 y2 y3:Int} {c:List Int}
theorem Px:Dz x5 c=x0::x1::x2::x3::x4::x5::(c++[y0,y1,y2,y3])↔
  x0=73∧x1=78∧x2=69∧x3=84∧x4=1∧y0=crcSum ([73,78,69,84,1,x5] ++c) % 256∧y1=crcSum ([73,78,69,84,1,x5] ++c) / 256 % 256∧y2=crcSum ([73,78,69,84,1,x5] ++c) / 65536 % 256∧y3=crcSum ([73,78,69,84,1,x5] ++c) / 16777216 % 256:=by
 unfold Dz chk
 generalize crcSum ([73,78,69,84,1,x5] ++c)=s
 constructor
 ·intro h
  simp only [List.cons_append,List.nil_append,List.cons.injEq,List.append_cancel_left_eq,and_true,true_and] at h
  omega
 ·rintro ⟨rfl,rfl,rfl,rfl,rfl,rfl,rfl,rfl,rfl⟩
  simp
theorem NY (j:Nat) (hj:j<4) {i:Int} (hi:i=((6+c.length+j:Nat):Int)):at? (x0::x1::x2::x3::x4::x5::(c++[y0,y1,y2,y3])) i=[y0,y1,y2,y3][j]? :=by
 unfold at?
 rw [hi,if_pos (by omega),show ((6+c.length+j:Nat):Int).toNat =(c.length+j)+1+1+1+1+1+1 from by omega]
 simp only [List.getElem?_cons_succ]
 rw [List.getElem?_append_right (by omega),show c.length+j - c.length=j from by omega]
theorem Qd {j:Int} (hj:j=((6+c.length:Nat):Int)):Gt (x0::x1::x2::x3::x4::x5::(c++[y0,y1,y2,y3])) 6 j=some c:=by
 unfold Gt
 rw [hj,if_pos (by simp only [List.length_cons,List.length_append,List.length_nil]; omega),show (((6+c.length:Nat):Int) - 6).toNat =c.length from by omega]
 show some (List.take c.length (c++[y0,y1,y2,y3]))=some c
 simp
theorem Td {j:Int} (hj:j=((6+c.length:Nat):Int)):Gt (x0::x1::x2::x3::x4::x5::(c++[y0,y1,y2,y3])) 0 j=some ([x0,x1,x2,x3,x4,x5] ++c):=by
 unfold Gt
 rw [hj,if_pos (by simp only [List.length_cons,List.length_append,List.length_nil]; omega),show (((6+c.length:Nat):Int) - 0).toNat =c.length+1+1+1+1+1+1 from by omega]
 simp
theorem Te (hx:0≤x5∧x5≤255) (hl:c.length+10≤60000):Ch (x0::x1::x2::x3::x4::x5::(c++[y0,y1,y2,y3]))=some (if (1≤x5∧x5≤3)∧Dz x5 c=x0::x1::x2::x3::x4::x5::(c++[y0,y1,y2,y3]) then (x5,c,0) else (0,[],14)):=by
 have hlen:(x0::x1::x2::x3::x4::x5::(c++[y0,y1,y2,y3])).length =c.length+10:=by simp
 unfold Ch
 rw [hlen,if_neg (by simp; omega),if_neg (by simp; omega),show at? (x0::x1::x2::x3::x4::x5::(c++[y0,y1,y2,y3])) 5=some x5 from rfl,AA,Qd (by rw [w64 (by omega) (by omega)]; omega),AA]
 by_cases h1:x5<1
 ·rw [if_pos (by simpa using h1),if_neg (by omega)]; rfl
 ·rw [if_neg (by simpa using h1)]
  by_cases h3:3<x5
  ·rw [if_neg (by omega),show decide (3<x5)=true from by simpa using h3]; rfl
  ·rw [show decide (3<x5)=false from by simpa using h3]
   unfold DX
   rw [if_neg (by simp),La _ _ (by omega),AA,if_neg (by omega)]
   obtain⟨t,e1,e2⟩:=I2 (Dz x5 c) (x0::x1::x2::x3::x4::x5::(c++[y0,y1,y2,y3])) (by rw [Gc]; unfold Big; omega)
   simp only
   rw [e1,AA,w64 (by omega) (by omega)]
   cases t with
   |true=>rw [if_neg (by simp),if_pos ⟨by omega,e2.1 rfl⟩]
   |false=>rw [if_pos (by simp),if_neg (fun h=>Bool.noConfusion (e2.2 h.2))]
theorem Tf (hx:0≤x5∧x5≤255) (hl:c.length+10≤60000):DN (x0::x1::x2::x3::x4::x5::(c++[y0,y1,y2,y3]))=some (if (1≤x5∧x5≤3)∧Dz x5 c=x0::x1::x2::x3::x4::x5::(c++[y0,y1,y2,y3]) then (x5,c,0) else (0,[],14)):=by
 have hlen:(x0::x1::x2::x3::x4::x5::(c++[y0,y1,y2,y3])).length =c.length+10:=by simp
 have hj:∀a,BM a true=some (0,[],14):=fun a=>rfl
 have hj2:∀a,Cg a true=some (0,[],14):=fun a=>rfl
 have hw:IntKind.i64.wrap (((c.length+10:Nat):Int) - 4)=((6+c.length:Nat):Int):=by rw [w64 (by omega) (by omega)]; omega
 unfold DN
 rw [hlen,hw,if_neg (by simp; omega),if_neg (by simp; omega)]
 simp only [Px]
 by_cases h0:x0=73
 ·by_cases h1:x1=78
  ·by_cases h2:x2=69
   ·by_cases h3:x3=84
    ·by_cases h4:x4=1
     ·subst h0 h1 h2 h3 h4
      rw [show at? (73::78::69::84::1::x5::(c++[y0,y1,y2,y3])) 0=some 73 from rfl,AA,if_neg (by simp),
       show at? (73::78::69::84::1::x5::(c++[y0,y1,y2,y3])) 1=some 78 from rfl,AA,if_neg (by simp),
       show at? (73::78::69::84::1::x5::(c++[y0,y1,y2,y3])) 2=some 69 from rfl,AA,if_neg (by simp),
       show at? (73::78::69::84::1::x5::(c++[y0,y1,y2,y3])) 3=some 84 from rfl,AA,if_neg (by simp),
       show at? (73::78::69::84::1::x5::(c++[y0,y1,y2,y3])) 4=some 1 from rfl,AA,if_neg (by simp),
       show at? (73::78::69::84::1::x5::(c++[y0,y1,y2,y3])) 5=some x5 from rfl,AA]
      by_cases h5:x5<1
      ·rw [if_pos (by simpa using h5),hj,if_neg (by omega)]
      ·rw [if_neg (by simpa using h5),AA]
       by_cases h6:3<x5
       ·rw [show decide (3<x5)=true from by simpa using h6,hj,if_neg (by omega)]
       ·rw [show decide (3<x5)=false from by simpa using h6]
        have e8:(2:Int) ^ min (Int.toNat 8) (IntKind.bits IntKind.u32)=256:=by decide
        have e16:(2:Int) ^ min (Int.toNat 16) (IntKind.bits IntKind.u32)=65536:=by decide
        have e24:(2:Int) ^ min (Int.toNat 24) (IntKind.bits IntKind.u32)=16777216:=by decide
        unfold BM
        rw [hlen,hw,if_neg (by simp),Td rfl,AA,VT _ (by simp [Big]; omega),AA,e8,e16,e24]
        generalize crcSum ([73,78,69,84,1,x5] ++c)=s
        simp only [Ho]
        have hk:∀k:Nat,k<4→IntKind.i64.wrap (((6+c.length:Nat):Int)+(k:Int))=((6+c.length+k:Nat):Int):=fun k hk=>by rw [w64 (by omega) (by omega)]; omega
        have k1:=hk 1 (by omega)
        have k2:=hk 2 (by omega)
        have k3:=hk 3 (by omega)
        simp only [Int.natCast_one] at k1
        rw [NY 0 (by omega) (by omega),k1,NY 1 (by omega) rfl]
        rw [show IntKind.i64.wrap (((6+c.length:Nat):Int)+2)=((6+c.length+2:Nat):Int) from k2,NY 2 (by omega) rfl]
        rw [show IntKind.i64.wrap (((6+c.length:Nat):Int)+3)=((6+c.length+3:Nat):Int) from k3,NY 3 (by omega) rfl]
        show Option.bind (some y0) _=_
        rw [AA]
        by_cases g0:y0=s % 256
        ·rw [if_neg (by simpa using g0)]
         show Option.bind (some y1) _=_
         rw [AA]
         by_cases g1:y1=s / 256 % 256
         ·rw [if_neg (by simpa using g1)]
          show Option.bind (some y2) _=_
          rw [AA]
          by_cases g2:y2=s / 65536 % 256
          ·rw [if_neg (by simpa using g2)]
           show Option.bind (some y3) _=_
           rw [AA]
           by_cases g3:y3=s / 16777216 % 256
           ·rw [show decide (y3=s / 16777216 % 256)=true from by simpa using g3,if_pos ⟨⟨by omega,by omega⟩,trivial,trivial,trivial,trivial,trivial,g0,g1,g2,g3⟩]
            unfold Cg
            rw [if_neg (by simp),show at? (73::78::69::84::1::x5::(c++[y0,y1,y2,y3])) 5=some x5 from rfl,AA,hlen,hw,Qd rfl,AA,w64 (by omega) (by omega)]
           ·rw [show decide (y3=s / 16777216 % 256)=false from by simpa using g3,if_neg (fun h=>g3 h.2.2.2.2.2.2.2.2.2)]; rfl
          ·rw [if_pos (by simpa using g2),hj2,if_neg (fun h=>g2 h.2.2.2.2.2.2.2.2.1)]
         ·rw [if_pos (by simpa using g1),hj2,if_neg (fun h=>g1 h.2.2.2.2.2.2.2.1)]
        ·rw [if_pos (by simpa using g0),hj2,if_neg (fun h=>g0 h.2.2.2.2.2.2.1)]
     ·subst h0 h1 h2 h3
      rw [if_neg (fun h=>h4 h.2.2.2.2.2.1)]
      rw [show at? (73::78::69::84::x4::x5::(c++[y0,y1,y2,y3])) 0=some 73 from rfl,AA,if_neg (by simp),
       show at? (73::78::69::84::x4::x5::(c++[y0,y1,y2,y3])) 1=some 78 from rfl,AA,if_neg (by simp),
       show at? (73::78::69::84::x4::x5::(c++[y0,y1,y2,y3])) 2=some 69 from rfl,AA,if_neg (by simp),
       show at? (73::78::69::84::x4::x5::(c++[y0,y1,y2,y3])) 3=some 84 from rfl,AA,if_neg (by simp),
       show at? (73::78::69::84::x4::x5::(c++[y0,y1,y2,y3])) 4=some x4 from rfl,AA,if_pos (by simpa using h4),hj]
    ·subst h0 h1 h2
     rw [if_neg (fun h=>h3 h.2.2.2.2.1)]
     rw [show at? (73::78::69::x3::x4::x5::(c++[y0,y1,y2,y3])) 0=some 73 from rfl,AA,if_neg (by simp),
      show at? (73::78::69::x3::x4::x5::(c++[y0,y1,y2,y3])) 1=some 78 from rfl,AA,if_neg (by simp),
      show at? (73::78::69::x3::x4::x5::(c++[y0,y1,y2,y3])) 2=some 69 from rfl,AA,if_neg (by simp),
      show at? (73::78::69::x3::x4::x5::(c++[y0,y1,y2,y3])) 3=some x3 from rfl,AA,if_pos (by simpa using h3),hj]
   ·subst h0 h1
    rw [if_neg (fun h=>h2 h.2.2.2.1)]
    rw [show at? (73::78::x2::x3::x4::x5::(c++[y0,y1,y2,y3])) 0=some 73 from rfl,AA,if_neg (by simp),
     show at? (73::78::x2::x3::x4::x5::(c++[y0,y1,y2,y3])) 1=some 78 from rfl,AA,if_neg (by simp),
     show at? (73::78::x2::x3::x4::x5::(c++[y0,y1,y2,y3])) 2=some x2 from rfl,AA,if_pos (by simpa using h2),hj]
  ·subst h0
   rw [if_neg (fun h=>h1 h.2.2.1)]
   rw [show at? (73::x1::x2::x3::x4::x5::(c++[y0,y1,y2,y3])) 0=some 73 from rfl,AA,if_neg (by simp),
    show at? (73::x1::x2::x3::x4::x5::(c++[y0,y1,y2,y3])) 1=some x1 from rfl,AA,if_pos (by simpa using h1),hj]
 ·rw [if_neg (fun h=>h0 h.2.1)]
  rw [show at? (x0::x1::x2::x3::x4::x5::(c++[y0,y1,y2,y3])) 0=some x0 from rfl,AA,if_pos (by simpa using h0),hj]
end
theorem ten {b:List Int} (h:10≤b.length):∃x0 x1 x2 x3 x4 x5 c y0 y1 y2 y3,b=x0::x1::x2::x3::x4::x5::(c++[y0,y1,y2,y3]):=by
 match b,h with
 |x0::x1::x2::x3::x4::x5::r,h=>
  simp only [List.length_cons] at h
  have hd:(r.drop (r.length - 4)).length =4:=by rw [List.length_drop]; omega
  match hr:r.drop (r.length - 4),hd with
  | [y0,y1,y2,y3],_=>exact⟨x0,x1,x2,x3,x4,x5,r.take (r.length - 4),y0,y1,y2,y3,by rw [← hr,List.take_append_drop]⟩
theorem open_both {b:List Int} (hb:Byts b) (hl:b.length≤1048576):
  (∃e,e≠0∧DN b=some (0,[],e)∧Ch b=some (0,[],e))∨
  ∃kind c,b=Dz kind c∧c.length+10≤60000∧Byts c∧DN b=some (kind,c,0)∧Ch b=some (kind,c,0):=by
 by_cases h1:60000<b.length
 ·refine .inl ⟨2,by decide,?_,?_⟩
  ·unfold DN; rw [if_pos (by simp; omega)]
  ·unfold Ch; rw [if_pos (by simp; omega)]
 ·by_cases h2:b.length<10
  ·refine .inl ⟨14,by decide,?_,?_⟩
   ·unfold DN; rw [if_neg (by simp; omega),w64 (by omega) (by omega),if_pos (by simp; omega)]; rfl
   ·unfold Ch; rw [if_neg (by simp; omega),if_pos (by simp; omega)]
  ·obtain⟨x0,x1,x2,x3,x4,x5,c,y0,y1,y2,y3,rfl⟩:=ten (b:=b) (by omega)
   have hlen:(x0::x1::x2::x3::x4::x5::(c++[y0,y1,y2,y3])).length =c.length+10:=by simp
   have hx:=hb x5 (by simp)
   rw [hlen] at h1
   rw [Tf hx (by omega),Te hx (by omega)]
   split
   ·rename_i h
    exact .inr ⟨x5,c,h.2.symm,by omega,fun z hz=>hb z (by simp [hz]),rfl,rfl⟩
   ·exact .inl ⟨14,by decide,rfl,rfl⟩
end Go.Proofs.Ytijdanbelnmmlaa.Ab
namespace Go.Proofs.Ytijdanbelnmmlaa.Ab
set_option linter.unusedVariables false
set_option linter.unusedSimpArgs false
open Go.RowKit
mutual
theorem Core.sz_enc:∀c:Core,1+c.sz≤c.enc.length
 |⟨k,v,d,ks⟩=>by
  have h1:=Core.szs_encs ks
  have h2:=LZ (zig v)
  rw [Core.sz,Core.enc]
  simp only [List.length_append,List.length_cons,List.length_nil,Qb]
  omega
theorem Core.szs_encs:∀l:List Core,Core.szs l≤(Core.encs l).length
 | [] =>by simp [Core.szs]
 |c::cs=>by
  have h1:=Core.sz_enc c
  have h2:=Core.szs_encs cs
  rw [Core.szs,Core.encs,List.length_append]
  omega
end
theorem VV (D:List Core) (hN:Core.szs D≤1048576) (hl:(AM (zig (D.length:Int))++Core.encs D).length +10≤60000):Dc ⟨D⟩=some (if (Book.mk D).valid =true then (Dz 3 (AM (zig (D.length:Int))++Core.encs D),0) else ([],1)):=by
 obtain⟨hL,hs,hN'⟩:=Mm hN
 unfold Dc
 rw [NV ⟨D⟩ hL hs,AA]
 cases hv:(Book.mk D).valid with
 |false=>simp
 | true=>
  have hv':=hv
  unfold Book.valid at hv
  rw [Bool.and_eq_true,List.all_eq_true] at hv
  have hlen:D.length≤24:=by have:=hv.1; simp at this; omega
  have hwf:∀c ∈ D,c.wf=true:=fun c hc=>Ml (by
   have:=hv.2 c hc
   unfold Jr at this
   rw [Bool.and_eq_true] at this
   exact this.1)
  simp only [Bool.not_true,Bool.false_eq_true,reduceIte]
  rw [Qc _ _ (by omega) (by omega) (by simp [Big]),AA,List.nil_append]
  have loop:∀ (post pre:List Core) (n:Nat) (a:List Int),D=pre++post→post.length+1≤n→a.length+16*Core.szs post≤16777300→(a++Core.encs post).length +10≤60000→
    Bi n ⟨D⟩ a ((List.length pre:Nat):Int)=some (Dz 3 (a++Core.encs post),0):=by
   intro post
   induction post with
   |nil=>
    intro pre n a h hn ha ha'
    obtain⟨n,rfl⟩:∃m,n=m+1:=⟨n - 1,by omega⟩
    simp only [Core.encs,List.append_nil] at ha' ⊢
    rw [Bi]
    simp only
    rw [DD h,if_neg (by simp),La _ _ (by omega),AA,if_neg (by omega)]
   |cons x post ihp=>
    intro pre n a h hn ha ha'
    rw [List.length_cons] at hn
    rw [Core.szs] at ha
    obtain⟨n,rfl⟩:∃m,n=m+1:=⟨n - 1,by omega⟩
    have hx:x ∈ D:=by rw [h]; simp
    have hxl:=Core.enc_len x (hwf x hx)
    have hxN:=(hs x hx).2
    have hf:20*x.nodes≤fuel:=by rw [A7]; unfold Big at hxN; omega
    have ih:=ihp (pre++[x]) n (a++x.enc) (BU h) (by omega) (by simp; omega) (by rw [List.append_assoc]; exact ha')
    rw [Bi]
    simp only
    rw [if_pos (C2 h),CP h,AA,VO x (hwf x hx) fuel a hf (by unfold Big; omega),AA,Be h hL,ih,Core.encs,List.append_assoc]
  have hz:=KP (n:=(D.length:Int)) (by omega) (by omega)
  have:=loop D [] fuel (AM (zig (D.length:Int))) (by simp) (by rw [A7]; omega) (by omega) hl
  exact this
section
variable {c:List Int}
theorem JS (n:Nat) (e:Int) (v5:Int × L33R) (i:Int) (D:List Core) (k:Int):AS (n+2) (⟨c,0,false⟩,e) v5 i true D k=some (⟨[]⟩,14):=by
 have h:Aw (n+1) i true D k (⟨c,0,false⟩,e) v5 false=some (⟨[]⟩,14):=by
  rw [Aw,if_neg (by simp)]; rfl
 rw [AS]
 simp only [Bool.not_true,ite_self]
 exact h
theorem FG (n:Nat) (v2:Int × Decoder) (i:Int) (D:List Core) (k:Int):Ad (n+2) ⟨c,0,false⟩ v2 i true D k=some (⟨D⟩,⟨c,i,true⟩):=by
 rw [Ad]
 simp only [Bool.not_true,ite_self]
 rw [BA,if_neg (by simp)]
theorem JT (n:Nat) (e:Int) (v5:Int × L33R) (i:Int) (D:List Core) (k:Int) (hl:c.length≤60000) (hD:Core.szs D≤1048576):Aw (n+1) i false D k (⟨c,0,false⟩,e) v5 false=some (if i=(c.length:Int)∧(D.length:Int)=v5.1 ∧(Book.mk D).valid =true then (⟨D⟩,0) else (⟨[]⟩,14)):=by
 obtain⟨hL,hs,-⟩:=Mm hD
 rw [Aw,if_neg (by simp)]
 unfold Eh CV
 simp only
 rw [if_pos (by simp),AA,Pq ⟨D⟩ hL hs]
 by_cases h1:i=(c.length:Int)
 ·rw [if_neg (by simpa using h1)]
  by_cases h2:(D.length:Int)=v5.1
  ·rw [if_neg (by simpa using h2),AA]
   cases h3:(Book.mk D).valid with
   |true=>rw [if_neg (by simp),if_pos ⟨h1,h2,rfl⟩]
   |false=>rw [if_pos (by simp),if_neg (fun h=>by simp at h)]
  ·rw [if_pos (by simpa using h2),if_pos trivial,if_neg (fun h=>h2 h.2.1)]
 ·rw [if_pos (by simpa using h1),if_pos trivial,if_neg (fun h=>h1 h.1)]
theorem get80 (hb:Byts c) (hl:c.length≤60000) {i:Int} {rest:List Int} (hr:Rd c i rest):VM c i rest (Ay fuel ⟨c,i,false⟩ 1) (BL fuel ⟨c,i,false⟩ 80):=
 Ro hb (by unfold Big; omega) 80 fuel fuel i rest (by omega) (by omega) (by rw [A7]; omega) (by rw [A7]; omega) hr
theorem Gd (n:Nat) (v1:L33R × Int) (v5:Int × L33R) (i:Int) (bad:Bool) (D:List Core) (k:Int) {x:Core} {r:L33R} (h:Ay fuel ⟨v1.1.b,i,bad⟩ 1=some (x,r)) (hD:D.length≤1000):Aw (n+1) i bad D k v1 v5 true=AS n v1 v5 r.att r.bad (D++[x]) (IntKind.i64.wrap (k+1)):=by
 rw [Aw,if_pos rfl,h,AA,CS (by simp; unfold Big; omega),AA,CP (l:=D++[⟨0,0,[],[]⟩]) (post:=[]) rfl,AA]
 have:Fq (D++[(⟨0,0,[],[]⟩:Core)]) ((List.length D:Nat):Int) x=some (D++[x]):=by
  have:=Og (pre:=D) (x:=x) (z:=(⟨0,0,[],[]⟩:Core)) (k:=0)
  simpa using this
 rw [this,AA]
theorem Py (hb:Byts c) (hl:c.length≤60000) (e:Int) (v5:Int × L33R) (hv:24<v5.1) (pre:List Int):∀ (m n:Nat) (D:List Core) (i:Int) (rest:List Int),D.length+m=25→c=pre++Core.encs D++rest→Rd c i rest→2*m+2≤n→AS n (⟨c,0,false⟩,e) v5 i false D (D.length:Int)=some (⟨[]⟩,14):=by
 intro m
 induction m with
 |zero=>
  intro n D i rest hD hc hr hn
  have hsz:=Core.szs_encs D
  have hcl:=congrArg List.length hc
  simp only [List.length_append] at hcl
  obtain⟨n,rfl⟩:∃q,n=q+2:=⟨n - 2,by omega⟩
  rw [AS]
  have e24:decide ((D.length:Int)≤24)=false:=by simp; omega
  simp only [e24,Bool.false_eq_true,reduceIte,ite_self]
  rw [JT n e v5 i D _ hl (by omega),if_neg]
  rintro ⟨-,-,h⟩
  unfold Book.valid at h
  simp at h
  omega
 | succ m ih=>
  intro n D i rest hD hc hr hn
  obtain⟨n,rfl⟩:∃q,n=q+2:=⟨n - 2,by omega⟩
  rw [AS,if_pos (by simp; omega),if_pos (by simp; omega)]
  rcases get80 hb hl hr with ⟨⟨x,r,e1,e2⟩,-⟩|⟨x,rest',e1,e2,-⟩
  ·obtain⟨n,rfl⟩:∃q,n=q+2:=⟨n - 2,by omega⟩
   rw [Bool.not_false,Gd _ _ _ _ _ _ _ e1 (by omega),e2]
   exact JS n e v5 _ _ _
  ·rw [Bool.not_false,Gd _ _ _ _ _ _ _ e2 (by omega),w64 (by omega) (by omega)]
   have:=ih n (D++[x]) (i+(x.enc.length:Int)) rest' (by simp; omega) (by rw [Hp,hc,e1]; simp) (by rw [e1] at hr; exact hr.app) (by omega)
   rw [List.length_append,List.length_singleton] at this
   exact this
theorem Rr (hb:Byts c) (hl:c.length≤60000) (e:Int) (v5:Int × L33R) (v2:Int × Decoder) (hv:1≤v5.1 ∧v5.1 ≤24) (h2:v2.1 =v5.1) (pre:List Int):∀ (m n n':Nat) (D:List Core) (i:Int) (rest:List Int),(D.length:Int)+(m:Int)=v5.1 →c=pre++Core.encs D++rest→Rd c i rest→2*m+2≤n→2*m+2≤n'→
  (AS n (⟨c,0,false⟩,e) v5 i false D (D.length:Int)=some (⟨[]⟩,14)∧∃B q,Ad n' ⟨c,0,false⟩ v2 i false D (D.length:Int)=some (B,q)∧q.bad=true)∨
  ∃D' i' rest',(D'.length:Int)=v5.1 ∧c=pre++Core.encs D'++rest'∧Rd c i' rest'∧
   AS n (⟨c,0,false⟩,e) v5 i false D (D.length:Int)=some (if i'=(c.length:Int)∧(D'.length:Int)=v5.1 ∧(Book.mk D').valid =true then (⟨D'⟩,0) else (⟨[]⟩,14))∧
   Ad n' ⟨c,0,false⟩ v2 i false D (D.length:Int)=some (⟨D'⟩,⟨c,i',false⟩):=by
 intro m
 induction m with
 | zero=>
  intro n n' D i rest hD hc hr hn hn'
  have hsz:=Core.szs_encs D
  have hcl:=congrArg List.length hc
  simp only [List.length_append] at hcl
  obtain⟨n,rfl⟩:∃q,n=q+2:=⟨n - 2,by omega⟩
  obtain⟨n',rfl⟩:∃q,n'=q+2:=⟨n' - 2,by omega⟩
  refine .inr ⟨D,i,rest,by omega,hc,hr,?_,?_⟩
  ·rw [AS,if_neg (by simp; omega)]
   exact JT n e v5 i D _ hl (by omega)
  ·rw [Ad,if_neg (by simp; omega),BA,if_neg (by simp)]
 | succ m ih=>
  intro n n' D i rest hD hc hr hn hn'
  obtain⟨n,rfl⟩:∃q,n=q+2:=⟨n - 2,by omega⟩
  obtain⟨n',rfl⟩:∃q,n'=q+2:=⟨n' - 2,by omega⟩
  rw [AS,if_pos (by simp; omega),if_pos (by simp; omega),Ad,if_pos (by simp; omega),BA,if_pos (by simp)]
  simp only
  rcases get80 hb hl hr with ⟨⟨x,r,e1,e2⟩,⟨x',q,e3,e4⟩⟩|⟨x,rest',e1,e2,e3⟩
  ·obtain⟨n,rfl⟩:∃q,n=q+2:=⟨n - 2,by omega⟩
   obtain⟨n',rfl⟩:∃q,n'=q+2:=⟨n' - 2,by omega⟩
   rw [Bool.not_false,Gd _ _ _ _ _ _ _ e1 (by omega),e2,e3,AA,CS (by simp; unfold Big; omega),AA,e4]
   exact .inl ⟨JS n e v5 _ _ _,_,_,FG n' v2 _ _ _,rfl⟩
  ·rw [Bool.not_false,Gd _ _ _ _ _ _ _ e2 (by omega),e3,AA,CS (by simp; unfold Big; omega),AA,w64 (by omega) (by omega)]
   have:=ih n n' (D++[x]) (i+(x.enc.length:Int)) rest' (by simp; omega) (by rw [Hp,hc,e1]; simp) (by rw [e1] at hr; exact hr.app) (by omega) (by omega)
   rw [List.length_append,List.length_singleton] at this
   exact this
end
theorem Jy (b:List Int) (hl:b.length≤1048576) (hb:Byts b):∃r,EM b=some r∧Df b=some r∧r.1.sz ≤Big:=by
 have nil:Book.sz ⟨[]⟩≤Big:=by simp [Book.sz,Core.szs]
 unfold EM De Df Cs
 rcases open_both hb hl with ⟨e,he,h1,h2⟩|⟨kind,c,hf,hc,hbc,h1,h2⟩
 ·refine⟨(⟨[]⟩,e),?_,?_,nil⟩
  ·rw [h1,AA,if_neg (by simpa using he)]
   unfold BO B4
   simp only
   rw [if_neg (by simp),if_pos (by simpa using he),AA,if_pos (by simpa using he)]
  ·rw [h2,AA,if_pos (by simpa using he)]; rfl
 ·by_cases hk:kind=3
  ·have hs:(Option.bind (DN b) fun v2001=>(if (decide (v2001.2.2 =0))=true then (BO v2001 (!decide (v2001.1 =3))) else (BO v2001 false)))=some ((⟨c,0,false⟩:L33R),0):=by
    rw [h1,AA,if_pos (by simp),hk]; rfl
   rw [hs,AA,if_neg (by simp),h2,AA,if_neg (by simp),if_neg (by simpa using hk)]
   simp only
   have hr:Rd c 0 c:=⟨[],by simp,by simp⟩
   have hcB:c.length≤Big:=by unfold Big; omega
   unfold EN
   obtain⟨n,hn⟩:∃q,fuel=q+100:=⟨fuel - 100,by rw [A7]⟩
   have ibad:∀ (o:Option (Book × Decoder)),(∃B q,o=some (B,q)∧q.bad=true)→(Option.bind (Option.bind o fun v9002=>(if v9002.2.bad =true then (some ((⟨[]⟩:Book),14)) else (Option.bind (Dc v9002.1) fun v12002=>(if (!decide (v12002.2 =0))=true then (BF v9002 true) else (Option.bind (Co v12002.1 b) fun v13005=>(BF v9002 (!v13005))))))) fun v2001=>some (v2001.1,v2001.2))=some ((⟨[]⟩:Book),14):=by
    rintro o ⟨B,q,rfl,h⟩
    rw [AA,if_pos h]; rfl
   obtain⟨v,r,w,q,e1,e2,e3⟩:=Js hbc hcB hr
   rw [e1,e2,AA,AA]
   rcases e3 with ⟨g1,g2⟩|⟨rest,g1,g2,rfl,rfl,rfl⟩
   ·refine⟨(⟨[]⟩,14),?_,?_,nil⟩
    ·rw [g1,hn]; exact JS (n+98) 0 (v,r) _ _ _
    ·refine ibad _ ?_
     unfold Aj BI
     simp only
     rw [g2,hn]
     split
     ·exact⟨_,_,FG (n+98) (w,q) _ _ _,rfl⟩
     ·split
      ·exact⟨_,_,FG (n+98) (w,q) _ _ _,rfl⟩
      ·exact⟨_,_,FG (n+98) (w,q) _ _ _,rfl⟩
   ·have hr1:Rd c (0+((AM (zig w)).length :Int)) rest:=(show Rd c 0 (AM (zig w)++rest) from ⟨[],by simpa using g1,by simp⟩).app
    have out:¬ (1≤w∧w≤24)→(∃B q,(if decide (w<1)=true then Aj ⟨c,0,false⟩ (w,⟨c,0+((AM (zig w)).length :Int),false⟩) true else Aj ⟨c,0,false⟩ (w,⟨c,0+((AM (zig w)).length :Int),false⟩) (decide (24<w)))=some (B,q)∧q.bad=true):=by
     intro h
     by_cases h1:w<1
     ·rw [if_pos (by simpa using h1)]
      unfold Aj BI
      rw [if_pos rfl,hn]
      exact⟨_,_,FG (n+98) _ _ _ _,rfl⟩
     ·rw [if_neg (by simpa using h1),show decide (24<w)=true from by simp; omega]
      unfold Aj BI
      rw [if_pos rfl,hn]
      exact⟨_,_,FG (n+98) _ _ _ _,rfl⟩
    by_cases hw:1≤w∧w≤24
    ·have hi:(if decide (w<1)=true then Aj ⟨c,0,false⟩ (w,⟨c,0+((AM (zig w)).length :Int),false⟩) true else Aj ⟨c,0,false⟩ (w,⟨c,0+((AM (zig w)).length :Int),false⟩) (decide (24<w)))=Ad fuel ⟨c,0,false⟩ (w,⟨c,0+((AM (zig w)).length :Int),false⟩) (0+((AM (zig w)).length :Int)) false [] 0:=by
      rw [if_neg (by simp; omega),show decide (24<w)=false from by simp; omega]
      unfold Aj BI
      rw [if_neg (by simp)]
     simp only
     rw [hi]
     have hB:=Rr hbc (by omega) 0 (w,⟨c,0+((AM (zig w)).length :Int),false⟩) (w,⟨c,0+((AM (zig w)).length :Int),false⟩) hw rfl (AM (zig w)) w.toNat fuel fuel [] (0+((AM (zig w)).length :Int)) rest (by simp; omega) (by simpa [Core.encs] using g1) hr1 (by rw [A7]; omega) (by rw [A7]; omega)
     rcases hB with ⟨k1,k2⟩|⟨D',i',rest',k1,k2,k3,k4,k5⟩
     ·exact⟨(⟨[]⟩,14),k1,ibad _ k2,nil⟩
     ·have hsz:=Core.szs_encs D'
      have hcl:=congrArg List.length k2
      simp only [List.length_append] at hcl
      have hbd:=k3.bd
      simp only at k1
      have hvl:AM (zig (D'.length:Int))=AM (zig w):=by rw [k1]
      refine⟨_,k4,?_,?_⟩
      ·simp only [List.length_nil,Int.natCast_zero] at k5
       have hE:=VV D' (by omega) (by rw [hvl,List.length_append]; omega)
       rw [k5,AA,if_neg (by simp)]
       simp only
       rw [hE]
       cases hv:(Book.mk D').valid with
       |false=>
        rw [if_neg (fun h=>Bool.noConfusion h),AA,if_pos (by simp),if_neg (fun h=>Bool.noConfusion h.2.2)]
        rfl
       | true=>
        obtain⟨t,t1,t2⟩:=I2 (Dz 3 (AM (zig (D'.length:Int))++Core.encs D')) b (by rw [Gc,hvl,List.length_append]; unfold Big; omega)
        have hiff:t=true↔i'=(c.length:Int):=by
         rw [t2,hf,hk,hvl]
         constructor
         ·intro h
          have:=congrArg List.length (Pw h)
          rw [List.length_append] at this
          omega
         ·intro h
          have hr0:rest'=[] :=List.eq_nil_of_length_eq_zero (by omega)
          rw [hr0,List.append_nil] at k2
          rw [← k2]
        have hX:∀X:Book × Int,(if i'=(c.length:Int)∧(D'.length:Int)=w∧true=true then X else (⟨[]⟩,14))=(if t=true then X else (⟨[]⟩,14)):=by
         intro X
         by_cases ht:t=true
         ·rw [if_pos ht,if_pos ⟨hiff.1 ht,k1,rfl⟩]
         ·rw [if_neg ht,if_neg (fun h=>ht (hiff.2 h.1))]
        rw [hX,if_pos rfl,AA,if_neg (by simp)]
        simp only
        rw [t1]
        cases t <;> rfl
      ·split
       ·show Core.szs D'≤Big
        unfold Big; omega
       ·exact nil
    ·refine⟨(⟨[]⟩,14),?_,ibad _ (out hw),nil⟩
     simp only
     by_cases h1:24<w
     ·exact Py hbc (by omega) 0 (w,⟨c,0+((AM (zig w)).length :Int),false⟩) h1 (AM (zig w)) 25 fuel [] (0+((AM (zig w)).length :Int)) rest rfl (by simpa [Core.encs] using g1) hr1 (by rw [A7]; omega)
     ·rw [hn,AS,if_neg (by simp; omega),JT _ _ _ _ [] _ (by omega) (by simp [Core.szs]),if_neg]
      rintro ⟨-,-,h⟩
      simp [Book.valid] at h
  ·refine⟨(⟨[]⟩,14),?_,?_,nil⟩
   ·rw [h1,AA,if_pos (by simp),show decide (kind=3)=false from by simpa using hk]
    rfl
   ·rw [h2,AA,if_neg (by simp),if_pos (by simpa using hk)]; rfl
end Go.Proofs.Ytijdanbelnmmlaa.Ab
namespace Go.Proofs.Ytijdanbelnmmlaa.Ab
set_option linter.unusedVariables false
set_option linter.unusedSimpArgs false
open Go.RowKit
theorem VW {n:Nat} {K:Option Bool} (h:n≤1048576→K=some true):(if (decide ((1048576:Int)<((n:Nat):Int)))=true then some true else K)=some true:=by
 by_cases h1:n≤1048576
 ·rw [decide_eq_false (by omega),if_neg (by simp)]; exact h h1
 ·rw [decide_eq_true (by omega),if_pos rfl]
theorem JP (a0:List Int) (h0:HL ((slD u8D a0))):Ct a0=some true:=by
 unfold Ct
 refine VW (n:=a0.length) fun z0=>?_
 have byts:Byts a0:=fun x hx=>by
  simp only [slD,HL,D.ok] at h0
  have:=Iw h0.1.2 hx
  simp only [u8D,HL,D.ok,Lit.wf] at this
  have:=this.1
  simp at this
  exact this
 have b0:a0.length≤Big:=by unfold Big; omega
 obtain⟨r,hs,hi,hr⟩:=Jy a0 (by omega) byts
 have ft0:Dd a0=some a0:=Pn a0 b0
 have fe0:FF a0 a0=some true:=(Lx a0 a0 b0).true rfl
 have br0:=hr
 have ge0:Es r.1 r.1 =some true:=Oh r.1 br0
 have fm0:EB a0 1=some (((1+cnts one a0:Nat):Int),mks mkBy one (1) a0):=NP a0 (1) b0 (by have:=Hn (c:=one) (b:=1) (l:=a0) (fun x=>Pm); have:=b0; unfold Big KB at*; omega)
 have gm0:EZ r.1 1=some (((1+r.1.cntV :Nat):Int),(Book.mkV (1) r.1).defs):=Oi r.1 (1) br0 (by have:=Book.cntV_le r.1; have:=br0; unfold Big KB at*; omega)
 have gh0:Dx ⟨(Book.mkV (1) r.1).defs⟩ 1=some (((1+r.1.cntV :Nat):Int)):=Oj r.1 (1) br0 (by have:=Book.cntV_le r.1; have:=br0; unfold Big KB at*; omega)
 simp only [AA,hs,hi,ft0,fe0,ge0,fm0,gm0,gh0,Bc,BG,Bd,NX,beq_self_eq_true,W0,eq_self,decide_true,decide_false,Bool.not_true,Bool.not_false,Bool.false_eq_true,reduceIte]
end Go.Proofs.Ytijdanbelnmmlaa.Ab
