/-
  Core terms and books as bytes: both programs append the same. No program is in sight.
-/
import Derived.Test.YtijdanbelnmmlaaPlNum
import Derived.Test.YtijdanbelnmmlaaPlBook
import Derived.Test.YtijdanbelnmmlaaModB
namespace Go.Proofs.Ytijdanbelnmmlaa.Ab
set_option linter.unusedVariables false
set_option linter.unusedSimpArgs false
open Go.RowKit
def u8s (l:List Int):List Int:=l.map fun x=>IntKind.u8.wrap x
mutual
def Core.enc:Core→List Int
 |⟨k,v,d,ks⟩=>([IntKind.u8.wrap k] ++AM (zig v))++[IntKind.u8.wrap (d.length:Int)] ++u8s d++[IntKind.u8.wrap (ks.length:Int)] ++Core.encs ks
def Core.encs:List Core→List Int
 | [] =>[]
 |c::cs=>Core.enc c++Core.encs cs
end
theorem Core.enc_eq (c:Core):c.enc=([IntKind.u8.wrap c.kind] ++AM (zig c.value))++[IntKind.u8.wrap (c.data.length:Int)] ++u8s c.data++[IntKind.u8.wrap (c.kids.length:Int)] ++Core.encs c.kids:=by cases c; rw [Core.enc]
theorem I1 {c:Core} (h:Ea c=true): -2147483648≤c.value∧c.value≤2147483647:=by
 unfold Ea at h
 simp only [Bool.and_eq_true] at h
 have:=h.1.2
 unfold LS at this
 repeat' split at this
 all_goals simp only [decide_eq_true_eq] at this
 all_goals omega
theorem NW {c:Core} (h:Ea c=true):c.data.length≤4:=by
 unfold Ea at h
 simp only [Bool.and_eq_true] at h
 exact HO h.1.1.2
theorem Qb (l:List Int):(u8s l).length =l.length:=by simp [u8s]
mutual
theorem Core.enc_len:∀c:Core,c.wf=true→c.enc.length≤16*(1+c.sz)
 |⟨k,v,d,ks⟩,h=>by
  rw [Core.wf,Bool.and_eq_true] at h
  have hv:=I1 h.1
  have hz:=KP hv.1 hv.2
  have:=Core.encs_len ks h.2
  rw [Core.enc,Core.sz]
  simp only [List.length_append,List.length_cons,List.length_nil,Qb]
  simp only at hz
  omega
theorem Core.encs_len:∀l:List Core,Core.wfs l=true→(Core.encs l).length ≤16*Core.szs l
 | [],_=>by simp [Core.encs]
 |c::cs,h=>by
  rw [Core.wfs,Bool.and_eq_true] at h
  have:=Core.enc_len c h.1
  have:=Core.encs_len cs h.2
  rw [Core.encs,Core.szs,List.length_append]
  omega
end
theorem Hp (x:Core):∀pre:List Core,Core.encs (pre++[x])=Core.encs pre++x.enc
 | [] =>by simp [Core.encs]
 |c::cs=>by rw [List.cons_append,Core.encs,Core.encs,Hp x cs,List.append_assoc]
theorem VO:∀ (c:Core),c.wf=true→∀ (n:Nat) (a:List Int),20*c.nodes≤n→a.length+16*(1+c.sz)≤Big→Ce n a c=some (a++c.enc):=by
 refine Core.ind fun c ih hw n a hn ha=>?_
 rw [Core.wf_eq,Bool.and_eq_true] at hw
 obtain⟨hno,hks⟩:=hw
 have hv:=I1 hno
 have hd:=NW hno
 have hz:=KP hv.1 hv.2
 have hnd:=c.nodes_eq
 have hsz:=c.sz_eq
 have hks1:=Core.len_szs c.kids
 obtain⟨n,rfl⟩:∃m,n=m+1:=⟨n - 1,by omega⟩
 rw [Ce,CS (by simp; omega),AA,Qc _ _ hv.1 hv.2 (by simp; omega),AA]
 obtain⟨n,rfl⟩:∃m,n=m+1:=⟨n - 1,by omega⟩
 rw [DG]
 rw [CS (by simp; omega),AA]
 generalize hb0:a++[IntKind.u8.wrap c.kind] ++AM (zig c.value)++[IntKind.u8.wrap ((List.length c.data:Nat):Int)] =b0
 have hb0l:b0.length≤a.length+7:=by rw [← hb0]; simp; omega
 have kids:∀ (post pre:List Core) (n:Nat) (b:List Int),c.kids=pre++post→20*Core.nodess post+1≤n→b.length+16*Core.szs post≤Big→
   Bh n c b ((List.length pre:Nat):Int)=some (b++Core.encs post):=by
  intro post
  induction post with
  |nil=>
   intro pre n b h hn hb
   obtain⟨n,rfl⟩:∃m,n=m+1:=⟨n - 1,by omega⟩
   rw [Bh,DD h]
   simp [Core.encs]
  |cons x post ihp=>
   intro pre n b h hn hb
   rw [Core.nodess] at hn
   rw [Core.szs] at hb
   obtain⟨n,rfl⟩:∃m,n=m+1:=⟨n - 1,by omega⟩
   have hx:x ∈ c.kids:=by rw [h]; simp
   have hxw:=KN hx hks
   have hxl:=Core.enc_len x hxw
   have hxn:=x.nodes_pos
   rw [Bh,if_pos (C2 h),CP h,AA,ih x hx hxw n b (by omega) (by omega),AA,Be h (by unfold Big at*; omega),ihp (pre++[x]) n (b++x.enc) (BU h) (by omega) (by simp; omega),Core.encs,List.append_assoc]
 have data:∀ (post pre:List Int) (n:Nat) (b:List Int),c.data=pre++post→20*Core.nodess c.kids+1+post.length+1≤n→b.length+post.length+1+16*Core.szs c.kids≤Big→
   Bg n c b ((List.length pre:Nat):Int)=some (b++u8s post++[IntKind.u8.wrap ((List.length c.kids:Nat):Int)] ++Core.encs c.kids):=by
  intro post
  induction post with
  |nil=>
   intro pre n b h hn hb
   obtain⟨n,rfl⟩:∃m,n=m+1:=⟨n - 1,by omega⟩
   rw [Bg,DD h,if_neg (by simp),CS (by simp; omega),AA]
   rw [show (0:Int)=((List.length ([] :List Core):Nat):Int) from rfl,kids c.kids [] n (b++[IntKind.u8.wrap ((List.length c.kids:Nat):Int)]) (by simp) (by omega) (by simp; omega)]
   simp [u8s]
  |cons x post ihp=>
   intro pre n b h hn hb
   rw [List.length_cons] at hn hb
   obtain⟨n,rfl⟩:∃m,n=m+1:=⟨n - 1,by omega⟩
   rw [Bg,if_pos (C2 h),CP h,AA,CS (by simp; omega),AA,Be h (by unfold Big at*; omega),ihp (pre++[x]) n (b++[IntKind.u8.wrap x]) (BU h) (by omega) (by simp; omega)]
   simp [u8s]
 rw [show (0:Int)=((List.length ([] :List Int):Nat):Int) from rfl,data c.data [] n b0 (by simp) (by omega) (by omega),Core.enc_eq,← hb0]
 simp
end Go.Proofs.Ytijdanbelnmmlaa.Ab
