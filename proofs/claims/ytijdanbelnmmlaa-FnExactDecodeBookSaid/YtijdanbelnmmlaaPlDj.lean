/-
  Numbers that are read: both sides read what was written; what the reference reads was written. No program is in sight.
-/
import Derived.Test.YtijdanbelnmmlaaPlNum
import Derived.Test.YtijdanbelnmmlaaModD
import Derived.Test.YtijdanbelnmmlaaPlEnc
namespace Go.Proofs.Ytijdanbelnmmlaa.Ab
set_option linter.unusedVariables false
set_option linter.unusedSimpArgs false
open Go.RowKit
def Rd (b:List Int) (at':Int) (rest:List Int):Prop:=∃pre,b=pre++rest∧at'=(pre.length:Int)
def Byts (b:List Int):Prop:=∀x ∈ b,0≤x∧x≤255
theorem Rd.next {b:List Int} {i x:Int} {rest:List Int} (h:Rd b i (x::rest)):Rd b (i+1) rest:=by
 obtain⟨pre,h1,h2⟩:=h
 exact⟨pre++[x],by rw [h1]; simp,by rw [h2]; simp⟩
theorem Rd.app {b:List Int} {i:Int}:∀ {a rest:List Int},Rd b i (a++rest)→Rd b (i+(a.length:Int)) rest:=fun {a rest} h=>by
 obtain⟨pre,h1,h2⟩:=h
 exact⟨pre++a,by rw [h1]; simp,by rw [h2]; simp⟩
theorem Rd.bd {b:List Int} {i:Int} {rest:List Int} (h:Rd b i rest):0≤i∧i+(rest.length:Int)=(b.length:Int):=by
 obtain⟨pre,h1,h2⟩:=h
 rw [h1,h2,List.length_append]; omega
theorem Rd.at' {b:List Int} {i x:Int} {rest:List Int} (h:Rd b i (x::rest)):at? b i=some x:=by
 obtain⟨pre,h1,h2⟩:=h
 rw [h2]; exact CP h1
theorem Rd.byt {b:List Int} {i x:Int} {rest:List Int} (h:Rd b i (x::rest)) (hb:Byts b):0≤x∧x≤255:=by
 obtain⟨pre,h1,h2⟩:=h
 exact hb x (by rw [h1]; simp)
theorem Mn {b:List Int} {i:Int} (h:Rd b i []):A0 ⟨b,i,false⟩=some (0,⟨b,i,true⟩):=by
 have:=h.bd
 simp only [List.length_nil] at this
 unfold A0 C1
 rw [if_neg (by simp),if_pos (by simp; omega)]
theorem IR {b:List Int} {i x:Int} {rest:List Int} (h:Rd b i (x::rest)) (hb:Byts b) (hl:b.length≤Big):A0 ⟨b,i,false⟩=some (x,⟨b,i+1,false⟩):=by
 have h1:=h.bd
 rw [List.length_cons] at h1
 have h2:=h.byt hb
 unfold A0 C1
 have hl':(b.length:Int)≤4294967296:=by unfold Big at hl; omega
 rw [if_neg (by simp),if_neg (by simp; omega)]
 simp only
 rw [w64 (n:=i+1) (by omega) (by omega),w64 (n:=i+1 - 1) (by omega) (by omega),show i+1 - 1=i from by omega,h.at',AA,w64 (by omega) (by omega)]
def zag (z:Nat):Int:=if z % 2=1 then -((z / 2:Nat):Int) - 1 else ((z / 2:Nat):Int)
theorem VJ (z:Nat):zig (zag z)=z:=by
 unfold zag zig
 split <;> split <;> omega
theorem ZZ {k:Nat} (h:k<5):(2:Int) ^ min (Int.toNat (IntKind.i64.wrap (7*(k:Int)))) (IntKind.bits IntKind.u64)=((128 ^ k:Nat):Int):=by
 rcases k with _|_|_|_|_|k
 ·rfl
 ·rfl
 ·rfl
 ·rfl
 ·rfl
 ·omega
theorem Rl {n:Int} (h:0≤n) (h2:n≤4294967295*4294967296):IntKind.u64.wrap n=n:=by
 rw [IntKind.wrap_u64]; omega
theorem W1 (x:Nat) (h:x≤68719476736):bits .xor .i64 (if IntKind.signed IntKind.i64=true then -1 else IntKind.max IntKind.i64) (x:Int)= -(x:Int) - 1:=by
 have e:(if IntKind.signed IntKind.i64=true then (-1:Int) else IntKind.max IntKind.i64)= -1:=rfl
 rw [e]
 unfold bits
 show IntKind.i64.wrap ((BitVec.ofInt 64 (-1) ^^^ BitVec.ofInt 64 (x:Int)).toNat :Int)=_
 have e1:BitVec.ofInt 64 (-1)=BitVec.allOnes 64:=by decide
 rw [e1,BitVec.allOnes_xor,BitVec.toNat_not,BitVec.toNat_ofInt]
 have e2:((x:Int) % (2 ^ 64:Nat)).toNat =x:=by omega
 rw [e2]
 have:((2 ^ 64 - 1 - x:Nat):Int)=18446744073709551615 - (x:Int):=by omega
 rw [this]
 unfold IntKind.wrap
 simp [IntKind.bits,IntKind.signed]
 omega
theorem LU (b:List Int) (j:Int) (acc k x:Nat) (v:Int) (at0:L33R) (hb0:at0.b=b) (hk:k<5) (hx:x<128) (ha:acc<128 ^ k) (bad:Bool) (w:Int × L33R) (hw:w.1 =(x:Int)) (hwj:w.2.att =j):
  CI at0 (acc:Int) (k:Int) w bad=some (zag (acc+x*128 ^ k),⟨b,j,bad|| !decide (-2147483648≤zag (acc+x*128 ^ k)∧zag (acc+x*128 ^ k)≤2147483647)⟩):=by
 have hp:128 ^ k≤268435456:=by
  rcases k with _|_|_|_|_|k
  ·decide
  ·decide
  ·decide
  ·decide
  ·decide
  ·omega
 have hm:x*128 ^ k≤127*268435456:=Nat.mul_le_mul (by omega) hp
 have ha':acc<268435456:=by omega
 have hpk:=ZZ hk
 have hmI:(x:Int)*((128 ^ k:Nat):Int)=((x*128 ^ k:Nat):Int):=by rw [Int.natCast_mul]
 generalize x*128 ^ k=M at*
 have e1:IntKind.u64.wrap ((acc:Int)+IntKind.u64.wrap ((Int.tmod (IntKind.u64.wrap w.1) 128)*2 ^ min (Int.toNat (IntKind.i64.wrap (7*(k:Int)))) (IntKind.bits IntKind.u64)))=((acc+M:Nat):Int):=by
  rw [hw,Rl (n:=(x:Int)) (by omega) (by omega),HQ,Nat.mod_eq_of_lt hx,hpk,hmI,Rl (n:=(M:Int)) (by omega) (by omega),Rl (n:=(acc:Int)+(M:Int)) (by omega) (by omega)]; omega
 unfold CI Ck
 simp only [e1,GC,AA,hb0,hwj]
 have hT:acc+M≤68719476736:=by omega
 generalize acc+M=T at*
 have e2:(2:Int) ^ min (Int.toNat 1) (IntKind.bits IntKind.u64)=2:=rfl
 have e3:Int.tmod (T:Int) 2=((T % 2:Nat):Int):=by rw [Int.tmod_eq_emod_of_nonneg (by omega)]; omega
 have e4:((T:Int)) / 2=((T / 2:Nat):Int):=by omega
 simp only [e2,e3,e4]
 rw [w64 (n:=((T / 2:Nat):Int)) (by omega) (by omega)]
 have key:∀y:Int,(if (!decide (-2147483648≤y∧y≤2147483647))=true then some (y,(⟨b,j,true⟩:L33R)) else some (y,⟨b,j,bad⟩))=some (y,⟨b,j,bad|| !decide (-2147483648≤y∧y≤2147483647)⟩):=fun y=>by
  by_cases h: -2147483648≤y∧y≤2147483647
  ·rw [if_neg (by simp [h])]; simp [h]
  ·rw [if_pos (by simp; omega)]
   have:decide (-2147483648≤y∧y≤2147483647)=false:=by simp; omega
   rw [this]; simp
 by_cases h:T % 2=1
 ·rw [if_pos (by simp [h])]
  have hz:zag T= -((T / 2:Nat):Int) - 1:=by unfold zag; rw [if_pos h]
  rw [W1 _ (by omega),← hz]; exact key _
 ·rw [if_neg (by simp; omega)]
  have hz:zag T=((T / 2:Nat):Int):=by unfold zag; rw [if_neg h]
  rw [← hz]; exact key _
theorem VK {x:Int} (h:0≤x∧x≤255):IntKind.u64.wrap x=x:=Rl h.1 (by omega)
theorem Rm (a0:L33R) (i:Int) (acc k n:Nat) {x:Int} {rest:List Int} (hr:Rd a0.b i (x::rest)) (hb:Byts a0.b) (hl:a0.b.length≤Big) (hk:k<5) (hx:¬x<128) (ha:acc<128 ^ k):
  Aa (n+1) a0 i false (acc:Int) (k:Int)=Aa n a0 (i+1) false ((acc+(x.toNat - 128)*128 ^ k:Nat):Int) ((k+1:Nat):Int):=by
 have hB:=hr.byt hb
 have hp:128 ^ k≤268435456:=by
  rcases k with _|_|_|_|_|k
  ·decide
  ·decide
  ·decide
  ·decide
  ·decide
  ·omega
 obtain⟨y,rfl⟩:∃y:Nat,x=((y+128:Nat):Int):=⟨(x - 128).toNat,by omega⟩
 have hy:y<128:=by omega
 have hm:y*128 ^ k≤127*268435456:=Nat.mul_le_mul (by omega) hp
 have hpk:=ZZ hk
 have hmI:(y:Int)*((128 ^ k:Nat):Int)=((y*128 ^ k:Nat):Int):=by rw [Int.natCast_mul]
 have e0:(((y+128:Nat):Int)).toNat - 128=y:=by omega
 have e1:Int.tmod ((y+128:Nat):Int) 128=(y:Int):=by rw [HQ]; omega
 rw [Aa,if_pos (by simp; omega),IR hr hb hl,AA]
 have hn:nn? (IntKind.i64.wrap (7*(k:Int)))=some ():=by
  unfold nn?
  rw [w64 (by omega) (by omega),if_pos (by omega)]
 rw [hn,AA]
 simp only
 rw [VK hB,if_neg (by simp; omega),e1,hpk,hmI,e0]
 generalize y*128 ^ k=M at*
 have ha':acc<268435456:=by omega
 rw [Rl (n:=(M:Int)) (by omega) (by omega),Rl (n:=(acc:Int)+(M:Int)) (by omega) (by omega),w64 (by omega) (by omega)]
 congr 1
theorem TS (a0:L33R) (i:Int) (acc k n:Nat) {x:Int} {rest:List Int} (hr:Rd a0.b i (x::rest)) (hb:Byts a0.b) (hl:a0.b.length≤Big) (hk:k<5) (hx:x<128) (ha:acc<128 ^ k):
  Aa (n+1) a0 i false (acc:Int) (k:Int)=some (zag (acc+x.toNat*128 ^ k),⟨a0.b,i+1,decide (x=0∧0<k)|| !decide (-2147483648≤zag (acc+x.toNat*128 ^ k)∧zag (acc+x.toNat*128 ^ k)≤2147483647)⟩):=by
 have hB:=hr.byt hb
 have hfin:=fun bad=>LU a0.b (i+1) acc k x.toNat 0 a0 rfl hk (by omega) ha bad (x,⟨a0.b,i+1,false⟩) (by simp only; omega) rfl
 rw [Aa,if_pos (by simp; omega),IR hr hb hl,AA]
 have hn:nn? (IntKind.i64.wrap (7*(k:Int)))=some ():=by
  unfold nn?
  rw [w64 (by omega) (by omega),if_pos (by omega)]
 rw [hn,AA]
 simp only
 rw [VK hB,if_pos (by simpa using hx)]
 unfold Bp
 by_cases h0:x=0
 ·rw [if_pos (by simpa using h0)]
  by_cases hk0:0<k
  ·rw [if_pos (by simp; omega),hfin true]
   have:decide (x=0∧0<k)=true:=by simp [h0,hk0]
   rw [this]
  ·rw [if_neg (by simp; omega),hfin false]
   have:decide (x=0∧0<k)=false:=by simp; omega
   rw [this]
 ·rw [if_neg (by simpa using h0),if_neg (by simp),hfin false]
  have:decide (x=0∧0<k)=false:=by simp [h0]
  rw [this]
theorem Qa (k:Nat):128 ^ (k+1)=128 ^ k*128:=Nat.pow_succ ..
theorem W2 {acc y k:Nat} (ha:acc<128 ^ k) (hy:y<128):acc+y*128 ^ k<128 ^ (k+1):=by
 have:y*128 ^ k≤127*128 ^ k:=Nat.mul_le_mul_right _ (by omega)
 rw [Qa]; omega
end Go.Proofs.Ytijdanbelnmmlaa.Ab
namespace Go.Proofs.Ytijdanbelnmmlaa.Ab
set_option linter.unusedVariables false
set_option linter.unusedSimpArgs false
open Go.RowKit
theorem TT {k:Nat} (h:k<5):128 ^ k≤268435456:=by
 rcases k with _|_|_|_|_|k
 ·decide
 ·decide
 ·decide
 ·decide
 ·decide
 ·omega
theorem Za (z:Nat):Int.tdiv (z:Int) 2=((z / 2:Nat):Int):=by
 rw [Int.tdiv_eq_ediv_of_nonneg (by omega)]; omega
theorem Zb (z:Nat):Int.tmod (z:Int) 2=((z % 2:Nat):Int):=by
 rw [Int.tmod_eq_emod_of_nonneg (by omega)]; omega
theorem Mo {b:List Int} (hl:b.length≤Big) {at0:Int} (h0:0≤at0∧at0≤4294967296) (acc w i:Int) (n:Nat) (h:(b.length:Int)≤i∨at0+5≤i):AW (n+2) b at0 acc w i=some (0,0,14):=by
 rw [AW,w64 (by omega) (by omega)]
 by_cases h1:i<(b.length:Int)
 ·rw [if_pos (by simpa using h1),A6,if_neg (by simp; omega)]
 ·rw [if_neg (by simpa using h1),A6,if_neg (by simp)]
theorem Rn {b:List Int} (hb:Byts b) (hl:b.length≤Big) {at0 i x:Int} {rest:List Int} (h0:0≤at0) {k acc:Nat} (hi:i=at0+(k:Int)) (hr:Rd b i (x::rest)) (hk:k<5) (hx:¬x<128) (ha:acc<128 ^ k) (n:Nat):
  AW (n+2) b at0 (acc:Int) ((128 ^ k:Nat):Int) i=AW n b at0 ((acc+(x.toNat - 128)*128 ^ k:Nat):Int) ((128 ^ (k+1):Nat):Int) (i+1):=by
 have hB:=hr.byt hb
 have hd:=hr.bd
 rw [List.length_cons] at hd
 have hp:=TT hk
 have hl':(b.length:Int)≤4294967296:=by unfold Big at hl; omega
 obtain⟨y,rfl⟩:∃y:Nat,x=((y+128:Nat):Int):=⟨(x - 128).toNat,by omega⟩
 have hm:y*128 ^ k≤127*268435456:=Nat.mul_le_mul (by omega) hp
 have hmI:(y:Int)*((128 ^ k:Nat):Int)=((y*128 ^ k:Nat):Int):=by rw [Int.natCast_mul]
 have e0:(((y+128:Nat):Int)).toNat - 128=y:=by omega
 have e1:Int.tmod ((y+128:Nat):Int) 128=(y:Int):=by rw [HQ]; omega
 have e2:((128 ^ k:Nat):Int)*128=((128 ^ (k+1):Nat):Int):=by rw [Qa]; omega
 rw [AW,if_pos (by simp; omega),w64 (n:=at0+5) (by omega) (by omega),A6,if_pos (by simp; omega),hr.at',AA,AA,if_pos (by simp; omega),e1,w64 (n:=(y:Int)) (by omega) (by omega),hmI,e0]
 have ha':acc<268435456:=by omega
 rw [e2,w64 (n:=i+1) (by omega) (by omega)]
 have hq:128 ^ (k+1)≤34359738368:=by rw [Qa]; omega
 generalize 128 ^ (k+1)=Q at*
 generalize y*128 ^ k=M at*
 rw [w64 (n:=(M:Int)) (by omega) (by omega),w64 (n:=(acc:Int)+(M:Int)) (by omega) (by omega),w64 (n:=(Q:Int)) (by omega) (by omega)]
 congr 1
theorem TU {b:List Int} (hb:Byts b) (hl:b.length≤Big) {at0 i x:Int} {rest:List Int} (h0:0≤at0) {k acc:Nat} (hi:i=at0+(k:Int)) (hr:Rd b i (x::rest)) (hk:k<5) (hx:x<128) (ha:acc<128 ^ k) (n:Nat):
  AW (n+2) b at0 (acc:Int) ((128 ^ k:Nat):Int) i=some (if (x=0∧0<k)∨¬ (-2147483648≤zag (acc+x.toNat*128 ^ k)∧zag (acc+x.toNat*128 ^ k)≤2147483647) then (0,0,14) else (zag (acc+x.toNat*128 ^ k),i+1,0)):=by
 have hB:=hr.byt hb
 have hd:=hr.bd
 rw [List.length_cons] at hd
 have hp:=TT hk
 have hl':(b.length:Int)≤4294967296:=by unfold Big at hl; omega
 obtain⟨y,rfl⟩:∃y:Nat,x=(y:Int):=⟨x.toNat,by omega⟩
 have hm:y*128 ^ k≤127*268435456:=Nat.mul_le_mul (by omega) hp
 have hmI:(y:Int)*((128 ^ k:Nat):Int)=((y*128 ^ k:Nat):Int):=by rw [Int.natCast_mul]
 have e1:Int.tmod (y:Int) 128=(y:Int):=by rw [HQ]; omega
 have ha':acc<268435456:=by omega
 have hj:∀v:Int,Bq b at0 i v=some (if ((y:Int)=0∧0<k)∨¬ (-2147483648≤v∧v≤2147483647) then (0,0,14) else (v,i+1,0)):=fun v=>by
  have hf:∀q:Bool,BR i v q=some (if q=true then (0,0,14) else (v,i+1,0)):=fun q=>by
   unfold BR
   rw [w64 (by omega) (by omega)]
   cases q <;> rfl
  unfold Bq
  rw [hr.at',AA,Ok,AA,hf,hf]
  by_cases h1:(y:Int)=0
  ·rw [if_pos (by simpa using h1)]
   by_cases h2:0<k
   ·rw [if_pos (by simp; omega),if_pos rfl,if_pos (.inl ⟨h1,h2⟩)]
   ·rw [if_neg (by simp; omega)]
    by_cases h3: -2147483648≤v∧v≤2147483647
    ·rw [if_neg (by simp [h3]),if_neg (by omega)]
    ·rw [if_pos (by simp; omega),if_pos (.inr h3)]
  ·rw [if_neg (by simpa using h1)]
   by_cases h3: -2147483648≤v∧v≤2147483647
   ·rw [if_neg (by simp [h3]),if_neg (by omega)]
   ·rw [if_pos (by simp; omega),if_pos (.inr h3)]
 rw [AW,if_pos (by simp; omega),w64 (n:=at0+5) (by omega) (by omega),A6,if_pos (by simp; omega),hr.at',AA,AA,if_neg (by simp; omega),e1,w64 (n:=(y:Int)) (by omega) (by omega),hmI,Int.toNat_natCast]
 generalize y*128 ^ k=M at*
 rw [w64 (n:=(M:Int)) (by omega) (by omega),show (acc:Int)+(M:Int)=((acc+M:Nat):Int) from by omega]
 have hT:acc+M≤68719476736:=by omega
 generalize acc+M=T at*
 rw [w64 (n:=(T:Int)) (by omega) (by omega),Zb,Za,w64 (n:=((T / 2:Nat):Int)) (by omega) (by omega)]
 by_cases h:T % 2=1
 ·rw [if_pos (by simp [h]),w64 (n:=0 - ((T / 2:Nat):Int)) (by omega) (by omega),w64 (by omega) (by omega),hj]
  have hz:zag T=0 - ((T / 2:Nat):Int) - 1:=by unfold zag; rw [if_pos h]; omega
  rw [hz]
 ·rw [if_neg (by simp; omega),hj]
  have hz:zag T=((T / 2:Nat):Int):=by unfold zag; rw [if_neg h]
  rw [hz]
theorem Ow {b:List Int} (hb:Byts b) (hl:b.length≤Big) (a0:L33R) (hb0:a0.b=b) {at0:Int} (h0:0≤at0∧at0≤4294967296):∀ (m k acc n n':Nat) (i:Int) (rest:List Int),5 - k=m→k≤5→i=at0+(k:Int)→Rd b i rest→acc<128 ^ k→m<n→2*m+2≤n'→
  ∃v r w,Aa n a0 i false (acc:Int) (k:Int)=some (v,r)∧AW n' b at0 (acc:Int) ((128 ^ k:Nat):Int) i=some w∧
   ((r.bad=true∧w.2.2 ≠0)∨(∃z rest',rest=AM z++rest'∧(k=0∨0<z)∧v=zag (acc+z*128 ^ k)∧(-2147483648≤v∧v≤2147483647)∧r=⟨b,i+((AM z).length :Int),false⟩∧w=(v,i+((AM z).length :Int),0))):=by
 intro m
 induction m with
 |zero=>
  intro k acc n n' i rest hm hk hi hr ha hn hn'
  obtain⟨n,rfl⟩:∃q,n=q+1:=⟨n - 1,by omega⟩
  obtain⟨n',rfl⟩:∃q,n'=q+2:=⟨n' - 2,by omega⟩
  rw [Aa,if_neg (by simp; omega),Mo hl h0 _ _ _ _ (.inr (by omega))]
  exact⟨_,_,_,rfl,rfl,.inl ⟨rfl,by simp⟩⟩
 | succ m ih=>
  intro k acc n n' i rest hm hk hi hr ha hn hn'
  obtain⟨n,rfl⟩:∃q,n=q+1:=⟨n - 1,by omega⟩
  obtain⟨n',rfl⟩:∃q,n'=q+2:=⟨n' - 2,by omega⟩
  have hk5:k<5:=by omega
  subst hb0
  cases rest with
  | nil=>
   have hd:=hr.bd
   simp only [List.length_nil] at hd
   have hn:nn? (IntKind.i64.wrap (7*(k:Int)))=some ():=by
    unfold nn?
    rw [w64 (by omega) (by omega),if_pos (by omega)]
   have hfin:=fun bad=>LU a0.b i acc k 0 0 a0 rfl hk5 (by omega) ha bad (0,⟨a0.b,i,true⟩) rfl rfl
   rw [Aa,if_pos (by simp; omega),Mn hr,AA,hn,AA,Mo hl h0 _ _ _ _ (.inl (by omega))]
   simp only
   rw [VK (by omega),if_pos (by simp),if_pos (by simp)]
   unfold Bp
   simp only [hfin,ite_self]
   exact⟨_,_,_,rfl,rfl,.inl ⟨by simp,by simp⟩⟩
  | cons x rest=>
   have hB:=hr.byt hb
   by_cases hx:x<128
   ·rw [TS a0 i acc k n hr hb hl hk5 hx ha,TU hb hl h0.1 hi hr hk5 hx ha]
    have e:AM x.toNat=[x] :=by rw [Ga (by omega)]; congr 1; omega
    by_cases h1:x=0∧0<k
    ·refine⟨_,_,_,rfl,rfl,.inl ⟨by simp [h1],?_⟩⟩
     rw [if_pos (.inl h1)]; simp
    ·by_cases h2: -2147483648≤zag (acc+x.toNat*128 ^ k)∧zag (acc+x.toNat*128 ^ k)≤2147483647
     ·refine⟨_,_,_,rfl,rfl,.inr ⟨x.toNat,rest,by rw [e]; rfl,by omega,rfl,h2,?_,?_⟩⟩
      ·have d1:decide (x=0∧0<k)=false:=by simpa using h1
       have d2:decide (-2147483648≤zag (acc+x.toNat*128 ^ k)∧zag (acc+x.toNat*128 ^ k)≤2147483647)=true:=by simpa using h2
       rw [d1,d2,e]; rfl
      ·rw [if_neg (fun h=>h.elim h1 fun h=>h h2),e]; rfl
     ·refine⟨_,_,_,rfl,rfl,.inl ⟨?_,?_⟩⟩
      ·have d2:decide (-2147483648≤zag (acc+x.toNat*128 ^ k)∧zag (acc+x.toNat*128 ^ k)≤2147483647)=false:=decide_eq_false h2
       rw [d2]; simp
      ·rw [if_pos (.inr h2)]; simp
   ·rw [Rm a0 i acc k n hr hb hl hk5 hx ha,Rn hb hl h0.1 hi hr hk5 hx ha]
    obtain⟨v,r,w,e1,e2,e3⟩:=ih (k+1) (acc+(x.toNat - 128)*128 ^ k) n n' (i+1) rest (by omega) (by omega) (by omega) hr.next (W2 (y:=x.toNat - 128) ha (by omega)) (by omega) (by omega)
    refine⟨v,r,w,e1,e2,?_⟩
    rcases e3 with e3|⟨z,rest',h1,h2,h3,h4,h5,h6⟩
    ·exact .inl e3
    ·have hz:0<z:=by omega
     have ht:acc+(x.toNat - 128)*128 ^ k+z*128 ^ (k+1)=acc+(x.toNat - 128+128*z)*128 ^ k:=by
      rw [Qa,Nat.add_mul,Nat.mul_assoc 128,Nat.mul_comm 128,Nat.mul_assoc,Nat.mul_comm (128 ^ k),Nat.add_assoc]
     have ev:AM (x.toNat - 128+128*z)=x::AM z:=by
      rw [Gb (by omega)]
      congr 1
      ·omega
      ·congr 1; omega
     refine .inr ⟨x.toNat - 128+128*z,rest',by rw [ev,h1]; rfl,.inr (by omega),by rw [h3,ht],h4,?_,?_⟩
     ·rw [h5,ev,List.length_cons,show i+1+((AM z).length :Int)=i+(((AM z).length +1:Nat):Int) from by omega]
     ·rw [h6,ev,List.length_cons,show i+1+((AM z).length :Int)=i+(((AM z).length +1:Nat):Int) from by omega]
theorem Js {b:List Int} (hb:Byts b) (hl:b.length≤Big) {i:Int} {rest:List Int} (hr:Rd b i rest):
  ∃v r w q,CF ⟨b,i,false⟩=some (v,r)∧BE ⟨b,i,false⟩=some (w,q)∧
   ((r.bad=true∧q.bad=true)∨(∃rest',rest=AM (zig v)++rest'∧(-2147483648≤v∧v≤2147483647)∧r=⟨b,i+((AM (zig v)).length :Int),false⟩∧w=v∧q=⟨b,i+((AM (zig v)).length :Int),false⟩)):=by
 have hd:=hr.bd
 have hl':(b.length:Int)≤4294967296:=by unfold Big at hl; omega
 obtain⟨v,r,w,e1,e2,e3⟩:=Ow hb hl ⟨b,i,false⟩ rfl (at0:=i) (by omega) 5 0 0 fuel fuel i rest rfl (by omega) (by omega) hr (by simp) (by rw [A7]; omega) (by rw [A7]; omega)
 simp only [Nat.pow_zero,Nat.mul_one,Nat.zero_add,Int.natCast_zero,Int.natCast_one] at e1 e2 e3
 unfold CF BE DY Bz
 simp only
 rw [e1,if_neg (by simp; omega),if_neg (by simp; omega),e2,AA]
 rcases e3 with ⟨h1,h2⟩|⟨z,rest',h1,-,h3,h4,h5,h6⟩
 ·rw [if_pos (by simpa using h2)]
  exact⟨_,_,_,_,rfl,rfl,.inl ⟨h1,rfl⟩⟩
 ·have hz:zig v=z:=by rw [h3,VJ]
  rw [h6,if_neg (by simp)]
  refine⟨_,_,_,_,rfl,rfl,.inr ⟨rest',by rw [hz]; exact h1,h4,by rw [hz]; exact h5,rfl,by rw [hz]⟩⟩
theorem byte_both {b:List Int} (hb:Byts b) (hl:b.length≤Big) {i:Int} {rest:List Int} (hr:Rd b i rest):
  (rest=[] ∧A0 ⟨b,i,false⟩=some (0,⟨b,i,true⟩)∧Ap ⟨b,i,false⟩=some (0,⟨b,i,true⟩))∨
  (∃x rest',rest=x::rest'∧(0≤x∧x≤255)∧A0 ⟨b,i,false⟩=some (x,⟨b,i+1,false⟩)∧Ap ⟨b,i,false⟩=some (x,⟨b,i+1,false⟩)∧Rd b (i+1) rest'):=by
 have hd:=hr.bd
 have hl':(b.length:Int)≤4294967296:=by unfold Big at hl; omega
 cases rest with
 |nil=>
  simp only [List.length_nil] at hd
  refine .inl ⟨rfl,Mn hr,?_⟩
  unfold Ap
  rw [if_pos (by simp; omega)]
 |cons x rest=>
  rw [List.length_cons] at hd
  have hB:=hr.byt hb
  refine .inr ⟨x,rest,rfl,hB,IR hr hb hl,?_,hr.next⟩
  unfold Ap
  rw [if_neg (by simp; omega)]
  simp only
  rw [w64 (n:=i+1) (by omega) (by omega),w64 (n:=i+1 - 1) (by omega) (by omega),show i+1 - 1=i from by omega,hr.at',AA,w64 (by omega) (by omega)]
end Go.Proofs.Ytijdanbelnmmlaa.Ab
namespace Go.Proofs.Ytijdanbelnmmlaa.Ab
set_option linter.unusedVariables false
set_option linter.unusedSimpArgs false
open Go.RowKit
section
variable {b:List Int}
theorem W3 {α:Type} {l:List α} {i:Int} (h:0≤i∧i<(l.length:Int)):∃x,at? l i=some x∧x ∈ l:=
 ⟨l[i.toNat]'(by omega),by unfold at?; rw [if_pos h.1]; exact List.getElem?_eq_getElem (by omega),List.getElem_mem _⟩
theorem Zc {i:Int} (h:0≤i∧i≤(b.length:Int)):Rd b i (b.drop i.toNat):=⟨b.take i.toNat,(List.take_append_drop _ _).symm,by rw [List.length_take]; omega⟩
theorem JR (hb:Byts b) (hl:b.length≤Big) {i:Int} (h:0≤i∧i≤(b.length:Int)) (bad:Bool):∃x q,Ap ⟨b,i,bad⟩=some (x,q)∧(0≤x∧x≤255)∧(0≤q.att∧q.att≤(b.length:Int))∧(bad=true→q.bad=true):=by
 have hl':(b.length:Int)≤4294967296:=by unfold Big at hl; omega
 unfold Ap
 by_cases h1:(b.length:Int)≤i
 ·rw [if_pos (by simpa using h1)]
  exact⟨_,_,rfl,by omega,h,fun _=>rfl⟩
 ·rw [if_neg (by simpa using h1)]
  obtain⟨x,hx,hm⟩:=W3 (l:=b) (i:=i) (by omega)
  simp only
  have hB:=hb x hm
  rw [w64 (n:=i+1) (by omega) (by omega),w64 (n:=i+1 - 1) (by omega) (by omega),show i+1 - 1=i from by omega,hx,AA,w64 (by omega) (by omega)]
  exact⟨_,_,rfl,hB,by simp only; omega,fun e=>e⟩
theorem Ox (hb:Byts b) (hl:b.length≤Big) {i:Int} (h:0≤i∧i≤(b.length:Int)) (bad:Bool):∃v q,BE ⟨b,i,bad⟩=some (v,q)∧(0≤q.att∧q.att≤(b.length:Int))∧(bad=true→q.bad=true):=by
 have hl':(b.length:Int)≤4294967296:=by unfold Big at hl; omega
 have hr:=Zc h
 obtain⟨v,r,w,e1,e2,e3⟩:=Ow hb hl ⟨b,i,false⟩ rfl (at0:=i) (by omega) 5 0 0 fuel fuel i _ rfl (by omega) (by omega) hr (by simp) (by rw [A7]; omega) (by rw [A7]; omega)
 simp only [Nat.pow_zero,Int.natCast_zero,Int.natCast_one] at e2
 unfold BE DY Bz
 simp only
 rw [if_neg (by simp; omega),if_neg (by simp; omega),e2,AA]
 by_cases h0:w.2.2 =0
 ·rw [if_neg (by simp [h0])]
  rcases e3 with ⟨-,h2⟩|⟨z,rest',h1,-,-,-,-,h6⟩
  ·exact absurd h0 h2
  ·have hd:=hr.bd
   rw [h1,List.length_append] at hd
   exact⟨_,_,rfl,by rw [h6]; simp only; omega,fun e=>e⟩
 ·rw [if_pos (by simpa using h0)]
  exact⟨_,_,rfl,h,fun _=>rfl⟩
theorem TV (i:Int):∃v r,CF ⟨b,i,true⟩=some (v,r)∧r.bad=true:=by
 unfold CF
 obtain⟨k,hk⟩:∃q,fuel=q+1:=⟨fuel - 1,by rw [A7]⟩
 have hB:A0 ⟨b,i,true⟩=some (0,⟨b,i,true⟩):=rfl
 have hn:nn? (IntKind.i64.wrap (7*0))=some ():=rfl
 have hfin:=fun bad=>LU b i 0 0 0 0 ⟨b,i,true⟩ rfl (by omega) (by omega) (by simp) bad (0,⟨b,i,true⟩) rfl rfl
 simp only [Int.natCast_zero] at hfin
 rw [hk,Aa,if_pos (by decide),hB,AA,hn,AA]
 simp only
 rw [VK (by omega),if_pos (by simp),if_pos (by simp)]
 unfold Bp
 simp only [hfin,ite_self]
 exact⟨_,_,rfl,by simp⟩
def VL (os:Option (Core × L33R)):Prop:=∃c r,os=some (c,r)∧r.bad=true
def TW (b:List Int) (oi:Option (Core × Decoder)):Prop:=∃c q,oi=some (c,q)∧q.bad=true
theorem KO (n:Nat) (i0:Int) (a1:Int) (D:List Int) (v2 v3:Int × L33R) (i:Int) (bd:Bool) (K:List Core) (m:Int):VL (AT (n+2) ⟨b,i0,bd⟩ a1 D v2 v3 i true K m):=by
 rw [AT]
 simp only [Bool.not_true,ite_self]
 rw [Au,if_neg (by simp)]
 exact⟨_,_,rfl,rfl⟩
theorem Pr (n:Nat) (i0:Int) (a1:Int) (v2 v3:Int × L33R) (i:Int) (bd:Bool) (D:List Int) (m:Int):VL (AZ (n+6) ⟨b,i0,bd⟩ a1 v2 v3 i true D m):=by
 rw [AZ]
 simp only [Bool.not_true,ite_self]
 rw [A1,if_neg (by simp)]
 have hB:A0 ⟨b,i,true⟩=some (0,⟨b,i,true⟩):=rfl
 simp only
 rw [hB,AA]
 have e:decide ((0:Int)<0)=false:=by decide
 simp only [e,ite_self]
 rw [Ai,if_neg (by simp),Al]
 exact KO n i0 a1 D v2 v3 _ bd [] _
theorem TX (n:Nat) (i0:Int) (a1:Int) (v2 v3:Int × L33R) (i:Int) (bd:Bool):VL (Option.bind (A0 ⟨b,i,true⟩) fun v4001=>AZ (n+6) ⟨b,i0,bd⟩ a1 v2 v3 v4001.2.att v4001.2.bad [] v4001.1):=by
 have hB:A0 ⟨b,i,true⟩=some (0,⟨b,i,true⟩):=rfl
 rw [hB,AA]
 exact Pr n i0 a1 v2 v3 i bd [] 0
theorem LV (n:Nat) (i0:Int) (bd:Bool) (d:Int) (D:List Int) (v5 v6 v10:Int × Decoder) (i:Int) (K:List Core) (m:Int):TW b (Aq (n+2) ⟨b,i0,bd⟩ d D v5 v6 v10 i true K m):=by
 rw [Aq]
 simp only [Bool.not_true,ite_self]
 rw [A2,if_neg (by simp)]
 exact⟨_,_,rfl,rfl⟩
theorem Ps (hb:Byts b) (hl:b.length≤Big) (i0:Int) (bd:Bool) (d:Int) (v5 v53 v6:Int × Decoder) (hv:v6.1 ≤255):∀ (m n:Nat) (i:Int) (D:List Int) (k:Int),(v6.1 - k).toNat ≤m→0≤k→D.length≤1000 - m→m≤255→(0≤i∧i≤(b.length:Int))→m+3≤n→
  TW b (Ac n ⟨b,i0,bd⟩ d v5 v53 v6 i true D k):=by
 intro m
 induction m with
 |zero=>
  intro n i D k hm hk hD hm2 hi hn
  obtain⟨n,rfl⟩:∃q,n=q+3:=⟨n - 3,by omega⟩
  obtain⟨x,q,e1,e2,e3,e4⟩:=JR hb hl hi true
  rw [Ac,if_neg (by simp; omega)]
  simp only
  rw [e1,AA,e4 rfl]
  exact LV n i0 bd d D v5 v53 (x,q) q.att [] 0
 | succ m ih=>
  intro n i D k hm hk hD hm2 hi hn
  obtain⟨n,rfl⟩:∃q,n=q+3:=⟨n - 3,by omega⟩
  obtain⟨x,q,e1,e2,e3,e4⟩:=JR hb hl hi true
  rw [Ac]
  simp only
  rw [e1]
  by_cases h:k<v6.1
  ·rw [if_pos (by simpa using h),AA,CS (by simp; unfold Big; omega),AA,w64 (by omega) (by omega),e4 rfl]
   exact ih (n+2) q.att _ (k+1) (by omega) (by omega) (by simp; omega) (by omega) e3 (by omega)
  ·rw [if_neg (by simpa using h),AA,e4 rfl]
   exact LV n i0 bd d D v5 v53 (x,q) q.att [] 0
theorem TY (hb:Byts b) (hl:b.length≤Big) (i0:Int) (bd:Bool) (d:Int) (v5 v53:Int × Decoder) (n:Nat) (i:Int) (hi:0≤i∧i≤(b.length:Int)) (hn:300≤n):TW b (Option.bind (Ap ⟨b,i,true⟩) fun v6001=>Ac n ⟨b,i0,bd⟩ d v5 v53 v6001 v6001.2.att v6001.2.bad [] 0):=by
 obtain⟨x,q,e1,e2,e3,e4⟩:=JR hb hl hi true
 rw [e1,AA,e4 rfl]
 exact Ps hb hl i0 bd d v5 v53 (x,q) e2.2 255 n q.att [] 0 (by simp only; omega) (by omega) (by simp) (by omega) e3 (by omega)
theorem W4 (hb:Byts b) (hl:b.length≤Big) (i0:Int) (bd:Bool) (d:Int) (v5:Int × Decoder) (n:Nat) (i:Int) (hi:0≤i∧i≤(b.length:Int)) (hn:300≤n):TW b (Option.bind (BE ⟨b,i,true⟩) fun v5003=>Option.bind (Ap ⟨b,v5003.2.att,v5003.2.bad⟩) fun v6001=>Ac n ⟨b,i0,bd⟩ d v5 v5003 v6001 v6001.2.att v6001.2.bad [] 0):=by
 obtain⟨v,q,e1,e2,e3⟩:=Ox hb hl hi true
 rw [e1,AA,e3 rfl]
 exact TY hb hl i0 bd d v5 (v,q) n q.att e2 hn
def VM (b:List Int) (i0:Int) (rest0:List Int) (os:Option (Core × L33R)) (oi:Option (Core × Decoder)):Prop:=
 (VL os∧TW b oi)∨∃c rest',rest0=c.enc++rest'∧os=some (c,⟨b,i0+(c.enc.length:Int),false⟩)∧oi=some (c,⟨b,i0+(c.enc.length:Int),false⟩)
theorem VN {x:Int} (h:0≤x∧x≤255):IntKind.u8.wrap x=x:=by rw [Ho]; omega
theorem W5 {l:List Int} (h:∀x ∈ l,0≤x∧x≤255):u8s l=l:=by
 unfold u8s
 exact(List.map_congr_left fun x hx=>VN (h x hx)).trans (List.map_id _)
theorem Ro (hb:Byts b) (hl:b.length≤Big):∀ (d n n':Nat) (i:Int) (rest:List Int),1≤d→d≤80→3000*d≤n→3000*d≤n'→Rd b i rest→VM b i rest (Ay n ⟨b,i,false⟩ (81 - (d:Int))) (BL n' ⟨b,i,false⟩ (d:Int)):=by
 intro d
 induction d with
 |zero=>intro n n' i rest h; omega
 | succ d ih=>
  intro n n' i0 rest0 hd1 hd80 hn hn' hr0
  have hbd0:=hr0.bd
  have kids:∀ (kd:Int) (hk:0≤kd∧kd≤255) (v2:Int × L33R) (v5:Int × Decoder) (h2:v2.1 =kd) (h5:v5.1 =kd) (val:Int) (v3:Int × L33R) (v53:Int × Decoder) (h3:v3.1 =val) (h53:v53.1 =val) (D:List Int) (hD:∀x ∈ D,0≤x∧x≤255) (hDl:D.length≤255) (y:Int) (hy:0≤y∧y≤255) (v10:Int × Decoder) (h10:v10.1 =y),
    ∀ (m k k':Nat) (K:List Core) (i:Int) (rest:List Int),(K.length:Int)+(m:Int)=y→rest0=(([kd] ++AM (zig val))++[(D.length:Int)] ++D++[y] ++Core.encs K)++rest→Rd b i rest→i=i0+((([kd] ++AM (zig val))++[(D.length:Int)] ++D++[y] ++Core.encs K).length :Int)→1≤d∨m=0→3000*d+3*m+5≤k→3000*d+3*m+5≤k'→
     VM b i0 rest0 (AT k ⟨b,i0,false⟩ (81 - ((d+1:Nat):Int)) D v2 v3 i false K (m:Int)) (Aq k' ⟨b,i0,false⟩ ((d+1:Nat):Int) D v5 v53 v10 i false K (K.length:Int)):=by
   intro kd hk v2 v5 h2 h5 val v3 v53 h3 h53 D hD hDl y hy v10 h10 m
   induction m with
   | zero=>
    intro k k' K i rest hm hr0' hr hi hd0 hk1 hk2
    obtain⟨k,rfl⟩:∃q,k=q+2:=⟨k - 2,by omega⟩
    obtain⟨k',rfl⟩:∃q,k'=q+2:=⟨k' - 2,by omega⟩
    rw [AT,if_neg (by simp),Au,if_neg (by simp),Aq,if_neg (by rw [h10]; simp; omega),A2,if_neg (by simp),h2,h3,h5,h53]
    have he:(⟨kd,val,D,K⟩:Core).enc =([kd] ++AM (zig val))++[(D.length:Int)] ++D++[y] ++Core.encs K:=by
     have hy':(K.length:Int)=y:=by omega
     rw [Core.enc,VN hk,VN (x:=(D.length:Int)) (by omega),W5 hD,hy',VN hy]
    refine .inr ⟨⟨kd,val,D,K⟩,rest,by rw [he]; exact hr0',?_,?_⟩
    ·rw [he,hi]
    ·rw [he,hi]
   | succ m ihm=>
    intro k k' K i rest hm hr0' hr hi hd0 hk1 hk2
    obtain⟨k,rfl⟩:∃q,k=q+2:=⟨k - 2,by omega⟩
    obtain⟨k',rfl⟩:∃q,k'=q+2:=⟨k' - 2,by omega⟩
    have hd:1≤d:=by omega
    have hkl:K.length≤255:=by omega
    rw [AT,if_pos (by simp <;> omega),Au,if_pos (by simp),Aq,if_pos (by rw [h10]; simp; omega),A2,if_pos (by simp)]
    simp only
    rw [w64 (n:=81 - ((d+1:Nat):Int)+1) (by omega) (by omega),w64 (n:=((d+1:Nat):Int) - 1) (by omega) (by omega),show 81 - ((d+1:Nat):Int)+1=81 - (d:Int) from by omega,show ((d+1:Nat):Int) - 1=(d:Int) from by omega]
    rcases ih k k' i rest hd (by omega) (by omega) (by omega) hr with ⟨⟨c,r,e1,e2⟩,⟨c',q,e3,e4⟩⟩|⟨c,rest',e1,e2,e3⟩
    ·rw [e1,e3,AA,AA,CS (by simp; unfold Big; omega),AA,CS (by simp; unfold Big; omega),AA,e2,e4]
     obtain⟨k3,rfl⟩:∃q,k=q+2:=⟨k - 2,by omega⟩
     obtain⟨k3',rfl⟩:∃q,k'=q+2:=⟨k' - 2,by omega⟩
     exact .inl ⟨KO k3 _ _ D v2 v3 _ false _ _,LV k3' _ false _ D v5 v53 v10 _ _ _⟩
    ·rw [e2,e3,AA,AA,CS (by simp; unfold Big; omega),AA,AA,w64 (n:=((m+1:Nat):Int) - 1) (by omega) (by omega),w64 (n:=(K.length:Int)+1) (by omega) (by omega),show ((m+1:Nat):Int) - 1=(m:Int) from by omega]
     have hen:Core.encs (K++[c])=Core.encs K++c.enc:=Hp c K
     have:=ihm k k' (K++[c]) (i+(c.enc.length:Int)) rest' (by rw [List.length_append,List.length_singleton]; omega) (by rw [hen,hr0',e1]; simp only [List.append_assoc]) (by rw [e1] at hr; exact hr.app) (by rw [hen,hi]; simp only [List.length_append]; omega) (by omega) (by omega) (by omega)
     rw [List.length_append,List.length_singleton,show ((K.length+1:Nat):Int)=(K.length:Int)+1 from by omega] at this
     exact this
  have data:∀ (kd:Int) (hk:0≤kd∧kd≤255) (v2:Int × L33R) (v5:Int × Decoder) (h2:v2.1 =kd) (h5:v5.1 =kd) (val:Int) (v3:Int × L33R) (v53:Int × Decoder) (h3:v3.1 =val) (h53:v53.1 =val) (y:Int) (hy:0≤y∧y≤255) (v6:Int × Decoder) (h6:v6.1 =y),
    ∀ (m k k':Nat) (D:List Int) (i:Int) (rest:List Int),(∀x ∈ D,0≤x∧x≤255)→(D.length:Int)+(m:Int)=y→rest0=(([kd] ++AM (zig val))++[y] ++D)++rest→Rd b i rest→i=i0+((([kd] ++AM (zig val))++[y] ++D).length :Int)→3000*d+800+2*m≤k→3000*d+800+2*m≤k'→
     VM b i0 rest0 (AZ k ⟨b,i0,false⟩ (81 - ((d+1:Nat):Int)) v2 v3 i false D (m:Int)) (Ac k' ⟨b,i0,false⟩ ((d+1:Nat):Int) v5 v53 v6 i false D (D.length:Int)):=by
   intro kd hk v2 v5 h2 h5 val v3 v53 h3 h53 y hy v6 h6 m
   induction m with
   | zero=>
    intro k k' D i rest hD hm hr0' hr hi hk1 hk2
    obtain⟨k,rfl⟩:∃q,k=q+4:=⟨k - 4,by omega⟩
    obtain⟨k',rfl⟩:∃q,k'=q+1:=⟨k' - 1,by omega⟩
    have hDl:D.length≤255:=by omega
    have hyD:y=(D.length:Int):=by omega
    rw [AZ,if_neg (by simp),A1,if_neg (by simp),Ac,if_neg (by rw [h6]; simp; omega)]
    simp only
    rcases byte_both hb hl hr with ⟨-,e1,e2⟩|⟨x,rest',e0,hx,e1,e2,hr'⟩
    ·rw [e1,e2,AA,AA]
     have e:decide ((0:Int)<0)=false:=by decide
     simp only [e,ite_self]
     rw [Ai,if_neg (by simp),Al]
     obtain⟨k3,rfl⟩:∃q,k=q+2:=⟨k - 2,by omega⟩
     obtain⟨k3',rfl⟩:∃q,k'=q+2:=⟨k' - 2,by omega⟩
     exact .inl ⟨KO k3 i0 _ D v2 v3 _ false [] _,LV k3' i0 false _ D v5 v53 _ _ [] 0⟩
    ·rw [e1,e2,AA,AA]
     simp only
     by_cases hz:1≤d∨x=0
     ·have hj:Ai (k+2) ⟨b,i0,false⟩ (81 - ((d+1:Nat):Int)) D v2 v3 (x,⟨b,i+1,false⟩) false=AT k ⟨b,i0,false⟩ (81 - ((d+1:Nat):Int)) D v2 v3 (i+1) false [] x:=by
       rw [Ai,if_neg (by simp),Al]
      have hk9:=kids kd hk v2 v5 h2 h5 val v3 v53 h3 h53 D hD hDl x hx (x,⟨b,i+1,false⟩) rfl x.toNat k k' [] (i+1) rest' (by simp; omega) (by rw [hr0',e0,← hyD]; simp [Core.encs]) hr' (by rw [hi,← hyD]; simp [Core.encs]; omega) (by omega) (by omega) (by omega)
      rw [show ((x.toNat:Nat):Int)=x from by omega] at hk9
      by_cases h80:(80:Int)≤81 - ((d+1:Nat):Int)
      ·rw [if_pos (by simpa using h80),show decide (0<x)=false from by simp; omega,hj]
       exact hk9
      ·rw [if_neg (by simpa using h80),hj]
       exact hk9
     ·have hx0:0<x:=by omega
      have hd0:d=0:=by omega
      subst hd0
      rw [if_pos (by simp),show decide (0<x)=true from by simp; omega,Ai,if_pos rfl,Al]
      obtain⟨k3,rfl⟩:∃q,k=q+2:=⟨k - 2,by omega⟩
      obtain⟨k3',rfl⟩:∃q,k'=q+4:=⟨k' - 4,by omega⟩
      refine .inl ⟨KO k3 i0 _ D v2 v3 _ false [] _,?_⟩
      rw [Aq,if_pos (by simp; omega),A2,if_pos (by simp)]
      simp only
      rw [show IntKind.i64.wrap (((0+1:Nat):Int) - 1)=0 from by decide,BL,if_pos (by simp),AA,CS (by simp; unfold Big; omega),AA]
      exact LV k3' i0 false _ D v5 v53 _ _ _ _
   | succ m ihm=>
    intro k k' D i rest hD hm hr0' hr hi hk1 hk2
    obtain⟨k,rfl⟩:∃q,k=q+2:=⟨k - 2,by omega⟩
    obtain⟨k',rfl⟩:∃q,k'=q+1:=⟨k' - 1,by omega⟩
    rw [AZ,if_pos (by simp <;> omega),A1,if_pos (by simp),Ac,if_pos (by rw [h6]; simp; omega)]
    simp only
    rcases byte_both hb hl hr with ⟨-,e1,e2⟩|⟨x,rest',e0,hx,e1,e2,hr'⟩
    ·rw [e1,e2,AA,AA,CS (by simp; unfold Big; omega),AA,AA,w64 (n:=(D.length:Int)+1) (by omega) (by omega)]
     obtain⟨k3,rfl⟩:∃q,k=q+6:=⟨k - 6,by omega⟩
     have hdr:=hr.bd
     exact .inl ⟨Pr k3 i0 _ v2 v3 _ false _ _,Ps hb hl i0 false _ v5 v53 v6 (by omega) 255 k' i _ _ (by omega) (by omega) (by simp; omega) (by omega) (by omega) (by omega)⟩
    ·rw [e1,e2,AA,AA,CS (by simp; unfold Big; omega),AA,AA,w64 (n:=((m+1:Nat):Int) - 1) (by omega) (by omega),w64 (n:=(D.length:Int)+1) (by omega) (by omega),show ((m+1:Nat):Int) - 1=(m:Int) from by omega]
     have:=ihm k k' (D++[x]) (i+1) rest' (fun z hz=>by
      rcases List.mem_append.1 hz with e|e
      ·exact hD z e
      ·rw [List.mem_singleton] at e; rw [e]; exact hx) (by rw [List.length_append,List.length_singleton]; omega) (by rw [hr0',e0]; simp) hr' (by rw [hi]; simp only [List.length_append,List.length_singleton]; omega) (by omega) (by omega)
     rw [List.length_append,List.length_singleton,show ((D.length+1:Nat):Int)=(D.length:Int)+1 from by omega] at this
     exact this
  obtain⟨n,rfl⟩:∃q,n=q+1:=⟨n - 1,by omega⟩
  obtain⟨n',rfl⟩:∃q,n'=q+1:=⟨n' - 1,by omega⟩
  rw [Ay,BL,if_neg (by simp; omega)]
  obtain⟨n6,hn6⟩:∃q,n=q+6:=⟨n - 6,by omega⟩
  rcases byte_both hb hl hr0 with ⟨-,e1,e2⟩|⟨x,rest1,e0,hx,e1,e2,hr1⟩
  ·rw [e1,e2,AA,AA]
   refine .inl ⟨?_,W4 hb hl i0 false _ _ n' i0 (by omega) (by omega)⟩
   obtain⟨v,r,q1,q2⟩:=TV (b:=b) i0
   simp only
   rw [q1,AA,q2,hn6]
   exact TX n6 i0 _ _ (v,r) r.att false
  ·rw [e1,e2,AA,AA]
   simp only
   have hb1:=hr1.bd
   obtain⟨v,r,w,q,q1,q2,q3⟩:=Js hb hl hr1
   rw [q1,q2,AA,AA]
   rcases q3 with ⟨g1,g2⟩|⟨rest2,g1,g2,rfl,rfl,rfl⟩
   ·rw [g1,g2,hn6]
    obtain⟨v',q',t1,t2,t3⟩:=Ox hb hl (i:=i0+1) (by omega) false
    rw [q2] at t1
    cases t1
    exact .inl ⟨TX n6 i0 _ _ (v,r) r.att false,TY hb hl i0 false _ _ _ n' _ t2 (by omega)⟩
   ·simp only
    have hr2:Rd b (i0+1+((AM (zig w)).length :Int)) rest2:=by rw [g1] at hr1; exact hr1.app
    rcases byte_both hb hl hr2 with ⟨-,e3,e4⟩|⟨y,rest3,e5,hy,e3,e4,hr3⟩
    ·have hb2:=hr2.bd
     rw [e3,e4,AA,AA,hn6]
     exact .inl ⟨Pr n6 i0 _ _ _ _ false _ _,Ps hb hl i0 false _ _ _ _ (by simp) 255 n' _ [] 0 (by simp) (by omega) (by simp) (by omega) (by simp only; omega) (by omega)⟩
    ·rw [e3,e4,AA,AA]
     simp only
     have:=data x hx (x,⟨b,i0+1,false⟩) (x,⟨b,i0+1,false⟩) rfl rfl w (w,⟨b,i0+1+((AM (zig w)).length :Int),false⟩) (w,⟨b,i0+1+((AM (zig w)).length :Int),false⟩) rfl rfl y hy (y,⟨b,i0+1+((AM (zig w)).length :Int)+1,false⟩) rfl y.toNat n n' [] (i0+1+((AM (zig w)).length :Int)+1) rest3 (by simp) (by simp; omega) (by rw [e0,g1,e5]; simp) hr3 (by simp; omega) (by omega) (by omega)
     rw [show ((y.toNat:Nat):Int)=y from by omega] at this
     exact this
end
end Go.Proofs.Ytijdanbelnmmlaa.Ab
