/-
  Numbers in groups of seven bits, the checksum: both programs append and compute the same. No program is in sight.
-/
import Derived.Test.YtijdanbelnmmlaaPlC
import Derived.Test.YtijdanbelnmmlaaModC
import Derived.Test.YtijdanbelnmmlaaModB
namespace Go.Proofs.Ytijdanbelnmmlaa.Ab
set_option linter.unusedVariables false
set_option linter.unusedSimpArgs false
open Go.RowKit
def AM (z:Nat):List Int:=if z<128 then [(z:Int)] else ((z % 128+128:Nat):Int)::AM (z / 128)
termination_by z
decreasing_by omega
def zig (n:Int):Nat:=if n<0 then (-2*n - 1).toNat else (2*n).toNat
theorem Ga {z:Nat} (h:z<128):AM z=[(z:Int)] :=by rw [AM,if_pos h]
theorem Gb {z:Nat} (h:¬z<128):AM z=((z % 128+128:Nat):Int)::AM (z / 128):=by rw [AM,if_neg h]
theorem LY (z:Nat):∀k,1≤k→z<128 ^ k→(AM z).length ≤k:=by
 intro k
 induction k generalizing z with
 |zero=>intro h; omega
 | succ k ih=>
  intro _ hz
  by_cases h:z<128
  ·rw [Ga h]; simp
  ·rw [Gb h,List.length_cons]
   have hk:1≤k:=by
    rcases Nat.eq_zero_or_pos k with rfl|h0
    ·simp at hz; omega
    ·exact h0
   have:=ih (z / 128) hk (by rw [Nat.pow_succ] at hz; omega)
   omega
theorem LZ (z:Nat):1≤(AM z).length :=by
 rw [AM]; split <;> simp
theorem TZ {n:Int} (h1: -2147483648≤n) (h2:n≤2147483647):zig n≤4294967295:=by unfold zig; split <;> omega
theorem KP {n:Int} (h1: -2147483648≤n) (h2:n≤2147483647):(AM (zig n)).length ≤5:=LY _ 5 (by omega) (by have:=TZ h1 h2; omega)
theorem HQ (z:Nat):Int.tmod (z:Int) 128=((z % 128:Nat):Int):=by
 rw [Int.tmod_eq_emod_of_nonneg (by omega)]; omega
theorem Ta (z:Nat):Int.tdiv (z:Int) 128=((z / 128:Nat):Int):=by
 rw [Int.tdiv_eq_ediv_of_nonneg (by omega)]; omega
theorem Mq:∀ (z:Nat) (a:List Int) (n:Nat),z≤4294967295→(AM z).length ≤n→a.length+(AM z).length ≤Big→Bb n a (z:Int)=some (a++AM z):=by
 intro z
 induction z using Nat.strongRecOn with
 | _ z ih=>
  intro a n hz hn ha
  have hp:=LZ z
  obtain⟨n,rfl⟩:∃q,n=q+1:=⟨n - 1,by omega⟩
  rw [Bb]
  by_cases h:z<128
  ·rw [Ga h] at ha ⊢
   rw [if_neg (by simp; omega),IntKind.wrap_u8,show (z:Int) % 256=z from by omega,CS ha,AA]
  ·rw [Gb h,List.length_cons] at ha hn
   rw [if_pos (by simp; omega),HQ,Ta,IntKind.wrap_u8,IntKind.wrap_u8,w64 (by omega) (by omega),show ((((z % 128:Nat):Int) % 256)+128) % 256=((z % 128+128:Nat):Int) from by omega,
    CS (by simp; omega),AA,ih (z / 128) (by omega) _ n (by omega) (by omega) (by simp; omega),Gb h]
   simp
theorem Oz {z:Nat} (h:z≤4294967295):(AM z).length ≤fuel:=VG (Nat.le_trans (LY z 5 (by omega) (by omega)) (by omega))
theorem Qc (a:List Int) (v:Int) (h1: -2147483648≤v) (h2:v≤2147483647) (ha:a.length+5≤Big):C0 a v=some (a++AM (zig v)):=by
 have hz:=TZ h1 h2
 have hl:=KP h1 h2
 unfold C0 Ci
 by_cases h:v<0
 ·rw [if_pos (by simpa using h)]
  have:IntKind.i64.wrap (IntKind.i64.wrap ((-2)*v) - 1)=((zig v:Nat):Int):=by
   rw [w64 (n:=(-2)*v) (by omega) (by omega),w64 (by omega) (by omega)]
   unfold zig
   rw [if_pos h]
   omega
  rw [this,Mq _ _ _ hz (Oz hz) (by omega)]
 ·rw [if_neg (by simpa using h)]
  have:IntKind.i64.wrap (2*v)=((zig v:Nat):Int):=by
   rw [w64 (by omega) (by omega)]
   unfold zig
   rw [if_neg h]
   omega
  rw [this,Mq _ _ _ hz (Oz hz) (by omega)]
def Pv (z:Int):Int:=if bits BinOp.and IntKind.u32 z 1=1 then bits BinOp.xor IntKind.u32 (z / 2) 3988292384 else z / 2
def Rq:Nat→Int→Int
 |0,z=>z
 |m+1,z=>Rq m (Pv z)
def KQ (z x:Int):Int:=Rq 8 (bits .xor .u32 z (IntKind.u32.wrap x))
def crcSum (zs:List Int):Int:=bits .xor .u32 (zs.foldl KQ 4294967295) 4294967295
theorem Mr (zs:List Int):0≤crcSum zs∧crcSum zs≤4294967295:=⟨bits_lo_u32 ..,bits_hi_u32 ..⟩
theorem VQ (a:List Int) (i:Int):∀ (m k n:Nat) (p:Int),k+m=8→m+1≤n→Cf n a i p (k:Int)=CE (n - (m+1)) a (Rq m p) (IntKind.i64.wrap (i+1)):=by
 intro m
 induction m with
 |zero=>
  intro k n p hk hn
  obtain⟨n,rfl⟩:∃q,n=q+1:=⟨n - 1,by omega⟩
  rw [Cf,if_neg (by simp; omega)]; rfl
 |succ m ih=>
  intro k n p hk hn
  obtain⟨n,rfl⟩:∃q,n=q+1:=⟨n - 1,by omega⟩
  rw [Cf,if_pos (by simp; omega),show IntKind.i64.wrap ((k:Int)+1)=((k+1:Nat):Int) from QZ (by unfold Big; omega)]
  rw [ih (k+1) n _ (by omega) (by omega),ih (k+1) n _ (by omega) (by omega)]
  rw [show n+1 - (m+1+1)=n - (m+1) from by omega,Rq,Pv]
  by_cases h:bits BinOp.and IntKind.u32 p 1=1
  ·rw [if_pos (by simpa using h),if_pos h]; rfl
  ·rw [if_neg (by simpa using h),if_neg h]; rfl
theorem Tb (a:List Int) (ha:a.length≤Big):∀ (post pre:List Int) (p:Int) (n:Nat),a=pre++post→10*post.length+1≤n→CE n a p ((List.length pre:Nat):Int)=some (bits BinOp.xor IntKind.u32 (post.foldl KQ p) 4294967295):=by
 intro post
 induction post with
 |nil=>
  intro pre p n h hn
  obtain⟨n,rfl⟩:∃q,n=q+1:=⟨n - 1,by omega⟩
  rw [CE,DD h]; rfl
 |cons x post ih=>
  intro pre p n h hn
  rw [List.length_cons] at hn
  obtain⟨n,rfl⟩:∃q,n=q+1:=⟨n - 1,by omega⟩
  rw [CE,if_pos (C2 h),CP h,AA,show (0:Int)=((0:Nat):Int) from rfl,VQ a _ 8 0 n _ (by omega) (by omega),Be h ha,ih (pre++[x]) _ _ (BU h) (by omega)]
  rfl
theorem VS (a:List Int) (i:Int):∀ (m k n:Nat) (p:Int),k+m=8→m+1≤n→BN n a i p (k:Int)=BB (n - (m+1)) a (Rq m p) (IntKind.i64.wrap (i+1)):=by
 intro m
 induction m with
 |zero=>
  intro k n p hk hn
  obtain⟨n,rfl⟩:∃q,n=q+1:=⟨n - 1,by omega⟩
  rw [BN,if_neg (by simp; omega)]; rfl
 |succ m ih=>
  intro k n p hk hn
  obtain⟨n,rfl⟩:∃q,n=q+1:=⟨n - 1,by omega⟩
  rw [BN,if_pos (by simp; omega),show IntKind.i64.wrap ((k:Int)+1)=((k+1:Nat):Int) from QZ (by unfold Big; omega)]
  rw [ih (k+1) n _ (by omega) (by omega),ih (k+1) n _ (by omega) (by omega)]
  rw [show n+1 - (m+1+1)=n - (m+1) from by omega,Rq,Pv]
  by_cases h:bits BinOp.and IntKind.u32 p 1=1
  ·rw [if_pos (by simpa using h),if_pos h]; rfl
  ·rw [if_neg (by simpa using h),if_neg h]; rfl
theorem Tc (a:List Int) (ha:a.length≤Big):∀ (post pre:List Int) (p:Int) (n:Nat),a=pre++post→10*post.length+1≤n→BB n a p ((List.length pre:Nat):Int)=some (IntKind.i64.wrap (bits BinOp.xor IntKind.u32 (if IntKind.signed IntKind.u32=true then -1 else IntKind.max IntKind.u32) (post.foldl KQ p))):=by
 intro post
 induction post with
 |nil=>
  intro pre p n h hn
  obtain⟨n,rfl⟩:∃q,n=q+1:=⟨n - 1,by omega⟩
  rw [BB,DD h]; rfl
 |cons x post ih=>
  intro pre p n h hn
  rw [List.length_cons] at hn
  obtain⟨n,rfl⟩:∃q,n=q+1:=⟨n - 1,by omega⟩
  rw [BB,if_pos (C2 h),CP h,AA,show (0:Int)=((0:Nat):Int) from rfl,VS a _ 8 0 n _ (by omega) (by omega),Be h ha,ih (pre++[x]) _ _ (BU h) (by omega)]
  rfl
theorem VT (a:List Int) (ha:a.length≤Big):HM a=some (crcSum a):=by
 unfold HM
 have:=Tb a ha a [] 4294967295 fuel (by simp) (by rw [A7]; unfold Big at ha; omega)
 exact this
theorem VU (a:List Int) (ha:a.length≤Big):EL a=some (crcSum a):=by
 unfold EL
 have:=Tc a ha a [] 4294967295 fuel (by simp) (by rw [A7]; unfold Big at ha; omega)
 refine this.trans ?_
 have e:bits BinOp.xor IntKind.u32 (if IntKind.signed IntKind.u32=true then -1 else IntKind.max IntKind.u32) (a.foldl KQ 4294967295)=crcSum a:=by
  unfold crcSum bits
  rw [show (if IntKind.signed IntKind.u32=true then -1 else IntKind.max IntKind.u32)=4294967295 from rfl]
  simp [BitVec.xor_comm]
 have hb:=Mr a
 rw [e,w64 (by omega) (by omega)]
theorem Ho (x:Int):IntKind.u8.wrap x=x % 256:=IntKind.wrap_u8 x
theorem O0 (s:Int) (hs:0≤s∧s≤4294967295) (b:List Int) (hb:b.length+4≤Big) (n:Nat) (hn:5≤n):
  Bu n b s 0=some (if 60000<b.length+4 then ([],4) else (b++[s % 256,s / 256 % 256,s / 65536 % 256,s / 16777216 % 256],0)):=by
 obtain⟨n,rfl⟩:∃m,n=m+5:=⟨n - 5,by omega⟩
 have t:∀x:Int,0≤x→Int.tmod x 256=x % 256:=fun x h=>Int.tmod_eq_emod_of_nonneg h
 have d:∀x:Int,0≤x→x≤4294967295→IntKind.i64.wrap (Int.tdiv x 256)=x / 256:=fun x h h'=>by
  rw [Int.tdiv_eq_ediv_of_nonneg h,w64 (by omega) (by omega)]
 have w0:IntKind.i64.wrap ((0:Int)+1)=1:=by decide
 have w1:IntKind.i64.wrap ((1:Int)+1)=2:=by decide
 have w2:IntKind.i64.wrap ((2:Int)+1)=3:=by decide
 have w3:IntKind.i64.wrap ((3:Int)+1)=4:=by decide
 rw [Bu,if_pos (by decide),CS (by simp; omega),AA,t s hs.1,d s hs.1 hs.2,w0,Ho,
  Bu,if_pos (by decide),CS (by simp; omega),AA,t _ (by omega),d _ (by omega) (by omega),w1,Ho,
  Bu,if_pos (by decide),CS (by simp; omega),AA,t _ (by omega),d _ (by omega) (by omega),w2,Ho,
  Bu,if_pos (by decide),CS (by simp; omega),AA,t _ (by omega),d _ (by omega) (by omega),w3,Ho,
  Bu,if_neg (by decide)]
 have e1:s / 256 / 256=s / 65536:=by omega
 have e2:s / 65536 / 256=s / 16777216:=by omega
 have hl:(b++[s % 256 % 256] ++[s / 256 % 256 % 256] ++[s / 256 / 256 % 256 % 256] ++[s / 256 / 256 / 256 % 256 % 256]).length =b.length+4:=by simp
 have hm:∀x:Int,x % 256 % 256=x % 256:=fun x=>by omega
 rw [hl]
 by_cases h:60000<b.length+4
 ·rw [if_pos (by simp; omega),if_pos h]
 ·rw [if_neg (by simp; omega),if_neg h]
  simp only [hm,e1,e2,List.append_assoc,List.cons_append,List.nil_append]
end Go.Proofs.Ytijdanbelnmmlaa.Ab
