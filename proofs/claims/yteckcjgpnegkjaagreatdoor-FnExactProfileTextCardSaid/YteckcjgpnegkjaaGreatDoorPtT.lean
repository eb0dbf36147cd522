/-
  The abstract walk of a function's text up to a place from which on it is walked in the model itself.
-/
import Derived.Test.YteckcjgpnegkjaaGreatDoorAbY
import Derived.Test.YteckcjgpnegkjaaGreatDoorWlkQ
import Derived.Test.YteckcjgpnegkjaaGreatDoorModP
import Derived.Test.YteckcjgpnegkjaaGreatDoorFmtW
import Derived.Shelf.Strings.BuilderK
import Derived.WalkKit
import Derived.BigCall
namespace Go.Proofs.YteckcjgpnegkjaaGreatDoor.Ab
set_option linter.unusedVariables false
open Go.RowKit
def awpH (P:Program) (H:St→Prop):List Unit→Code→(AE→St→Prop)→St→Prop
 | [],_,_,σ=>H σ
 |_::h,.seq a b,Q,σ=>awp P a (AE.then (Uz (Fx a) (awpH P H h b Q)) Q) σ
 |_,_,_,_=>False
def V4 (P:Program) (H:St→Prop):List Unit→Code→List Nat→(AE→St→Prop)→St→Prop
 |h,c,[],Q,σ=>awpH P H h c Q σ
 |_::h,.seq a b,0::p,Q,σ=>pos P a p (AE.then (Uz (Fx a) (awpH P H h b Q)) Q) σ
 |_::h,.seq a b,_::p,Q,σ=>V4 P H h b p Q σ
 |_,_,_,_,_=>False
def RL (P:Program) (fn:Func) (H:RV→St→Prop) (h:List Unit) (p:List Nat) (r:RV) (σ:St):Prop:=V4 P (H r) h (fn.body.getD .skip) p (endX P fn.results.toList r) σ
def NL:List Unit→Code→Code
 |_::h,.seq a b=>NL h b
 |_,c=>c
section
variable {P:Program} {σ:St} {Q:AE→St→Prop} {H:St→Prop}
@[go_sem ↓] theorem cz {c}:awpH P H [] c Q σ=H σ:=by cases c <;> rfl
@[go_sem ↓] theorem Z3 {x} {h} {a b}:awpH P H (x::h) (.seq a b) Q σ=awp P a (AE.then (Uz (Fx a) (awpH P H h b Q)) Q) σ:=rfl
@[go_sem ↓] theorem nD {h} {c}:V4 P H h c [] Q σ=awpH P H h c Q σ:=by cases h <;> cases c <;> rfl
@[go_sem ↓] theorem qW {x} {h} {a b} {p}:V4 P H (x::h) (.seq a b) (0::p) Q σ=pos P a p (AE.then (Uz (Fx a) (awpH P H h b Q)) Q) σ:=rfl
@[go_sem ↓] theorem qX {x} {h} {a b} {p}:V4 P H (x::h) (.seq a b) (1::p) Q σ=V4 P H h b p Q σ:=rfl
theorem V5 {fn} {H:RV→St→Prop} {h} {c} {l} {p} {r} (hb:fn.body=some c) (hr:fn.results=l.toArray) (k:V4 P (H r) h c p (endX P l r) σ):RL P fn H h p r σ:=by
 unfold RL; rw [hb,hr]; exact k
theorem OB {fn} {H:RV→St→Prop} {h} {c} {l} {p} {r} (hb:fn.body=some c) (hr:fn.results=l.toArray) (k:RL P fn H h p r σ):V4 P (H r) h c p (endX P l r) σ:=by
 unfold RL at k; rw [hb,hr] at k; exact k
end
section
variable {cx:Cx} {N:Nat} {H:St→Prop} {R:Exit→Act→World→Prop}
theorem NM (hm:cx.P.follows .mixedOrders =true):∀ (h:List Unit) (c:Code) (Q:AE→St→Prop) (σ:St) (a:Act) (w:World),EN N c=true→awpH cx.P H h c Q σ→SimE cx N σ a w→
  (∀σ a w,H σ→SimE cx N σ a w→(NL h c).wp cx.P R a w)→(∀q σ a w,Q q σ→SimE cx N σ a w→R (AE.to q) a w)→c.wp cx.P R a w
 | [],c,Q,σ,a,w,hc,h,hs,ht,hq=>by
  rw [cz] at h
  have:=ht σ a w h hs
  simpa [NL] using this
 | x::l,.seq c d,Q,σ,a,w,hc,h,hs,ht,hq=>by
  simp only [EN,Bool.and_eq_true] at hc
  rw [Z3] at h
  refine wp_seq (wp_mono (El hm c _ σ a w hc.1 h hs) ?_)
  rintro e a' w' ⟨q,σ',rfl,hq',hs'⟩
  cases q with
  | normal=>
   have hq2:seqW (Fx c) (awpH cx.P H l d Q) σ':=hq'
   unfold seqW at hq2
   split at hq2
   ·exact NM hm l d Q σ' a' w' hc.2 hq2 hs' ht hq
   ·obtain⟨σ1,h1,h2⟩:=hq2
    exact NM hm l d Q σ1 a' w' hc.2 h2 (LA h1 hs') ht hq
  |exit id=>exact hq (.exit id) σ' a' w' hq' hs'
  |ret=>exact hq .ret σ' a' w' hq' hs'
end
theorem jG {P:Program} (hm:P.follows .mixedOrders =true) {f:FuncId} {fn:Func} {c:Code} {l:List ResultVar} {args:List AV} {r:RV} (h:List Unit) (H:RV→St→Prop) (hf:P.funcs[f]? =some fn) (hb:fn.body=some c) (hr:fn.results=l.toArray) (hnm:(fn.name == "runtime.NumGoroutine")=false)
  (hn:decide (args.length≤fn.ntmps)=true) (hok:EN fn.ntmps c=true)
  (ht:∀ (w0:World) (cx:Cx) (σ:St) (a:Act) (w:World),cx.P=P→Amb P w0→P.low≤w0.heap.size→w.ShapedOpen P→Below w0.heap.size w0 w→AR w0 w→H r σ→SimE cx fn.ntmps σ a w→(NL h c).wp P (bodyPost P fn fun e w'=>∃v fp,e= .returned v∧RSim w' r v fp∧fp.Nodup∧(∀g ∈ fp,w0.heap.size≤g)∧Below w0.heap.size w0 w') a w)
  (k:awpH P (H r) h c (endX P l r) (st0 args)):AC P f args r:=by
 refine⟨by grind [Ez],fun w us hsh hlow hamb hv=>?_⟩
 let g0:Gh:= {Gh.none with vw:=w}
 let cx:Cx:=⟨P,w,w,[],fun _=>False,AR.refl w,by simp,by simp,hlow,hamb,g0,rfl,by simp [g0,Gh.none],by simp [g0,Gh.none]⟩
 refine calls_of_wp hf hb ?_
 have hlen:=hv.length
 have hs0:SimE cx fn.ntmps (st0 args) {tmps:=us.toArray++Array.replicate (fn.ntmps - us.toArray.size) undef,defers:=[]} w:=by
  refine⟨g0,⟨⟨hsh,rfl,rfl,rfl,Nat.le_refl _,fun _ _ _ _=>rfl,by grind⟩,by simp [g0,Gh.none],by simp [g0,Gh.none],by simp [g0,Gh.none],by simp [g0,Gh.none],by simp [g0,Gh.none],by simp [g0,Gh.none],by simp [g0,Gh.none],by simp [g0,Gh.none],by simp [g0,Gh.none],Gh.Ext.refl _,⟨AR.refl w,by simp [g0,Gh.none],by simp [g0,Gh.none],fun a u h=>.inl h⟩⟩,fun i=>?_,by simp [g0,Gh.none],by simp [g0,Gh.none],rfl,?_⟩
  ·refine I1 (w0:=w) (γ:=g0) args us 0 (AK.mono (AR.refl w) (G9 g0) hv) (fun i=>(us.toArray++Array.replicate (fn.ntmps - us.toArray.size) undef).getD i undef) (fun j hj=>?_) i
   simp_all [Array.getElem?_append]
  grind
 have e:endQ P fn.results.toList r=endX P l r:=by
  rw [hr]
  funext q σ
  cases q <;> rfl
 refine NM (cx:=cx) hm h c (endX P l r) _ _ _ hok k hs0 (fun σ a w' hH hs=>?_) ?_
 ·have hs1:=hs
  obtain⟨γ,hs⟩:=hs
  have hbel:Below w.heap.size w w':=⟨hs.os.frm.os,hs.os.frm.tape,hs.os.frm.output,hs.os.frm.size,fun k hk=>hs.os.frm.block k hk (fun h=>h) (by grind)⟩
  exact ht w cx σ a w' rfl hamb hlow hs.os.frm.sh hbel (AR.of_below hbel) hH hs1
 rintro q σ a' w' hq ⟨γ,hs⟩
 rw [← e] at hq
 have key:aG P fn.results.toList r σ→a'.defers=[] ∧∃v,(results fn a'.tmps).run P w'= .ok v w'∧∃v' fp,Ending.returned v= .returned v'∧RSim w' r v' fp∧fp.Nodup∧(∀g ∈ fp,w.heap.size≤g)∧Below w.heap.size w w':=fun hr=>by
  refine⟨hs.df,?_⟩
  obtain⟨us',vs,h1,h2,h3,h4⟩:=IP hs.os hs.sl hr
  have h1:Sem.run P (List.mapM (Qy a'.tmps) fn.results.toList) w'= .ok us' w':=h1
  have hrun:(results fn a'.tmps).run P w'= .ok (if h:us'.toArray.size=1 then us'.toArray[0] else .tuple us'.toArray) w':=by
   rw [M8,Array.mapM_eq_mapM_toList]
   simp [h1]
  have hbel:Below w.heap.size w w':=⟨hs.os.frm.os,hs.os.frm.tape,hs.os.frm.output,hs.os.frm.size,fun k hk=>hs.os.frm.block k hk (fun h=>h) (by grind)⟩
  refine⟨_,hrun,?_⟩
  have fin:∀ {σ':St} {fp:List Nat},Handed' cx γ w' σ σ' fp→∀g ∈ fp,w.heap.size≤g:=fun hh g hg=>by
   rcases (hh.fr g hg).fr with h|h
   ·exact h
   grind
  match vs,h2,h3 with
  | [],h2,h3=>
   obtain⟨σ',fp,-,k1,k2⟩:=Fq hs.os (v:=.tup []) (u:=.tuple us'.toArray) (by grind [VSim]) h3
   have:=h2.length
   exact⟨_,fp,by rw [dif_neg (by grind)],k1,k2.nd,fin k2,hbel⟩
  | [v],h2,h3=>
   simp only [AK] at h2
   obtain⟨u,us'',rfl,hv2,rfl⟩:=h2
   obtain⟨σ',fp,-,k1,k2⟩:=Fq hs.os hv2 h3
   exact⟨u,fp,by simp,k1,k2.nd,fin k2,hbel⟩
  |v1::v2::vs,h2,h3=>
   obtain⟨σ',fp,-,k1,k2⟩:=Fq hs.os (v:=.tup (v1::v2::vs)) (u:=.tuple us'.toArray) (by grind [VSim]) h3
   have:=h2.length
   exact⟨_,fp,by rw [dif_neg (by grind)],k1,k2.nd,fin k2,hbel⟩
 cases q with
 |normal=>exact key hq
 |exit id=>exact hq.elim
 |ret=>exact key hq
end Go.Proofs.YteckcjgpnegkjaaGreatDoor.Ab
namespace Go.Proofs
open Go.Shelf
theorem Tryz.extraWS:Builder.Extra Tryz.prog Tryz.layWS_ren where
 sizeBuilder:=by kernel_rfl
 liesBuilder:=by kernel_rfl
 t5:=Tryz.underlying5
 a5:=Tryz.isAgg5
 z5:=Tryz.sizeOf5
 v5:=Tryz.zeroValue5
 infoByte:=by kernel_rfl
 cellsByte:=by kernel_rfl
 sizeByte:=by kernel_rfl
 neB5:=by decide
theorem Tryz.extraBS:Builder.Extra Tryz.prog Tryz.layBS_ren where
 sizeBuilder:=by kernel_rfl
 liesBuilder:=by kernel_rfl
 t5:=Tryz.underlying5
 a5:=Tryz.isAgg5
 z5:=Tryz.sizeOf5
 v5:=Tryz.zeroValue5
 infoByte:=by kernel_rfl
 cellsByte:=by kernel_rfl
 sizeByte:=by kernel_rfl
 neB5:=by decide
end Go.Proofs
namespace Go.Proofs.YteckcjgpnegkjaaGreatDoor.Ab
set_option linter.unusedVariables false
set_option maxRecDepth 20000
set_option maxHeartbeats 4000000
open Go.RowKit
theorem Ij {m n:Nat} {w w':World} (h:Below n w w') (hm:m≤n):Below m w w':=⟨h.os,h.tape,h.output,h.size,fun k hk=>h.block k (by omega)⟩
theorem S3 {T e:TypeId} {B b:Nat} {p:Value} {bs:List Value} {W W':World} (h:Lib.BuilderAtF T e B b p bs W) (hb:Below W.heap.size W W'):Lib.BuilderAtF T e B b p bs W':=by
 have hlt:=h.lt
 obtain⟨hB,v,hv,hown,hne⟩:=h
 exact⟨hB,v,(hb.block b hlt).trans hv,hown.kept (row:=none) ⟨hb.os,hb.tape,hb.output,hb.size,fun k hk _=>hb.block k hk⟩ (Classical.em _),hne⟩
theorem IF {T e:TypeId} {B b:Nat} {bs:List Value} {W W':World} (h:Lib.IsBuilderF T e B b bs W) (hb:Below W.heap.size W W'):Lib.IsBuilderF T e B b bs W':=
 h.elim (fun x=>.inl (S3 x hb)) (fun x=>.inr (S3 x hb))
theorem V6 (B b:Nat) (bs:List Value) (s:ByteArray) (w:World) (h:Lib.IsBuilderF 89 5 B b bs w) (hlen:bs.length+s.size≤140737488355328) (hBw:B≤w.heap.size):
  Calls Tryz.prog 47 #[.pointer (some ⟨b,0,none⟩),.string s] w fun e w'=>e= .returned (.tuple #[.int .i64 s.size,.nilIface])∧Lib.IsBuilderF 89 5 B b (bs++Lib.strCells s) w'∧Below B w w':=by
 refine(Any.Builder_WriteString_k Tryz.layWS Tryz.extraWS B b bs s w h hlen hBw).mono ?_
 rintro e w' ⟨h1,h2,h3,-⟩
 exact⟨h1,Or.inr h2,h3⟩
theorem c0 (B b:Nat) (l:List UInt8) (w:World) (h:Lib.IsBuilderF 89 5 B b (Lib.byteCells l) w) (hBw:B≤w.heap.size):
  Calls Tryz.prog 50 #[.pointer (some ⟨b,0,none⟩)] w fun e w'=>e= .returned (.string ⟨l.toArray⟩)∧Below B w w':=by
 refine(Any.Builder_String_any_k Tryz.layBS Tryz.extraBS B b l w h hBw).mono ?_
 rintro e w' ⟨h1,-,h3,-⟩
 exact⟨h1,h3⟩
theorem S4 {w w':World} (hsh:w.ShapedOpen Tryz.prog) (hlow:Tryz.prog.low≤w.heap.size) (hamb:Amb Tryz.prog w) (hb:Below w.heap.size w w'):w'.ShapedOpen Tryz.prog∧Tryz.prog.low≤w'.heap.size∧Amb Tryz.prog w':=
 ⟨Nb hsh hb,Nat.le_trans hlow hb.size,QE hamb fun k hk=>hb.block k (Nat.lt_of_lt_of_le hk hlow)⟩
theorem Z4 {w:World} (hsh:w.ShapedOpen Tryz.prog) (hlow:Tryz.prog.low≤w.heap.size) (hamb:Amb Tryz.prog w) {tot:List Int} {s:Int} {v:Value} (h:LR tot=some s) (hv:Rep w (.sl (List.map AS tot)) v):
  Calls Tryz.prog 46 #[v] w fun e w'=>e= .returned (.int .i64 s)∧(Lit.int .i64 s).wf =true∧Below w.heap.size w w':=by
 refine((V7 tot s h).2 w [v] hsh hlow hamb (by simp only [AK,VSim]; exact⟨v,[],rfl,hv,rfl⟩)).mono ?_
 rintro e w' ⟨v,fp,rfl,hr,-,-,hb⟩
 simp only [RSim] at hr
 exact⟨by rw [hr.1],hr.2.1,hb⟩
theorem MN {w:World} (hsh:w.ShapedOpen Tryz.prog) (hlow:Tryz.prog.low≤w.heap.size) (hamb:Amb Tryz.prog w) {n:Int} {d:ByteArray} (h:D7 n=some d) (hn:(Lit.int .i64 n).wf =true):
  Calls Tryz.prog 48 #[.int .i64 n] w fun e w'=>e= .returned (.string d)∧Below w.heap.size w w':=by
 refine((Tw n d h).2 w [.int .i64 n] hsh hlow hamb (by simp only [AK,VSim]; exact⟨_,[],rfl,⟨rfl,hn⟩,rfl⟩)).mono ?_
 rintro e w' ⟨v,fp,rfl,hr,-,-,hb⟩
 simp only [RSim] at hr
 exact⟨by rw [hr.1],hb⟩
theorem Z5 {w:World} (hsh:w.ShapedOpen Tryz.prog) (hlow:Tryz.prog.low≤w.heap.size) (hamb:Amb Tryz.prog w) {n:Int} {d:ByteArray} (h:DD n=some d) (hn:(Lit.int .i64 n).wf =true):
  Calls Tryz.prog 49 #[.int .i64 n] w fun e w'=>e= .returned (.string d)∧Below w.heap.size w w':=by
 refine((RM n d h).2 w [.int .i64 n] hsh hlow hamb (by simp only [AK,VSim]; exact⟨_,[],rfl,⟨rfl,hn⟩,rfl⟩)).mono ?_
 rintro e w' ⟨v,fp,rfl,hr,-,-,hb⟩
 simp only [RSim] at hr
 exact⟨by rw [hr.1],hb⟩
abbrev hh:List Unit:=[(),(),(),(),(),()]
theorem AN {n:Nat} {l:List Value} (h:l.length=n+1):∃x t,t.length=n∧l=x::t:=by
 cases l with
 |nil=>cases h
 |cons x t=>exact⟨x,t,by simpa using h,rfl⟩
theorem nE (a:Array Value) (h:a.size=90):∃x0 x1 x2 x3 x4 x5 x6 x7 x8 x9 x10 x11 x12 x13 x14 x15 x16 x17 x18 x19 x20 x21 x22 x23 x24 x25 x26 x27 x28 x29 x30 x31 x32 x33 x34 x35 x36 x37 x38 x39 x40 x41 x42 x43 x44 x45 x46 x47 x48 x49 x50 x51 x52 x53 x54 x55 x56 x57 x58 x59 x60 x61 x62 x63 x64 x65 x66 x67 x68 x69 x70 x71 x72 x73 x74 x75 x76 x77 x78 x79 x80 x81 x82 x83 x84 x85 x86 x87 x88 x89,a= #[x0,x1,x2,x3,x4,x5,x6,x7,x8,x9,x10,x11,x12,x13,x14,x15,x16,x17,x18,x19,x20,x21,x22,x23,x24,x25,x26,x27,x28,x29,x30,x31,x32,x33,x34,x35,x36,x37,x38,x39,x40,x41,x42,x43,x44,x45,x46,x47,x48,x49,x50,x51,x52,x53,x54,x55,x56,x57,x58,x59,x60,x61,x62,x63,x64,x65,x66,x67,x68,x69,x70,x71,x72,x73,x74,x75,x76,x77,x78,x79,x80,x81,x82,x83,x84,x85,x86,x87,x88,x89] :=by
 obtain⟨l⟩:=a
 replace h:l.length=90:=h
 obtain⟨x0,l1,h1,rfl⟩:=AN h
 obtain⟨x1,l2,h2,rfl⟩:=AN h1
 obtain⟨x2,l3,h3,rfl⟩:=AN h2
 obtain⟨x3,l4,h4,rfl⟩:=AN h3
 obtain⟨x4,l5,h5,rfl⟩:=AN h4
 obtain⟨x5,l6,h6,rfl⟩:=AN h5
 obtain⟨x6,l7,h7,rfl⟩:=AN h6
 obtain⟨x7,l8,h8,rfl⟩:=AN h7
 obtain⟨x8,l9,h9,rfl⟩:=AN h8
 obtain⟨x9,l10,h10,rfl⟩:=AN h9
 obtain⟨x10,l11,h11,rfl⟩:=AN h10
 obtain⟨x11,l12,h12,rfl⟩:=AN h11
 obtain⟨x12,l13,h13,rfl⟩:=AN h12
 obtain⟨x13,l14,h14,rfl⟩:=AN h13
 obtain⟨x14,l15,h15,rfl⟩:=AN h14
 obtain⟨x15,l16,h16,rfl⟩:=AN h15
 obtain⟨x16,l17,h17,rfl⟩:=AN h16
 obtain⟨x17,l18,h18,rfl⟩:=AN h17
 obtain⟨x18,l19,h19,rfl⟩:=AN h18
 obtain⟨x19,l20,h20,rfl⟩:=AN h19
 obtain⟨x20,l21,h21,rfl⟩:=AN h20
 obtain⟨x21,l22,h22,rfl⟩:=AN h21
 obtain⟨x22,l23,h23,rfl⟩:=AN h22
 obtain⟨x23,l24,h24,rfl⟩:=AN h23
 obtain⟨x24,l25,h25,rfl⟩:=AN h24
 obtain⟨x25,l26,h26,rfl⟩:=AN h25
 obtain⟨x26,l27,h27,rfl⟩:=AN h26
 obtain⟨x27,l28,h28,rfl⟩:=AN h27
 obtain⟨x28,l29,h29,rfl⟩:=AN h28
 obtain⟨x29,l30,h30,rfl⟩:=AN h29
 obtain⟨x30,l31,h31,rfl⟩:=AN h30
 obtain⟨x31,l32,h32,rfl⟩:=AN h31
 obtain⟨x32,l33,h33,rfl⟩:=AN h32
 obtain⟨x33,l34,h34,rfl⟩:=AN h33
 obtain⟨x34,l35,h35,rfl⟩:=AN h34
 obtain⟨x35,l36,h36,rfl⟩:=AN h35
 obtain⟨x36,l37,h37,rfl⟩:=AN h36
 obtain⟨x37,l38,h38,rfl⟩:=AN h37
 obtain⟨x38,l39,h39,rfl⟩:=AN h38
 obtain⟨x39,l40,h40,rfl⟩:=AN h39
 obtain⟨x40,l41,h41,rfl⟩:=AN h40
 obtain⟨x41,l42,h42,rfl⟩:=AN h41
 obtain⟨x42,l43,h43,rfl⟩:=AN h42
 obtain⟨x43,l44,h44,rfl⟩:=AN h43
 obtain⟨x44,l45,h45,rfl⟩:=AN h44
 obtain⟨x45,l46,h46,rfl⟩:=AN h45
 obtain⟨x46,l47,h47,rfl⟩:=AN h46
 obtain⟨x47,l48,h48,rfl⟩:=AN h47
 obtain⟨x48,l49,h49,rfl⟩:=AN h48
 obtain⟨x49,l50,h50,rfl⟩:=AN h49
 obtain⟨x50,l51,h51,rfl⟩:=AN h50
 obtain⟨x51,l52,h52,rfl⟩:=AN h51
 obtain⟨x52,l53,h53,rfl⟩:=AN h52
 obtain⟨x53,l54,h54,rfl⟩:=AN h53
 obtain⟨x54,l55,h55,rfl⟩:=AN h54
 obtain⟨x55,l56,h56,rfl⟩:=AN h55
 obtain⟨x56,l57,h57,rfl⟩:=AN h56
 obtain⟨x57,l58,h58,rfl⟩:=AN h57
 obtain⟨x58,l59,h59,rfl⟩:=AN h58
 obtain⟨x59,l60,h60,rfl⟩:=AN h59
 obtain⟨x60,l61,h61,rfl⟩:=AN h60
 obtain⟨x61,l62,h62,rfl⟩:=AN h61
 obtain⟨x62,l63,h63,rfl⟩:=AN h62
 obtain⟨x63,l64,h64,rfl⟩:=AN h63
 obtain⟨x64,l65,h65,rfl⟩:=AN h64
 obtain⟨x65,l66,h66,rfl⟩:=AN h65
 obtain⟨x66,l67,h67,rfl⟩:=AN h66
 obtain⟨x67,l68,h68,rfl⟩:=AN h67
 obtain⟨x68,l69,h69,rfl⟩:=AN h68
 obtain⟨x69,l70,h70,rfl⟩:=AN h69
 obtain⟨x70,l71,h71,rfl⟩:=AN h70
 obtain⟨x71,l72,h72,rfl⟩:=AN h71
 obtain⟨x72,l73,h73,rfl⟩:=AN h72
 obtain⟨x73,l74,h74,rfl⟩:=AN h73
 obtain⟨x74,l75,h75,rfl⟩:=AN h74
 obtain⟨x75,l76,h76,rfl⟩:=AN h75
 obtain⟨x76,l77,h77,rfl⟩:=AN h76
 obtain⟨x77,l78,h78,rfl⟩:=AN h77
 obtain⟨x78,l79,h79,rfl⟩:=AN h78
 obtain⟨x79,l80,h80,rfl⟩:=AN h79
 obtain⟨x80,l81,h81,rfl⟩:=AN h80
 obtain⟨x81,l82,h82,rfl⟩:=AN h81
 obtain⟨x82,l83,h83,rfl⟩:=AN h82
 obtain⟨x83,l84,h84,rfl⟩:=AN h83
 obtain⟨x84,l85,h85,rfl⟩:=AN h84
 obtain⟨x85,l86,h86,rfl⟩:=AN h85
 obtain⟨x86,l87,h87,rfl⟩:=AN h86
 obtain⟨x87,l88,h88,rfl⟩:=AN h87
 obtain⟨x88,l89,h89,rfl⟩:=AN h88
 obtain⟨x89,l90,h90,rfl⟩:=AN h89
 cases l90 with
 |nil=>exact⟨x0,x1,x2,x3,x4,x5,x6,x7,x8,x9,x10,x11,x12,x13,x14,x15,x16,x17,x18,x19,x20,x21,x22,x23,x24,x25,x26,x27,x28,x29,x30,x31,x32,x33,x34,x35,x36,x37,x38,x39,x40,x41,x42,x43,x44,x45,x46,x47,x48,x49,x50,x51,x52,x53,x54,x55,x56,x57,x58,x59,x60,x61,x62,x63,x64,x65,x66,x67,x68,x69,x70,x71,x72,x73,x74,x75,x76,x77,x78,x79,x80,x81,x82,x83,x84,x85,x86,x87,x88,x89,rfl⟩
 |cons x l=>cases h90
theorem S5 (d1 d2 d3:ByteArray):(JM d1 d2 d3).size =18+d1.size+d2.size+d3.size:=by
 simp only [JM,ByteArray.size_append]
 have a:(⟨#[119,111,114,107,32]⟩:ByteArray).size =5:=rfl
 have b:(⟨#[32,115,112,97,110,32]⟩:ByteArray).size =6:=rfl
 have c:(⟨#[32,119,105,100,116,104,32]⟩:ByteArray).size =7:=rfl
 omega
theorem S6 (nm d:ByteArray):(HU nm d).size =2+nm.size+d.size:=by
 simp only [HU,ByteArray.size_append]
 have a:(⟨#[32]⟩:ByteArray).size =1:=rfl
 omega
theorem fo (w:World) (hsh:w.ShapedOpen Tryz.prog) (hlow:Tryz.prog.low≤w.heap.size) (hamb:Amb Tryz.prog w) (x0 x1 x2 x3 x4 x5 x6 x7 x8 x9 x10 x11 x12 x13 x14 x15 x16 x17 x18 x19 x20 x21 x22 x23 x24 x25 x26 x27 x28 x29 x30 x31 x32 x33 x34 x35 x36 x37 x38 x39 x40 x41 x42 x43 x44 x45 x46 x47 x48 x49 x50 x51 x52 x53 x54 x55 x56 x57 x58 x59 x60 x61 x62 x63 x64 x65 x66 x67 x68 x69 x70 x71 x72 x73 x74 x75 x76 x77 x78 x79 x80 x81 x82 x83 x84 x85 x86 x87 x88 x89:Value) (tot:List Int) (nr:Nat) (width:Int) (out:ByteArray × Int) (hx8:∃a c,x8= .slice a nr c) (hnr:nr≤maxLen) (hx10:x10= .int .i64 width) (hwd:(Lit.int .i64 width).wf =true)
  (hx11:Rep w (.sl (List.map AS tot)) x11) (ht:Ou LR D7 DD tot nr width=some out):
  (NL hh (Tryz.f20.body.getD .skip)).wp Tryz.prog (bodyPost Tryz.prog Tryz.f20 fun e w'=>e= .returned (.tuple #[.string out.1,.int .i64 0])∧out.2 =0∧out.1.size ≤maxLen∧Below w.heap.size w w') {tmps:= #[x0,x1,x2,x3,x4,x5,x6,x7,x8,x9,x10,x11,x12,x13,x14,x15,x16,x17,x18,x19,x20,x21,x22,x23,x24,x25,x26,x27,x28,x29,x30,x31,x32,x33,x34,x35,x36,x37,x38,x39,x40,x41,x42,x43,x44,x45,x46,x47,x48,x49,x50,x51,x52,x53,x54,x55,x56,x57,x58,x59,x60,x61,x62,x63,x64,x65,x66,x67,x68,x69,x70,x71,x72,x73,x74,x75,x76,x77,x78,x79,x80,x81,x82,x83,x84,x85,x86,x87,x88,x89],defers:=[]} w:=by
 obtain⟨a8,c8,rfl⟩:=hx8
 subst hx10
 conv=>
  arg 2
  unfold Tryz.f20
  simp only [Option.getD_some,NL]
 unfold Ou at ht
 obtain⟨s,hs,ht⟩:=AB ht
 obtain⟨d1,hd1,ht⟩:=AB ht
 obtain⟨d2,hd2,ht⟩:=AB ht
 obtain⟨d3,hd3,ht⟩:=AB ht
 split at ht
 case isFalse=>cases ht
 rename_i hsz
 obtain⟨txt,ht,rfl⟩:=Option.map_eq_some_iff.1 ht
 have hx11':=hx11
 simp only [Rep,List.length_map] at hx11'
 obtain⟨a11,c11,rfl,hc1,hc2,hrow⟩:=hx11'
 have hb1:Below w.heap.size w (w.alloc (.cells #[.pointer none,.slice none 0 0] 89)):=(Below.refl _ w).alloc (Nat.le_refl _) _
 have hI1:=Lib.IsBuilderF.of (Lib.fresh_isBuilder 89 5 w)
 obtain⟨sh,lo,am⟩:=S4 hsh hlow hamb hb1
 go_wp2_with fail
 refine((Z4 sh lo am hs (Rep.keep (AR.of_below hb1) _ _ hx11)).mono ?_)
 rintro e w2 ⟨rfl,hwf,hb⟩
 have hb2:=hb1.trans (Ij hb hb1.size)
 have hI2:=IF hI1 hb
 clear sh lo am hb hb1 hI1
 obtain⟨sh,lo,am⟩:=S4 hsh hlow hamb hb2
 go_wp2_with fail
 refine(MN sh lo am hd1 hwf).mono ?_
 rintro e w3 ⟨rfl,hb⟩
 have hb3:=hb2.trans (Ij hb hb2.size)
 have hI3:=IF hI2 hb
 clear sh lo am hb hb2 hI2
 obtain⟨sh,lo,am⟩:=S4 hsh hlow hamb hb3
 go_wp2_with fail
 refine(MN sh lo am hd2 ?wf2).mono ?_
 case wf2=>unfold maxLen at hnr; simp [Lit.wf,IntKind.min,IntKind.max,IntKind.signed,IntKind.bits]; omega
 rintro e w4 ⟨rfl,hb⟩
 have hb4:=hb3.trans (Ij hb hb3.size)
 have hI4:=IF hI3 hb
 clear sh lo am hb hb3 hI3
 obtain⟨sh,lo,am⟩:=S4 hsh hlow hamb hb4
 go_wp2_with fail
 refine(MN sh lo am hd3 hwd).mono ?_
 rintro e w5 ⟨rfl,hb⟩
 have hb5:=hb4.trans (Ij hb hb4.size)
 have hI5:=IF hI4 hb
 clear sh lo am hb hb4 hI4
 go_wp2_with fail
 refine(V6 w.heap.size w.heap.size [] (JM d1 d2 d3) w5 hI5 ?len ?le).mono ?_
 case len=>rw [S5]; simp only [List.length_nil]; omega
 case le=>exact hb5.size
 rintro e w6 ⟨rfl,hI,hb⟩
 have hb6:=hb5.trans hb
 have hI6:Lib.IsBuilderF 89 5 w.heap.size w.heap.size (Lib.byteCells (JM d1 d2 d3).data.toList) w6:=hI
 clear hb hb5 hI5 hI
 go_wp2_with fail
 go_loopw [72] (fun v72 wr=>∃ (i:Nat) (acc:ByteArray),v72= .int .i64 (i:Int)∧i≤tot.length∧Lib.IsBuilderF 89 5 w.heap.size w.heap.size (Lib.byteCells acc.data.toList) wr∧Below w.heap.size w wr∧acc.size≤1099511627800∧G1 D7 DD i (tot.drop i) acc=some txt) (fun v72 wr=>tot.length - (match v72 with| .int _ n=>n.toNat|_=>0))
 case atStart=>exact⟨0,JM d1 d2 d3,rfl,Nat.zero_le _,hI6,hb6,by rw [S5]; omega,by simpa using ht⟩
 case round=>
  obtain⟨i,acc,rfl,hi,hI,hbr,hac,hl⟩:=hrel
  by_cases hlt:i<tot.length
  ·have hltI:(i:Int)<(tot.length:Int):=by omega
   obtain⟨sz,b,off,rfl,hr⟩:=hrow.resolve_left (by intro h; rw [List.map_eq_nil_iff] at h; subst h; simp at hlt)
   have hc:=hr.at i (by simpa using hlt)
   rw [List.getElem_map] at hc
   obtain⟨hc0,hc⟩:=hc
   have hs1:sz=1:=by rw [← hc0]; rfl
   subst hs1
   simp only [AS,RepC,Rep,Nat.mul_one] at hc
   obtain⟨⟨u,hu,rfl,hcw⟩,-⟩:=hc
   have hcell:=AR.of_below hbr _ _ hu
   have hdrop:tot.drop i=tot[i] ::tot.drop (i+1):=List.drop_eq_getElem_cons hlt
   rw [hdrop] at hl
   generalize tot[i] =c at*
   have hb0:0≤(i:Int):=by omega
   by_cases hpos:0<c
   ·rw [G1,if_pos hpos] at hl
    obtain⟨nm,hnm,hl⟩:=AB hl
    obtain⟨d,hd,hl⟩:=AB hl
    split at hl
    case isFalse=>cases hl
    rename_i hsz2
    obtain⟨sh,lo,am⟩:=S4 hsh hlow hamb hbr
    go_wp2_with fail
    refine(Z5 sh lo am hnm ?wf).mono ?_
    case wf=>simp [Lit.wf,IntKind.min,IntKind.max,IntKind.signed,IntKind.bits]; omega
    rintro e w7 ⟨rfl,hb⟩
    have hb7:=hbr.trans (Ij hb hbr.size)
    have hI7:=IF hI hb
    clear sh lo am hb hI
    obtain⟨sh,lo,am⟩:=S4 hsh hlow hamb hb7
    go_wp2_with fail
    refine(MN sh lo am hd hcw).mono ?_
    rintro e w8 ⟨rfl,hb⟩
    have hb8:=hb7.trans (Ij hb hb7.size)
    have hI8:=IF hI7 hb
    clear sh lo am hb hI7 hb7
    go_wp2_with fail
    refine(V6 w.heap.size w.heap.size _ (HU nm d) w8 hI8 ?len ?le).mono ?_
    case len=>rw [S6,Lib.byteCells_length,show acc.data.toList.length=acc.size from Array.length_toList]; omega
    case le=>exact hb8.size
    rintro e w9 ⟨rfl,hI9,hb⟩
    have hI10:Lib.IsBuilderF 89 5 w.heap.size w.heap.size (Lib.byteCells (acc++HU nm d).data.toList) w9:=by
     have e:(acc++HU nm d).data.toList =acc.data.toList++(HU nm d).data.toList :=by simp
     rw [e,Lib.byteCells_append]
     exact hI9
    go_wp2_with fail
    refine⟨⟨i+1,acc++HU nm d,by simp,by omega,hI10,hb8.trans hb,by rw [ByteArray.size_append,S6]; omega,hl⟩,?_⟩
    show tot.length - ((i:Int)+1).toNat <tot.length - (i:Int).toNat
    omega
   ·rw [G1,if_neg hpos] at hl
    go_wp2_with fail
    refine⟨⟨i+1,acc,by simp,by omega,hI,hbr,hac,hl⟩,?_⟩
    show tot.length - ((i:Int)+1).toNat <tot.length - (i:Int).toNat
    omega
  ·have hltI:¬ (i:Int)<(tot.length:Int):=by omega
   have hdrop:tot.drop i=[] :=List.drop_eq_nil_iff.2 (by omega)
   rw [hdrop] at hl
   simp only [G1,Option.some.injEq] at hl
   subst hl
   go_wp2_with fail
   refine(c0 w.heap.size w.heap.size acc.data.toList wr hI hbr.size).mono ?_
   rintro e w7 ⟨rfl,hb⟩
   go_wp2_with fail
   go_ret2
   exact⟨rfl,by unfold maxLen; omega,hbr.trans hb⟩
def ptH (r:RV) (σ:St):Prop:=∃rows t tot width out,σ.g 8= .ro rows∧σ.g 10= .int .i64 width∧σ.g 11= .own t∧σ.T t=some ⟨List.map AS tot,some 1,0,false⟩∧Ou LR D7 DD tot rows.length width=some out∧r= .tup [.str out.1,.int .i64 out.2]
theorem jH {σ:St} {rows:List (List D)} {width:Int} {t:Nat} {tot:List Int} {nr:Nat} {out:ByteArray × Int} (h8:σ.g 8= .ro rows) (h10:σ.g 10= .int .i64 width) (h11:σ.g 11= .own t) (h:Ou LR D7 DD tot nr width=some out) (hn:rows.length=nr) (hT:σ.T t=some ⟨List.map AS tot,some 1,0,false⟩):ptH (.tup [.str out.1,.int .i64 out.2]) σ:=
 ⟨rows,t,tot,width,out,h8,h10,h11,hT,by rw [hn]; exact h,rfl⟩
theorem Z6 {r:RV} (w0:World) (cx:Cx) (σ:St) (a:Act) (w:World) (hP:cx.P=Tryz.prog) (hamb:Amb Tryz.prog w0) (hlow:Tryz.prog.low≤w0.heap.size) (hsh:w.ShapedOpen Tryz.prog) (hb:Below w0.heap.size w0 w) (hk:AR w0 w) (hH:ptH r σ) (hs:SimE cx (Tryz.f20).ntmps σ a w):
  (NL hh (Tryz.f20.body.getD .skip)).wp Tryz.prog (bodyPost Tryz.prog Tryz.f20 fun e w'=>∃v fp,e= .returned v∧RSim w' r v fp∧fp.Nodup∧(∀g ∈ fp,w0.heap.size≤g)∧Below w0.heap.size w0 w') a w:=by
 obtain⟨rows,t,tot,width,out,h8,h10,h11,hT,ht,rfl⟩:=hH
 obtain⟨γ,hs⟩:=hs
 obtain⟨tm,df⟩:=a
 have hdf:=hs.df
 have hsz:=hs.n
 simp only at hdf hsz
 subst hdf
 have e8:=hs.sl 8
 have e10:=hs.sl 10
 have e11:=hs.sl 11
 rw [h8] at e8
 rw [h10] at e10
 rw [h11] at e11
 have htok:=fun h=>hs.os.tok t _ h hT
 have hvw:=hs.os.vw.k
 clear hs
 obtain⟨x0,x1,x2,x3,x4,x5,x6,x7,x8,x9,x10,x11,x12,x13,x14,x15,x16,x17,x18,x19,x20,x21,x22,x23,x24,x25,x26,x27,x28,x29,x30,x31,x32,x33,x34,x35,x36,x37,x38,x39,x40,x41,x42,x43,x44,x45,x46,x47,x48,x49,x50,x51,x52,x53,x54,x55,x56,x57,x58,x59,x60,x61,x62,x63,x64,x65,x66,x67,x68,x69,x70,x71,x72,x73,x74,x75,x76,x77,x78,x79,x80,x81,x82,x83,x84,x85,x86,x87,x88,x89,rfl⟩:=nE tm hsz
 simp only [VSim,Rep] at e8
 obtain⟨a8,c8,v8,k8,k9,-⟩:=e8
 simp only [VSim] at e10 e11
 obtain⟨e10,hwd⟩:=e10
 obtain⟨⟨htl,-⟩,e11⟩:=e11
 have hrep:=(htok htl).rep hvw
 rw [← e11] at hrep
 refine wp_mono (fo w hsh (Nat.le_trans hlow hb.size) (QE hamb fun k hk=>hb.block k (Nat.lt_of_lt_of_le hk hlow)) x0 x1 x2 x3 x4 x5 x6 x7 x8 x9 x10 x11 x12 x13 x14 x15 x16 x17 x18 x19 x20 x21 x22 x23 x24 x25 x26 x27 x28 x29 x30 x31 x32 x33 x34 x35 x36 x37 x38 x39 x40 x41 x42 x43 x44 x45 x46 x47 x48 x49 x50 x51 x52 x53 x54 x55 x56 x57 x58 x59 x60 x61 x62 x63 x64 x65 x66 x67 x68 x69 x70 x71 x72 x73 x74 x75 x76 x77 x78 x79 x80 x81 x82 x83 x84 x85 x86 x87 x88 x89 tot rows.length width out ⟨a8,c8,v8⟩ (by omega) e10 hwd hrep ht) ?_
 have key:∀ (e:Ending) w',(e= .returned (.tuple #[.string out.1,.int .i64 0])∧out.2 =0∧out.1.size ≤maxLen∧Below w.heap.size w w')→∃v fp,e= .returned v∧RSim w' (.tup [.str out.1,.int .i64 out.2]) v fp∧fp.Nodup∧(∀g ∈ fp,w0.heap.size≤g)∧Below w0.heap.size w0 w':=by
  rintro e w' ⟨rfl,h2,h3,h4⟩
  refine⟨_,[],rfl,?_,List.nodup_nil,(by simp),hb.trans (Ij h4 hb.size)⟩
  simp only [RSim,Mb]
  exact⟨[.string out.1,.int .i64 0],rfl,_,_,[],[],rfl,⟨rfl,h3,rfl⟩,⟨_,_,[],[],rfl,⟨by rw [h2],by rw [h2]; rfl,rfl⟩,⟨rfl,rfl⟩,rfl⟩,rfl⟩
 intro e a' w' hp
 cases e with
 |normal=>obtain⟨h1,v,h2,h3⟩:=hp; exact⟨h1,v,h2,key _ _ h3⟩
 |ret=>obtain⟨h1,v,h2,h3⟩:=hp; exact⟨h1,v,h2,key _ _ h3⟩
 |panic c=>exact⟨hp.1,key _ _ hp.2⟩
 |outgrown=>exact key _ _ hp
 |exit i=>exact hp.elim
 |goto i=>exact hp.elim
end Go.Proofs.YteckcjgpnegkjaaGreatDoor.Ab
