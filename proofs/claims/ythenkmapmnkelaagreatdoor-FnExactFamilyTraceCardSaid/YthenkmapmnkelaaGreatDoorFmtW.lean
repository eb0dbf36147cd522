/- The library's contracts laid at this program, in plain words. -/
import Derived.Shelf.Strconv.Itoa4
import Derived.Ground.NamesProg
import Derived.Test.YthenkmapmnkelaaGreatDoorProg
import Derived.Test.YthenkmapmnkelaaGreatDoorAbS
import Derived.Test.YthenkmapmnkelaaGreatDoorModQ
import Derived.Test.YthenkmapmnkelaaGreatDoorTi2
namespace Go.Proofs
open Go.Shelf
def Tryz.layFmt_ren:Go.Shelf.Ren:=⟨fun|173=>162|246=>170|283=>174|284=>175|285=>176|286=>177|129=>179|317=>178|318=>180|319=>181|320=>182|337=>183|338=>184|n=>n,fun|2=>2|3=>3|9=>9|4=>4|171=>211|0=>0|53=>201|37=>199|5=>5|173=>214|212=>218|51=>200|20=>20|213=>219|46=>221|232=>224|233=>225|n=>n,fun|17=>0|18=>1|19=>2|n=>n⟩
theorem Tryz.layFmt:Go.Proofs.LaysM.n173 Tryz.prog Tryz.layFmt_ren:= {
 mixed:=by kernel_rfl
 f129:=Tryz.func179.trans (congrArg some (by kernel_rfl))
 f173:=Tryz.func162.trans (congrArg some (by kernel_rfl))
 f246:=Tryz.func170.trans (congrArg some (by kernel_rfl))
 f283:=Tryz.func174.trans (congrArg some (by kernel_rfl))
 f284:=Tryz.func175.trans (congrArg some (by kernel_rfl))
 f285:=Tryz.func176.trans (congrArg some (by kernel_rfl))
 f286:=Tryz.func177.trans (congrArg some (by kernel_rfl))
 f317:=Tryz.func178.trans (congrArg some (by kernel_rfl))
 f318:=Tryz.func180.trans (congrArg some (by kernel_rfl))
 f319:=Tryz.func181.trans (congrArg some (by kernel_rfl))
 f320:=Tryz.func182.trans (congrArg some (by kernel_rfl))
 f337:=Tryz.func183.trans (congrArg some (by kernel_rfl))
 f338:=Tryz.func184.trans (congrArg some (by kernel_rfl))
 t0:=Tryz.underlying0
 a0:=Tryz.isAgg0
 z0:=Tryz.sizeOf0
 v0:=Tryz.zeroValue0
 t2:=Tryz.underlying2
 a2:=Tryz.isAgg2
 z2:=Tryz.sizeOf2
 v2:=Tryz.zeroValue2
 t3:=Tryz.underlying3
 a3:=Tryz.isAgg3
 z3:=Tryz.sizeOf3
 v3:=Tryz.zeroValue3
 t4:=Tryz.underlying4
 a4:=Tryz.isAgg4
 z4:=Tryz.sizeOf4
 v4:=Tryz.zeroValue4
 t5:=Tryz.underlying5
 a5:=Tryz.isAgg5
 z5:=Tryz.sizeOf5
 v5:=Tryz.zeroValue5
 t9:=Tryz.underlying9
 a9:=Tryz.isAgg9
 z9:=Tryz.sizeOf9
 v9:=Tryz.zeroValue9
 t20:=Tryz.underlying20
 a20:=Tryz.isAgg20
 z20:=Tryz.sizeOf20
 v20:=Tryz.zeroValue20
 t37:=Tryz.underlying199
 a37:=Tryz.isAgg199
 z37:=Tryz.sizeOf199
 v37:=Tryz.zeroValue199
 t46:=Tryz.underlying221
 a46:=Tryz.isAgg221
 z46:=Tryz.sizeOf221
 v46:=Tryz.zeroValue221
 t51:=Tryz.underlying200
 a51:=Tryz.isAgg200
 z51:=Tryz.sizeOf200
 v51:=Tryz.zeroValue200
 t53:=Tryz.underlying201
 a53:=Tryz.isAgg201
 z53:=Tryz.sizeOf201
 v53:=Tryz.zeroValue201
 t171:=Tryz.underlying211
 a171:=Tryz.isAgg211
 z171:=Tryz.sizeOf211
 v171:=Tryz.zeroValue211
 t173:=Tryz.underlying214
 a173:=Tryz.isAgg214
 z173:=Tryz.sizeOf214
 v173:=Tryz.zeroValue214
 t212:=Tryz.underlying218
 a212:=Tryz.isAgg218
 z212:=Tryz.sizeOf218
 v212:=Tryz.zeroValue218
 t213:=Tryz.underlying219
 a213:=Tryz.isAgg219
 z213:=Tryz.sizeOf219
 t232:=Tryz.underlying224
 a232:=Tryz.isAgg224
 z232:=Tryz.sizeOf224
 v232:=Tryz.zeroValue224
 t233:=Tryz.underlying225
 a233:=Tryz.isAgg225
 z233:=Tryz.sizeOf225
 v233:=Tryz.zeroValue225
 g17:=by kernel_rfl
 g18:=by kernel_rfl
 g19:=by kernel_rfl
 i0:=by kernel_rfl
 i2:=by kernel_rfl
 i3:=by kernel_rfl
 i4:=by kernel_rfl
 i5:=by kernel_rfl
 i9:=by kernel_rfl
 i20:=by kernel_rfl
 i37:=by kernel_rfl
 i46:=by kernel_rfl
 i51:=by kernel_rfl
 i53:=by kernel_rfl
 i171:=by kernel_rfl
 i173:=by kernel_rfl
 i212:=by kernel_rfl
 i232:=by kernel_rfl
 i233:=by kernel_rfl
 m17:=by kernel_rfl
 m18:=by kernel_rfl
 m19:=by kernel_rfl}
end Go.Proofs
namespace Go.Proofs.YthenkmapmnkelaaGreatDoor.Ab
set_option linter.unusedVariables false
set_option linter.unusedSimpArgs false
set_option maxRecDepth 20000
open Go.RowKit Go.Sort
theorem aX {w:World} {n:Nat} {os:Array Obj}:Below w.heap.size w (Sort.grow (w.drewN n) os):=by
 refine⟨rfl,rfl,rfl,?_,fun k hk=>?_⟩
 ·show w.heap.size≤(w.heap++os).size
  simp
 ·show (w.heap++os)[k]? =w.heap[k]?
  rw [Array.getElem?_append,if_pos hk]
theorem UC (a0 a1:Int) (r:ByteArray) (h:Mm a0 a1=some r):AC Tryz.prog 162 [.int .i64 a0,.int .i64 a1] (.str r):=by
 unfold Mm at h
 split at h
 case isFalse=>cases h
 rename_i h10
 subst h10
 cases h
 refine⟨by kernel_rfl,fun w us hsh hlow hamb hv=>?_⟩
 simp only [AH,VSim,Rep] at hv
 obtain⟨u,us',rfl,⟨rfl,hw⟩,u2,us2,rfl,⟨rfl,-⟩,rfl⟩:=hv
 have hr: -9223372036854775808≤a0∧a0≤9223372036854775807:=by simpa [Lit.wf,IntKind.min,IntKind.max,IntKind.signed,IntKind.bits] using hw
 refine(show Calls Tryz.prog 162 #[.int .i64 a0,.int .i64 10] w _ from Any.strconv_FormatInt_10 Tryz.layFmt a0 hr.1 hr.2 w hamb.2).mono ?_
 rintro e w' ⟨rfl,k,os,rfl⟩
 refine⟨_,[],rfl,⟨rfl,?_,rfl⟩,by simp,by simp,aX⟩
 have:=Lib.itoa_length_le a0 hr.1 hr.2
 show (Lib.itoa a0).toArray.size ≤maxLen
 rw [List.size_toArray]
 unfold maxLen
 omega
end Go.Proofs.YthenkmapmnkelaaGreatDoor.Ab
