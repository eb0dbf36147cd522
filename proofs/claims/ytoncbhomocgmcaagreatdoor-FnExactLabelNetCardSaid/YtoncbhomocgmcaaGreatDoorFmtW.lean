/-
  The library's contracts laid at this program, in plain words (printed by the kit's lay-plain).
-/
import Derived.Shelf.Strconv.Itoa4
import Derived.Ground.NamesProg
import Derived.Test.YtoncbhomocgmcaaGreatDoorProg
import Derived.Test.YtoncbhomocgmcaaGreatDoorAbS
import Derived.Test.YtoncbhomocgmcaaGreatDoorModQ
import Derived.Test.YtoncbhomocgmcaaGreatDoorTi2
namespace Go.Proofs
open Go.Shelf
def Tryz.layFmt_ren:Go.Shelf.Ren:=⟨fun|173=>89|246=>104|283=>111|284=>112|285=>113|286=>114|129=>116|317=>115|318=>117|319=>118|320=>119|337=>120|338=>121|n=>n,fun|2=>2|3=>3|9=>9|4=>4|171=>150|0=>0|53=>151|37=>120|5=>5|173=>154|212=>158|51=>159|20=>20|213=>160|46=>162|232=>165|233=>166|n=>n,fun|17=>0|18=>1|19=>2|n=>n⟩
theorem Tryz.layFmt:Go.Proofs.LaysM.n173 Tryz.prog Tryz.layFmt_ren:= {
 mixed:=by kernel_rfl
 f129:=Tryz.func116.trans (congrArg some (by kernel_rfl))
 f173:=Tryz.func89.trans (congrArg some (by kernel_rfl))
 f246:=Tryz.func104.trans (congrArg some (by kernel_rfl))
 f283:=Tryz.func111.trans (congrArg some (by kernel_rfl))
 f284:=Tryz.func112.trans (congrArg some (by kernel_rfl))
 f285:=Tryz.func113.trans (congrArg some (by kernel_rfl))
 f286:=Tryz.func114.trans (congrArg some (by kernel_rfl))
 f317:=Tryz.func115.trans (congrArg some (by kernel_rfl))
 f318:=Tryz.func117.trans (congrArg some (by kernel_rfl))
 f319:=Tryz.func118.trans (congrArg some (by kernel_rfl))
 f320:=Tryz.func119.trans (congrArg some (by kernel_rfl))
 f337:=Tryz.func120.trans (congrArg some (by kernel_rfl))
 f338:=Tryz.func121.trans (congrArg some (by kernel_rfl))
 t0:=Tryz.underlying0
 a0:=Tryz.isAgg0
 z0:=Tryz.sizeOf0
 v0:=Tryz.zeroValue0
 t2:=Tryz.underlying2
 a2:=Tryz.isAgg2
 z2:=Tryz.sizeOf2
 v2:=Tryz.zeroValue2
 t3:=Tryz.underlying3
 a3:=Tryz.isAgg3
 z3:=Tryz.sizeOf3
 v3:=Tryz.zeroValue3
 t4:=Tryz.underlying4
 a4:=Tryz.isAgg4
 z4:=Tryz.sizeOf4
 v4:=Tryz.zeroValue4
 t5:=Tryz.underlying5
 a5:=Tryz.isAgg5
 z5:=Tryz.sizeOf5
 v5:=Tryz.zeroValue5
 t9:=Tryz.underlying9
 a9:=Tryz.isAgg9
 z9:=Tryz.sizeOf9
 v9:=Tryz.zeroValue9
 t20:=Tryz.underlying20
 a20:=Tryz.isAgg20
 z20:=Tryz.sizeOf20
 v20:=Tryz.zeroValue20
 t37:=Tryz.underlying120
 a37:=Tryz.isAgg120
 z37:=Tryz.sizeOf120
 v37:=Tryz.zeroValue120
 t46:=Tryz.underlying162
 a46:=Tryz.isAgg162
 z46:=Tryz.sizeOf162
 v46:=Tryz.zeroValue162
 t51:=Tryz.underlying159
 a51:=Tryz.isAgg159
 z51:=Tryz.sizeOf159
 v51:=Tryz.zeroValue159
 t53:=Tryz.underlying151
 a53:=Tryz.isAgg151
 z53:=Tryz.sizeOf151
 v53:=Tryz.zeroValue151
 t171:=Tryz.underlying150
 a171:=Tryz.isAgg150
 z171:=Tryz.sizeOf150
 v171:=Tryz.zeroValue150
 t173:=Tryz.underlying154
 a173:=Tryz.isAgg154
 z173:=Tryz.sizeOf154
 v173:=Tryz.zeroValue154
 t212:=Tryz.underlying158
 a212:=Tryz.isAgg158
 z212:=Tryz.sizeOf158
 v212:=Tryz.zeroValue158
 t213:=Tryz.underlying160
 a213:=Tryz.isAgg160
 z213:=Tryz.sizeOf160
 t232:=Tryz.underlying165
 a232:=Tryz.isAgg165
 z232:=Tryz.sizeOf165
 v232:=Tryz.zeroValue165
 t233:=Tryz.underlying166
 a233:=Tryz.isAgg166
 z233:=Tryz.sizeOf166
 v233:=Tryz.zeroValue166
 g17:=by kernel_rfl
 g18:=by kernel_rfl
 g19:=by kernel_rfl
 i0:=by kernel_rfl
 i2:=by kernel_rfl
 i3:=by kernel_rfl
 i4:=by kernel_rfl
 i5:=by kernel_rfl
 i9:=by kernel_rfl
 i20:=by kernel_rfl
 i37:=by kernel_rfl
 i46:=by kernel_rfl
 i51:=by kernel_rfl
 i53:=by kernel_rfl
 i171:=by kernel_rfl
 i173:=by kernel_rfl
 i212:=by kernel_rfl
 i232:=by kernel_rfl
 i233:=by kernel_rfl
 m17:=by kernel_rfl
 m18:=by kernel_rfl
 m19:=by kernel_rfl}
end Go.Proofs
namespace Go.Proofs.YtoncbhomocgmcaaGreatDoor.Ab
set_option linter.unusedVariables false
set_option linter.unusedSimpArgs false
set_option maxRecDepth 20000
open Go.RowKit Go.Sort
theorem Ti {w:World} {n:Nat} {os:Array Obj}:Below w.heap.size w (Sort.grow (w.drewN n) os):=by
 refine⟨rfl,rfl,rfl,?_,fun k hk=>?_⟩
 ·show w.heap.size≤(w.heap++os).size
  simp
 ·show (w.heap++os)[k]? =w.heap[k]?
  rw [Array.getElem?_append,if_pos hk]
theorem OE (a0 a1:Int) (r:ByteArray) (h:Ga a0 a1=some r):AC Tryz.prog 89 [.int .i64 a0,.int .i64 a1] (.str r):=by
 unfold Ga at h
 split at h
 case isFalse=>cases h
 rename_i h10
 subst h10
 cases h
 refine⟨by kernel_rfl,fun w us hsh hlow hamb hv=>?_⟩
 simp only [AD,VSim,Rep] at hv
 obtain⟨u,us',rfl,⟨rfl,hw⟩,u2,us2,rfl,⟨rfl,-⟩,rfl⟩:=hv
 have hr: -9223372036854775808≤a0∧a0≤9223372036854775807:=by simpa [Lit.wf,IntKind.min,IntKind.max,IntKind.signed,IntKind.bits] using hw
 refine(show Calls Tryz.prog 89 #[.int .i64 a0,.int .i64 10] w _ from Any.strconv_FormatInt_10 Tryz.layFmt a0 hr.1 hr.2 w hamb.2).mono ?_
 rintro e w' ⟨rfl,k,os,rfl⟩
 refine⟨_,[],rfl,⟨rfl,?_,rfl⟩,by simp,by simp,Ti⟩
 have:=Lib.itoa_length_le a0 hr.1 hr.2
 show (Lib.itoa a0).toArray.size ≤maxLen
 rw [List.size_toArray]
 unfold maxLen
 omega
end Go.Proofs.YtoncbhomocgmcaaGreatDoor.Ab
