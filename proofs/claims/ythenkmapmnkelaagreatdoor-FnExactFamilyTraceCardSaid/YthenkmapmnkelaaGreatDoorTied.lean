/- What the tied cards of this seat share. -/
import Derived.Test.YthenkmapmnkelaaGreatDoorRows
import Derived.Test.YthenkmapmnkelaaGreatDoorAbB
import Derived.ProofKit
import Derived.OpenShut
import Derived.LaidMore
import Derived.SevenTiedAt
import Derived.Stop.LaidErr
import Derived.MakeChecks
namespace Go.Proofs.YthenkmapmnkelaaGreatDoor.Ab
set_option linter.unusedVariables false
open Go.ChangeShapes Go.WideShapes Go.ChangeAt Go.RowKit
section
variable {H:Type} {enc:TypeId × Value→H}
theorem SF {a:Assume} {C:Checked} {os:Os} {f:FuncId} {fn:Func} {s:ChangeSpec} {conds:List PathCond} {apart fresh handsOn again:Bool} {X:World→Array Value→Prop}
  (hX:∀ (w w':World) (args:Array Value),w.heap=w'.heap→X w args→X w' args)
  (own:ownKnob C.prog.godebug=none) (started:os.Started) (noInit:C.prog.inits.idxOf? f=none) (hfn:C.prog.funcs[f]? =some fn)
  (witness:∃ (w:World) (p:Tape) (i:Input),w.os=os∧(w.forCall p i).Shaped C.prog∧i.vars=[] ∧Input.okWide C.prog (w.forCall p i) .any w.heap.size f i∧
   ((s.pre enc C.prog fn conds apart (w.forCall p i).memory i.args∧X (w.forCall p i).memory i.args)∧sizedMet enc C.prog fn (OpenSpec.ofChange s) apart (w.forCall p i).memory i.args)∧a.holds C.prog (lone (Frame.enter C.prog f i.args .normal) [] (w.forCall p i)))
  (contract:∀ (W:World) (base:Nat) (args:Array Value) (O gs:List (DataW H)) (q:List MemPlace),
   (∀ (j:Nat) t v,fn.params[j]? =some t→args[j]? =some v→Value.okWide C.prog W .any base t v)→
   DataW.Whole enc C.prog fn.params.toList s.vars apart W args.toList O gs q→X W args→W.ShapedOpen C.prog→
   Calls C.prog f args W fun e W'=>∃v,e= .returned v∧s.post enc C.prog fn apart fresh handsOn again W args v W'):
  ReturnsInHanded a C os f .any (fun w args=>(s.pre enc C.prog fn conds apart w args∧X w args)∧sizedMet enc C.prog fn (OpenSpec.ofChange s) apart w args) (s.post enc C.prog fn apart fresh handsOn again):=by
 refine returnsInHanded_of_calls own started noInit witness ?_
 intro w p i _ hsh _ U u I
 obtain⟨_,_,_,Y,F,_,_,_,_,G⟩:=U
 have e:Y=fn:=Option.some.inj (F.symm.trans hfn)
 subst e
 obtain⟨⟨⟨O,gs,q,hw,hc⟩,hx⟩,hz⟩:=u
 have J:=DataW.Whole.of_heap (w':=w.forCall p i) (by rfl) hw
 refine(contract (w.forCall p i) w.heap.size i.args O gs q G J (hX _ _ _ (by rfl) hx) hsh).mono fun e W' ⟨v,he,hp⟩=>?_
 subst he
 exact ChangeSpec.post_blind hp
end
theorem Yx {W:World} (h:laidMetH Tryz.prog Rows.fnExactFamilyTraceRow.laid W):Amb Tryz.prog W:=by
 refine⟨of_decide_eq_true (by kernel_rfl),?_⟩
 rw [MakeChecks.laidMetH_plain _ _ _ (by kernel_rfl)] at h
 have e:(Rows.laid_internal_strconv_uint64pow10:DataW Unit)=Lib.tabData .u64 Lib.pow10Tab:=by rfl
 have h2:laidMet Tryz.prog [("internal/strconv.uint64pow10",Rows.laid_internal_strconv_uint64pow10)] W:=laidMet.tail (laidMet.tail h)
 rw [e] at h2
 exact Lib.tabIs_of_head (g:=0) (t:=218) (e:=201) (n:=20) (by kernel_rfl) (by kernel_rfl) Tryz.underlying218 Tryz.underlying201 (by kernel_rfl) (by kernel_rfl) h2
end Go.Proofs.YthenkmapmnkelaaGreatDoor.Ab
