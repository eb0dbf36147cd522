/- The functions do what their models say. -/
import Derived.Test.YtjnifengdhcojaaGreatDoorModE
import Derived.Test.YtjnifengdhcojaaGreatDoorTi2
import Derived.Test.YtjnifengdhcojaaGreatDoorWlkI
namespace Go.Proofs.YtjnifengdhcojaaGreatDoor.Ab
set_option linter.defProp false
set_option linter.unusedVariables false
set_option linter.unusedSimpArgs false
set_option maxRecDepth 20000
set_option maxHeartbeats 4000000
open Go.RowKit _root_.Go.Proofs.Tryz
theorem V6 (n:Nat):(∀ (C:Core) (J:Int) (O:(Core→Int→Option Core)) (I:FuncId) (F:List AV) (v:Still F) (h2:∀ (y0:Core) (y1:Int) (q:Core),O y0 y1=some q→AC prog I (fnA F [.agg (Core.avs y0),.int .i64 y1]) (.agg (Core.rvn q))) (r:Core),GC n C J O=some r→AC prog 246 [.agg (Core.avs C),.int .i64 J,.fn I F] (.agg (Core.rvn r)))∧
    (∀ (C:Core) (J:Int) (u:(List Int)) (w:List Core) (y:Int) (O:(Core→Int→Option Core)) (I:FuncId) (F:List AV) (v:Still F) (h2:∀ (y0:Core) (y1:Int) (q:Core),O y0 y1=some q→AC prog I (fnA F [.agg (Core.avs y0),.int .i64 y1]) (.agg (Core.rvn q))) (r:Core),D4 n C J u w y O=some r→AR prog f246 [1,1,1,0,1,0] (.agg (Core.rvn r)) ⟨[(1,.int .i64 J),(2,.fn I F),(3,.box 1000001500 0),(6,.box 1000001501 0),(7,.box 1000001502 0),(26,.ro (C.kids.map Core.ds)),(27,.int .i64 (C.kids.length:Int)),(28,.int .i64 y)],[(1000001000,some ⟨List.map AD u,some 1,0,.no⟩),(1000001001,some ⟨List.map Core.ds w,some 4,0,.no⟩)],[(1000001500,some (Core.avs C)),(1000001501,some [.int .i64 0,.int .i64 0,.nils,.nils]),(1000001502,some [.int .i64 C.kind,.int .i64 C.value,.own 1000001000,.own 1000001001])]⟩):=by
 induction n with
 |zero=>exact⟨(fun _ _ _ _ _ _ _ _ h=>by rw [GC] at h; cases h),(fun _ _ _ _ _ _ _ _ _ _ _ h=>by rw [D4] at h; cases h)⟩
 | succ n ih=>
  obtain⟨Y,W⟩:=ih
  refine⟨?_,?_⟩
  ·intro C J O I F v h2 r h
   rw [GC] at h
   refine acF func246 mixed (h:=?_)
   try simp only [go_sem,v.k,v.r,v.c,v.p,v.o,v.f]
   refine CO ?_
   try simp only [go_sem,v.k,v.r,v.c,v.p,v.o,v.f]
   refine AJ h (fun h=>?_) (fun h=>?_)
   ·try simp only [go_sem,v.k,v.r,v.c,v.p,v.o,v.f]
    replace h:=AB h; obtain⟨g,j,h⟩:=h
    refine AK (h2 _ _ _ j) ?_
    try simp only [go_sem,v.k,v.r,v.c,v.p,v.o,v.f]
    refine CO ?_
    try simp only [go_sem,v.k,v.r,v.c,v.p,v.o,v.f]
    cases h
    simp only [go_sem,v.k,v.r,v.c,v.p,v.o,v.f]
   ·try simp only [go_sem,v.k,v.r,v.c,v.p,v.o,v.f]
    refine CO ?_
    try simp only [go_sem,v.k,v.r,v.c,v.p,v.o,v.f]
    refine AY [false,false,false,false,false,false,false,false,false,true] (Tr.sq [9] .fin) (by kernel_rfl) ?_
    try simp only [go_sem,v.k,v.r,v.c,v.p,v.o,v.f]
    replace h:=AB h; obtain⟨u,b,h⟩:=h
    refine AK (D9 _ _ b) ?_
    try simp only [go_sem,v.k,v.r,v.c,v.p,v.o,v.f]
    refine CO ?_
    try simp only [go_sem,v.k,v.r,v.c,v.p,v.o,v.f]
    refine CL (CS rfl rfl (W C J u [] 0 O I F v h2 _ h):) (.one ⟨_,.cell 4008 3 2000000000 (some 4) .no _ (by simp only [go_sem,v.k,v.r,v.c,v.p,v.o,v.f]; rfl) (by rfl) (by simp only [go_sem,v.k,v.r,v.c,v.p,v.o,v.f]) (.done _),[(1000001000,64096),(1000001001,2000000000)],[(1000001500,1000),(1000001501,1001),(1000001502,4008)],?_⟩)
    simp only [go_sem,v.k,v.r,v.c,v.p,v.o,v.f]
    all_goals try rfl
  ·intro C J u w y O I F v h2 r h
   rw [D4] at h
   refine Am rfl rfl ?_
   try simp only [go_sem,v.k,v.r,v.c,v.p,v.o,v.f]
   refine A5 ?_
   try simp only [go_sem,v.k,v.r,v.c,v.p,v.o,v.f]
   refine AJ h (fun h=>?_) (fun h=>?_)
   ·try simp only [go_sem,v.k,v.r,v.c,v.p,v.o,v.f]
    refine CO ?_
    try simp only [go_sem,v.k,v.r,v.c,v.p,v.o,v.f]
    replace h:=AB h; obtain⟨d,e,h⟩:=h
    refine AS e (Core.ds_len _) ?_
    try simp only [go_sem,v.k,v.r,v.c,v.p,v.o,v.f]
    refine CO ?_
    try simp only [go_sem,v.k,v.r,v.c,v.p,v.o,v.f]
    refine AY [false,false,false,false,false,false,false,false,false,false,false,true,true,true] (Tr.sq [11,12,13] .fin) (by kernel_rfl) ?_
    try simp only [go_sem,v.k,v.r,v.c,v.p,v.o,v.f]
    replace h:=AB h; obtain⟨i,l,h⟩:=h
    refine AK (Lw _ _ _ l) ?_
    try simp only [go_sem,v.k,v.r,v.c,v.p,v.o,v.f]
    replace h:=AB h; obtain⟨t,s,h⟩:=h
    refine AK (Y _ _ _ I F v h2 _ s) ?_
    try simp only [go_sem,v.k,v.r,v.c,v.p,v.o,v.f]
    replace h:=AB h; obtain⟨z,u1,h⟩:=h
    have hq_:=Ad u1
    obtain⟨U,G⟩:=hq_
    refine Bp .no ?_
    try simp only [go_sem,v.k,v.r,v.c,v.p,v.o,v.f]
    refine CN ?_
    try simp only [go_sem,v.k,v.r,v.c,v.p,v.o,v.f]
    refine A4 (z.map Core.ds) (by rw [← G]; simp only [List.map_append,List.map_cons,List.map_nil,List.nil_append,List.append_nil,go_sem,Core.ds_eq]) ?_
    try simp only [go_sem,v.k,v.r,v.c,v.p,v.o,v.f]
    refine CO ?_
    try simp only [go_sem,v.k,v.r,v.c,v.p,v.o,v.f]
    refine W2 (CS rfl rfl (W C J u z (IntKind.i64.wrap (y+1)) O I F v h2 _ h):) (.one ⟨_,.done _,[(1000001000,1000001000),(1000001001,128176)],(r3 1000001500 1000001500 []),?_⟩)
    try simp only [go_sem,v.k,v.r,v.c,v.p,v.o,v.f]
   ·try simp only [go_sem,v.k,v.r,v.c,v.p,v.o,v.f]
    refine CO ?_
    try simp only [go_sem,v.k,v.r,v.c,v.p,v.o,v.f]
    cases h
    simp only [go_sem,v.k,v.r,v.c,v.p,v.o,v.f]
def QW (n:Nat):=(V6 n).1
theorem YS (a0 a1 a2 a3 r) (h:I2 a0 a1 a2 a3=some r):AC prog 261 [.agg (Core.avs a0),.int .i64 a1,.rop [.int .i64 a2] 0,.rop [.int .i64 a3] 0] (.agg (Core.rvn r)):=by
 unfold I2 at h
 refine acF func261 mixed (h:=Z ?_)
 refine AL ?_
 refine AJ h (fun h=>Z ?_) (fun h=>Z ?_)
 all_goals
  refine AL ?_
  replace h:=AB h; obtain⟨q,j,h⟩:=h
  replace h:=AB h; obtain⟨u,p,h⟩:=h
  replace j:=Pj j
  replace p:=Pj p
  cases h
  simp only [go_sem,j,p]
theorem cp (a0 a1 a2 r) (h:Po a0 a1 a2=some r):AC prog 248 [.agg (Core.avs a0),.int .i64 a1,.int .i64 a2] (.agg (Core.rvn r)):=by
 unfold Po at h
 refine acF func248 mixed (h:=Z ?_)
 refine AL ?_
 replace h:=AB h; obtain⟨u,w,h⟩:=h
 refine AK (QW fuel _ _ _ 261 [.agg [],.rop [.int .i64 a2] 0,.rop [.int .i64 a1] 0] (Still.of (by simp only [BR,BC,Bool.and_true,Bool.true_and,Bool.and_self])) (fun v j q p=>YS v j _ _ q p) _ w) (Z ?_)
 exact AF trivial h
theorem Ol (a0 a1 a2 r) (h:Dn a0 a1 a2=some r):AC prog 247 [.agg (Core.avs a0),.int .i64 a1,.rop (Core.avs a2) 0] (.agg (Core.rvn r)):=by
 unfold Dn at h
 refine acF func247 mixed (h:=Z ?_)
 refine AL ?_
 refine AJ h (fun h=>Z ?_) (fun h=>Z ?_)
 ·exact AF (k1 cp) h
 ·refine AJ h (fun h=>Z ?_) (fun h=>Z ?_)
  all_goals
   refine AL ?_
   replace h:=AB h; obtain⟨q,j,h⟩:=h
   replace h:=AB h; obtain⟨u,p,h⟩:=h
   replace j:=Pj j
   replace p:=Pj p
   cases h
   simp only [go_sem,j,p]
theorem RY (a0 a1 r) (h:GO a0 a1=some r):AC prog 212 [.agg (Core.avs a0),.agg (Core.avs a1)] (.agg (Core.rvn r)):=by
 unfold GO at h
 refine acF func212 mixed (h:=Z ?_)
 refine AL ?_
 replace h:=AB h; obtain⟨u,w,h⟩:=h
 refine AK (QW fuel _ _ _ 247 [.agg [],.rop (Core.avs a1) 0] (Still.of (by simp only [Core.avs,BR,BC,Bool.and_true,Bool.true_and,Bool.and_self])) (fun v j q p=>Ol v j _ q p) _ w) (Z ?_)
 exact AF trivial h
theorem VS (n:Nat):(∀j p r,Fs n j p=some r→AC prog 197 [.rop (Core.avs j) 0,.int .i64 p] (.int .i64 r))∧
    (∀j p u w r,DG n j p u w=some r→AR prog f197 [1,1,1,0,1,0] (.int .i64 r) ⟨[(0,.rop (Core.avs j) 0),(1,.int .i64 p),(5,.int .i64 u),(6,.int .i64 w)],[],[]⟩):=by
 induction n with
 |zero=>exact⟨(fun _ _ _ h=>by rw [Fs] at h; cases h),(fun _ _ _ _ _ h=>by rw [DG] at h; cases h)⟩
 | succ n ih=>
  obtain⟨v,q⟩:=ih
  refine⟨?_,?_⟩
  ·intro j p r h
   rw [Fs] at h
   refine acF func197 mixed (h:=Z ?_)
   exact AF (k1 q) h
  ·intro j p u w r h
   rw [DG] at h
   exact AF (k3 IA v q) h
def V7 (n:Nat):=(VS n).1
theorem VT (n:Nat):(∀j p v r,EG n j p v=some r→AC prog 157 [.rop (Core.avs j) 0,.int .i64 p,.int .i64 v] (.agg (Core.rv r)))∧
    (∀j p v u w r,EH n j p v u w=some r→AR prog f157 [1,1,0,1] (.agg (Core.rv r)) ⟨[(0,.rop (Core.avs j) 0),(1,.int .i64 p),(2,.int .i64 v),(6,.box 1000000500 0),(7,.box 1000000501 0),(35,.bool w)],[(1000000000,some ⟨List.map AD u,some 1,0,.no⟩)],[(1000000500,some [.int .i64 0,.int .i64 0,.nils,.nils]),(1000000501,some [.int .i64 j.kind,.int .i64 j.value,.own 1000000000,.nils])]⟩)∧
    (∀j p v u y r,EI n j p v u y=some r→AR prog f157 [1,1,1] (.agg (Core.rv r)) ⟨[(0,.rop (Core.avs j) 0),(1,.int .i64 p),(2,.int .i64 v),(6,.box 1000001500 0),(7,.box 1000001501 0)],[(1000001000,some ⟨List.map AD u,some 1,0,.no⟩)],[(1000001500,some [.int .i64 0,.int .i64 0,.nils,.nils]),(1000001501,some [.int .i64 j.kind,.int .i64 y,.own 1000001000,.nils])]⟩)∧
    (∀j p v y u q g r,DH n j p v y u q g=some r→AR prog f157 [1,1,1,0,1,0] (.agg (Core.rv r)) ⟨[(0,.rop (Core.avs j) 0),(1,.int .i64 p),(2,.int .i64 v),(6,.box 1000003500 0),(7,.box 1000003501 0),(8,.int .i64 g)],[(1000003000,some ⟨List.map AD u,some 1,0,.no⟩),(1000003001,some ⟨List.map Core.ds q,some 4,0,.no⟩)],[(1000003500,some [.int .i64 0,.int .i64 0,.nils,.nils]),(1000003501,some [.int .i64 j.kind,.int .i64 y,.own 1000003000,.own 1000003001])]⟩):=by
 induction n with
 |zero=>exact⟨(fun _ _ _ _ h=>by rw [EG] at h; cases h),(fun _ _ _ _ _ _ h=>by rw [EH] at h; cases h),(fun _ _ _ _ _ _ h=>by rw [EI] at h; cases h),(fun _ _ _ _ _ _ _ _ h=>by rw [DH] at h; cases h)⟩
 | succ n ih=>
  obtain⟨I,O,U,F⟩:=ih
  refine⟨?_,?_,?_,?_⟩
  ·intro j p v r h
   rw [EG] at h
   refine acF func157 mixed (h:=Z ?_)
   refine AL ?_
   refine AY [false,false,false,false,false,false,false,false,false,false,false,false,false,false,false,true] (Tr.sq [15] .fin) (by kernel_rfl) (Z ?_)
   exact AF (k2 IX O) h
  ·intro j p v u w r h
   rw [EH] at h
   exact AF (k1 U) h
  ·intro j p v u y r h
   rw [EI] at h
   refine Am rfl rfl (Z ?_)
   refine CL (CS rfl rfl (F j p v y u [] 0 _ h):) (.one ⟨_,.ce 1000001501 3 2000000000 (some 4) .no (k:=.done _),[(1000003000,1000001000),(1000003001,2000000000)],[(1000003500,1000001500),(1000003501,1000001501)],?_⟩)
   simp only [go_sem]
   all_goals try rfl
  ·intro j p v y u q g r h
   rw [DH] at h
   refine Am rfl rfl (Z ?_)
   refine A5 (Z ?_)
   refine AJ h (fun h=>Z ?_) (fun h=>Z ?_)
   ·refine AL ?_
    refine AY [false,false,false,false,false,false,false,false,false,false,false,false,false,false,false,false,true,true,true] (Tr.sq [16,17,18] .fin) (by kernel_rfl) (Z ?_)
    replace h:=AB h; obtain⟨k,b,h⟩:=h
    refine AS b (Core.ds_len _) (Z ?_)
    replace h:=AB h; obtain⟨d,c,h⟩:=h
    refine AK (IA _ _ _ c) (Z ?_)
    replace h:=AB h; obtain⟨e,i,h⟩:=h
    refine AK (I _ _ _ _ i) (Z ?_)
    replace h:=AB h; obtain⟨l,t,h⟩:=h
    have J:=Ad t
    obtain⟨G,C⟩:=J
    refine Bp .no (Z ?_)
    refine CN (Z ?_)
    refine A4 (l.map Core.ds) (by rw [← C]; simp only [List.map_append,List.map_cons,List.map_nil,List.nil_append,List.append_nil,go_sem,Core.ds_eq]) (Z ?_)
    exact AF (k1 F) h
   ·exact AF trivial h
def N6 (n:Nat):=(VT n).1
theorem YT (n:Nat):(∀v C F r,IM n v C F=some r→AC prog 199 [.rop (Core.avs v) 0,.rop (Core.avs C) 0,.int .i64 F] (.agg (Core.rv r)))∧
    (∀v C F u w y r,Ep n v C F u w y=some r→AR prog f199 [1,1,1,0,1,0] (.agg (Core.rv r)) ⟨[(0,.rop (Core.avs v) 0),(1,.rop (Core.avs C) 0),(2,.int .i64 F),(6,.box 1000001500 0),(8,.box 1000001501 0),(9,.int .i64 y)],[(1000001000,some ⟨List.map AD u,some 1,0,.no⟩),(1000001001,some ⟨List.map Core.ds w,some 4,0,.no⟩)],[(1000001500,some [.int .i64 0,.int .i64 0,.nils,.nils]),(1000001501,some [.int .i64 v.kind,.int .i64 v.value,.own 1000001000,.own 1000001001])]⟩):=by
 induction n with
 |zero=>exact⟨(fun _ _ _ _ h=>by rw [IM] at h; cases h),(fun _ _ _ _ _ _ _ h=>by rw [Ep] at h; cases h)⟩
 | succ n ih=>
  obtain⟨J,I⟩:=ih
  refine⟨?_,?_⟩
  ·intro v C F r h
   rw [IM] at h
   refine acF func199 mixed (h:=Z ?_)
   refine AL ?_
   refine AJ h (fun h=>Z ?_) (fun h=>Z ?_)
   ·refine AJ h (fun h=>Z ?_) (fun h=>Z ?_)
    ·replace h:=AB h; obtain⟨q,g,h⟩:=h
     refine AK (N6 fuel _ _ _ _ g) (Z ?_)
     exact AF trivial h
    ·exact AF trivial h
   ·refine AL ?_
    refine AY [false,false,false,false,false,false,false,false,false,false,false,false,false,false,false,true] (Tr.sq [15] .fin) (by kernel_rfl) (Z ?_)
    replace h:=AB h; obtain⟨u,j,h⟩:=h
    refine AK (IX _ _ j) (Z ?_)
    refine AL ?_
    refine CL (CS rfl rfl (I v C F u [] 0 _ h):) (.one ⟨_,.ce 9014 3 2000000000 (some 4) .no (k:=.done _),[(1000001000,144192),(1000001001,2000000000)],[(1000001500,1000),(1000001501,9014)],?_⟩)
    simp only [go_sem]
    all_goals try rfl
  ·intro v C F u w y r h
   rw [Ep] at h
   refine Am rfl rfl (Z ?_)
   refine A5 (Z ?_)
   refine AJ h (fun h=>Z ?_) (fun h=>Z ?_)
   ·refine AL ?_
    refine AY [false,false,false,false,false,false,false,false,false,false,false,false,false,false,false,false,true,true,true] (Tr.sq [16,17,18] .fin) (by kernel_rfl) (Z ?_)
    replace h:=AB h; obtain⟨k,b,h⟩:=h
    refine AS b (Core.ds_len _) (Z ?_)
    replace h:=AB h; obtain⟨d,c,h⟩:=h
    refine AK (IA _ _ _ c) (Z ?_)
    replace h:=AB h; obtain⟨e,i,h⟩:=h
    refine AK (J _ _ _ _ i) (Z ?_)
    replace h:=AB h; obtain⟨l,t,h⟩:=h
    have O:=Ad t
    obtain⟨G,p⟩:=O
    refine Bp .no (Z ?_)
    refine CN (Z ?_)
    refine A4 (l.map Core.ds) (by rw [← p]; simp only [List.map_append,List.map_cons,List.map_nil,List.nil_append,List.append_nil,go_sem,Core.ds_eq]) (Z ?_)
    exact AF (k1 I) h
   ·exact AF trivial h
def ah (n:Nat):=(YT n).1
theorem Se (a0 a1 r) (h:JW a0 a1=some r):AC prog 176 [.int .i64 a0,.int .i64 a1] (.int .i64 r):=by
 unfold JW at h
 refine acF func176 mixed (h:=Z ?_)
 exact AF trivial h
theorem VU (n:Nat):(∀j r,E0 n j=some r→AC prog 200 [.rop (Core.avs j) 0] (.int .i64 r))∧
    (∀j u w r,DI n j u w=some r→AR prog f200 [1,1,0,1,0] (.int .i64 r) ⟨[(0,.rop (Core.avs j) 0),(3,.int .i64 u),(4,.int .i64 w)],[],[]⟩):=by
 induction n with
 |zero=>exact⟨(fun _ _ h=>by rw [E0] at h; cases h),(fun _ _ _ _ h=>by rw [DI] at h; cases h)⟩
 | succ n ih=>
  obtain⟨q,p⟩:=ih
  refine⟨?_,?_⟩
  ·intro j r h
   rw [E0] at h
   refine acF func200 mixed (h:=Z ?_)
   exact AF (k1 p) h
  ·intro j u w r h
   rw [DI] at h
   exact AF (k3 q Se p) h
def N7 (n:Nat):=(VU n).1
theorem Re (n:Nat):(∀j r,D5 n j=some r→AC prog 201 [.rop (Core.avs j) 0] (.int .i64 r))∧
    (∀j u r,Cu n j u=some r→AR prog f201 [1,1,1] (.int .i64 r) ⟨[(0,.rop (Core.avs j) 0),(3,.int .i64 u)],[],[]⟩)∧
    (∀j w y r,CG n j w y=some r→AR prog f201 [1,1,1,0,1,0] (.int .i64 r) ⟨[(0,.rop (Core.avs j) 0),(3,.int .i64 w),(4,.int .i64 y)],[],[]⟩):=by
 induction n with
 |zero=>exact⟨(fun _ _ h=>by rw [D5] at h; cases h),(fun _ _ _ h=>by rw [Cu] at h; cases h),(fun _ _ _ _ h=>by rw [CG] at h; cases h)⟩
 | succ n ih=>
  obtain⟨v,q,p⟩:=ih
  refine⟨?_,?_,?_⟩
  ·intro j r h
   rw [D5] at h
   refine acF func201 mixed (h:=Z ?_)
   exact AF (k1 q) h
  ·intro j u r h
   rw [Cu] at h
   exact AF (k1 p) h
  ·intro j w y r h
   rw [CG] at h
   exact AF (k3 v Se p) h
def Sx (n:Nat):=(Re n).1
theorem Rc (a0 a1 r) (h:FW a0 a1=some r):AC prog 152 [.rop (Core.avs a0) 0,.rop (Core.avs a1) 0] (.tup [.agg (Core.rv r.1),.int .i64 r.2]):=by
 unfold FW at h
 refine acF func152 mixed (h:=Z ?_)
 refine AL ?_
 replace h:=AB h; obtain⟨u,w,h⟩:=h
 refine AK (V7 fuel _ _ _ w) (Z ?_)
 refine AL ?_
 replace h:=AB h; obtain⟨y,q,h⟩:=h
 refine AK (KG fuel _ _ _ _ q) (Z ?_)
 replace h:=AB h; obtain⟨g,j,h⟩:=h
 refine AK (KG fuel _ _ _ _ j) (Z ?_)
 refine AL ?_
 refine AJ h (fun h=>Z ?_) (fun h=>Z ?_)
 ·exact AF trivial h
 ·refine AL ?_
  replace h:=AB h; obtain⟨k,b,h⟩:=h
  refine AK (ah fuel _ _ _ _ b) (Z ?_)
  refine AL ?_
  replace h:=AB h; obtain⟨d,c,h⟩:=h
  refine AK (N7 fuel _ _ c) (Z ?_)
  refine AL ?_
  refine AJ h (fun h=>Z ?_) (fun h=>Z ?_)
  ·exact AF trivial h
  ·refine AL ?_
   replace h:=AB h; obtain⟨e,i,h⟩:=h
   refine AK (Sx fuel _ _ i) (Z ?_)
   exact AF trivial h
theorem V8 (n:Nat):(∀j q r,Gt n j q=some r→AC prog 204 [.rop (Core.avs j) 0,.int .i64 q] (.int .i64 r))∧
    (∀j u w r,CU n j u w=some r→AR prog f204 [1,1,0,1,0] (.int .i64 r) ⟨[(0,.rop (Core.avs j) 0),(1,.int .i64 u),(5,.int .i64 w)],[],[]⟩)∧
    (∀j u w y r,D6 n j u w y=some r→AR prog f204 [1,1,0,1,0,0,0,1] (.int .i64 r) ⟨[(0,.rop (Core.avs j) 0),(1,.int .i64 u),(5,.int .i64 w),(18,.bool y)],[],[]⟩):=by
 induction n with
 |zero=>exact⟨(fun _ _ _ h=>by rw [Gt] at h; cases h),(fun _ _ _ _ h=>by rw [CU] at h; cases h),(fun _ _ _ _ _ h=>by rw [D6] at h; cases h)⟩
 | succ n ih=>
  obtain⟨v,p,C⟩:=ih
  refine⟨?_,?_,?_⟩
  ·intro j q r h
   rw [Gt] at h
   refine acF func204 mixed (h:=Z ?_)
   exact AF (k1 p) h
  ·intro j u w r h
   rw [CU] at h
   exact AF (k1 C) h
  ·intro j u w y r h
   rw [D6] at h
   exact AF (k2 v p) h
def YU (n:Nat):=(V8 n).1
theorem YR (a0 r) (h:Km a0=some r):AC prog 156 [.rop (Core.avs a0) 0] (.bool r):=by
 unfold Km at h
 refine acF func156 mixed (h:=Z ?_)
 replace h:=AB h; obtain⟨u,w,h⟩:=h
 refine AK (YU fuel _ _ _ w) (Z ?_)
 refine AJ h (fun h=>Z ?_) (fun h=>Z ?_)
 ·replace h:=AB h; obtain⟨y,q,h⟩:=h
  refine AK (N7 fuel _ _ q) (Z ?_)
  exact AF trivial h
 ·exact AF trivial h
end Go.Proofs.YtjnifengdhcojaaGreatDoor.Ab
