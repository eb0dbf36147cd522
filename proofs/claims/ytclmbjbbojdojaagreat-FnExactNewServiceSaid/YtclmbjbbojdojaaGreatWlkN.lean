/-
 The functions do what their models say. Printed by wip/ab/gen.py.
-/
import Derived.Test.YtclmbjbbojdojaaGreatModN
import Derived.Test.YtclmbjbbojdojaaGreatTi2
import Derived.Test.YtclmbjbbojdojaaGreatWlkC
namespace Go.Proofs.YtclmbjbbojdojaaGreat.Ab
set_option linter.unusedVariables false
set_option linter.unusedSimpArgs false
set_option maxRecDepth 20000
set_option maxHeartbeats 4000000
open Go.RowKit
theorem Om (a0 a1 a2 r) (h:F6 a0 a1 a2=some r):AC Tryz.prog 30 [.agg (Net.avs a0),.ro (List.map AJ a1),.int .i64 a2] (.tup [.agg (Cluster.rv r.1),.int .i64 r.2]):=by
 unfold F6 at h
 refine acF Tryz.func30 mixed (h:=Z ?_)
 refine AF ?_
 replace h:=AB h; obtain⟨u,w,h⟩:=h
 refine AH (Ql _ _ _ _ w) (Z ?_)
 refine AF ?_
 refine AD h (fun h=>Z ?_) (fun h=>Z ?_)
 ·cases h
  simp only [go_sem]
 ·refine AF ?_
  replace h:=AB h; obtain⟨y,q,h⟩:=h
  refine caG ⟨[],[(1001,32048)],[],[(1501,80016),(1502,80017),(1503,80018),(1504,80019),(1505,80020)],[],true⟩ (UE _ _ q) (Z ?_)
  refine AF ?_
  cases h
  simp only [go_sem]
theorem On (a0 a1 a2 r) (h:F7 a0 a1 a2=some r):AC Tryz.prog 7 [.agg (Net.avs a0),.ro (List.map AJ a1),.int .i64 a2] (.tup [.agg (Service.rv r.1),.int .i64 r.2]):=by
 unfold F7 at h
 refine acF Tryz.func7 mixed (h:=Z ?_)
 refine AF ?_
 replace h:=AB h; obtain⟨u,w,h⟩:=h
 refine AH (Om _ _ _ _ w) (Z ?_)
 refine AF ?_
 refine AD h (fun h=>Z ?_) (fun h=>Z ?_)
 ·cases h
  simp only [go_sem]
 ·refine AF ?_
  refine Aa [false,false,false,false,true,true] (Tr.sq [4,5] .fin) (by kernel_rfl) (Z ?_)
  replace h:=AB h; obtain⟨y,q,h⟩:=h
  refine AH (UF _ _ q) (Z ?_)
  refine AF ?_
  cases h
  simp only [go_sem]
theorem Jp (a0 a1 a2 r) (h:E5 a0 a1 a2=some r):AC Tryz.prog 10 [.agg (Net.avs a0),.ro (List.map AJ a1),.int .i64 a2] (.tup [.agg (Service.rv r.1),.int .i64 r.2]):=by
 unfold E5 at h
 refine acF Tryz.func10 mixed (h:=Z ?_)
 refine AF ?_
 replace h:=AB h; obtain⟨u,w,h⟩:=h
 refine AH (Oj _ _ _ _ w) (Z ?_)
 refine AF ?_
 refine AD h (fun h=>Z ?_) (fun h=>Z ?_)
 ·cases h
  simp only [go_sem]
 ·refine AF ?_
  refine Aa [false,false,false,false,false,true,true] (Tr.sq [5,6] .fin) (by kernel_rfl) (Z ?_)
  replace h:=AB h; obtain⟨y,q,h⟩:=h
  refine AH (Nv _ _ q) (Z ?_)
  refine AF ?_
  cases h
  simp only [go_sem]
theorem NA (n:Nat):(∀u w y (z1:Option Nat) r,Ch n u w y=some r→E4 Tryz.prog Tryz.f86 [1,0,1,0] (.int .i64 r.1) [(1,⟨List.map Port.ds r.2,z1,0,.no⟩)] [] ⟨[(0,.own 1),(1,.int .i64 w),(5,.int .i64 y)],[(1,some ⟨List.map Port.ds u,z1,0,.no⟩)],[]⟩):=by
 induction n with
 |zero=>exact((fun _ _ _ _ _ h=>by rw [Ch] at h; cases h))
 | succ n ih=>
  have ih0:=ih
  ·intro u w y z1 r h
   rw [Ch] at h
   refine Bo rfl rfl (Z ?_)
   refine AY (Z ?_)
   refine AD h (fun h=>Z ?_) (fun h=>Z ?_)
   ·refine AF ?_
    replace h:=AB h; obtain⟨q,g,h⟩:=h
    refine AL g (Port.ds_len _) (Z ?_)
    replace h:=AB h; obtain⟨j,k,h⟩:=h
    refine AW (AM g) (Z ?_)
    refine AT (List.map Port.ds j) (by rw [← AN k]; simp only [List.map_set,go_sem,Port.ds_eq]) (Z ?_)
    replace h:=AB h; obtain⟨b,d,h⟩:=h
    refine AL d (Port.ds_len _) (Z ?_)
    replace h:=AB h; obtain⟨c,e,h⟩:=h
    refine AW (AM d) (Z ?_)
    refine AT (List.map Port.ds c) (by rw [← AN e]; simp only [List.map_set,go_sem,Port.ds_eq]) (Z ?_)
    refine AF ?_
    exact lpG (ih0 c (IntKind.i64.wrap ((IntKind.i64.wrap (w+1))+1)) (IntKind.i64.wrap (y+1)) z1 _ h) [(1,1)] []
   ·refine AF ?_
    cases h
    refine Cc (.done _) [(1,1)] [] ?_
    simp only [go_sem]
theorem QK (a0 a1) (z1:Option Nat) (r) (h:Gm a0 a1=some r):AG Tryz.prog 86 [.own 1,.int .i64 a1] [(1,⟨List.map Port.ds a0,z1,0,.no⟩)] [] (.int .i64 r.1) [(1,⟨List.map Port.ds r.2,z1,0,.no⟩)] [] :=by
 unfold Gm at h
 refine agF Tryz.func86 mixed (h:=Z ?_)
 exact loG (NA fuel a0 a1 0 z1 _ h) [(1,1)] []
theorem MC (n:Nat):(∀u w y (z1:Option Nat) r,CL n u w y=some r→E4 Tryz.prog Tryz.f38 [1,0,1,0] (.int .i64 r.1) [(1,⟨List.map Agent.ds r.2,z1,0,.no⟩)] [] ⟨[(0,.own 1),(1,.int .i64 w),(5,.int .i64 y)],[(1,some ⟨List.map Agent.ds u,z1,0,.no⟩)],[]⟩):=by
 induction n with
 |zero=>exact((fun _ _ _ _ _ h=>by rw [CL] at h; cases h))
 | succ n ih=>
  have ih0:=ih
  ·intro u w y z1 r h
   rw [CL] at h
   refine Bo rfl rfl (Z ?_)
   refine AY (Z ?_)
   refine AD h (fun h=>Z ?_) (fun h=>Z ?_)
   ·refine AF ?_
    replace h:=AB h; obtain⟨q,g,h⟩:=h
    refine AL g (Agent.ds_len _) (Z ?_)
    replace h:=AB h; obtain⟨j,k,h⟩:=h
    refine AW (AM g) (Z ?_)
    refine AT (List.map Agent.ds j) (by rw [← AN k]; simp only [List.map_set,go_sem,Agent.ds_eq]) (Z ?_)
    replace h:=AB h; obtain⟨b,d,h⟩:=h
    refine AL d (Agent.ds_len _) (Z ?_)
    replace h:=AB h; obtain⟨c,e,h⟩:=h
    refine AW (AM d) (Z ?_)
    refine AT (List.map Agent.ds c) (by rw [← AN e]; simp only [List.map_set,go_sem,Agent.ds_eq]) (Z ?_)
    replace h:=AB h; obtain⟨i,l,h⟩:=h
    refine AL l (Agent.ds_len _) (Z ?_)
    replace h:=AB h; obtain⟨t,s,h⟩:=h
    refine AW (AM l) (Z ?_)
    refine AT (List.map Agent.ds t) (by rw [← AN s]; simp only [List.map_set,go_sem,Agent.ds_eq]) (Z ?_)
    replace h:=AB h; obtain⟨o,z,h⟩:=h
    refine AL z (Agent.ds_len _) (Z ?_)
    refine AW (AM z) (Z ?_)
    replace h:=AB h; obtain⟨u1,u2,h⟩:=h
    replace h:=AB h; obtain⟨u3,u4,h⟩:=h
    refine caG ⟨[(3000176096,.sub 1 0 [(5,Int.toNat y,3)],none)],[(1,3000176096)],[],[],[],true⟩ (Cz _ _ none _ u2) (Z ?_)
    refine AW (Ff (r:=List.map AJ o.data) (AM z) (Agent.ds_len _) (by simp only [go_sem,Agent.ds_eq])) (Z ?_)
    refine AT ((List.map Agent.ds t).set (Int.toNat y) [.int .i64 o.kind,.int .i64 o.level,.int .i64 o.value,.gone,.sl (List.map Port.ds o.ports)]) ((B8 (AM z) (d':=.sl (List.map AJ o.data)) (by simp only [go_sem,Agent.ds_eq])).trans (by simp only [go_sem,Agent.ds_eq])) (Z ?_)
    refine Ad (Et (C4 (AM z)) rfl rfl) (Z ?_)
    refine AT (List.map Agent.ds u3) (((B8 (C4 (AM z)) (d':=.gone) rfl).trans (List.set_set ..)).trans (by rw [← AN u4]; simp only [List.map_set,go_sem,Agent.ds_eq])) (Z ?_)
    refine AF ?_
    replace h:=AB h; obtain⟨u5,u6,h⟩:=h
    refine AL u6 (Agent.ds_len _) (Z ?_)
    refine AW (AM u6) (Z ?_)
    replace h:=AB h; obtain⟨u7,u8,h⟩:=h
    replace h:=AB h; obtain⟨u9,u10,h⟩:=h
    refine caG ⟨[(3000192096,.sub 1 0 [(5,Int.toNat y,4)],none)],[(1,3000192096)],[],[],[],true⟩ (QK _ _ none _ u8) (Z ?_)
    refine AW (Ff (r:=List.map Port.ds u5.ports) (AM u6) (Agent.ds_len _) (by simp only [go_sem,Agent.ds_eq])) (Z ?_)
    refine AT ((List.map Agent.ds u3).set (Int.toNat y) [.int .i64 u5.kind,.int .i64 u5.level,.int .i64 u5.value,.sl (List.map AJ u5.data),.gone]) ((B8 (AM u6) (d':=.sl (List.map Port.ds u5.ports)) (by simp only [go_sem,Agent.ds_eq])).trans (by simp only [go_sem,Agent.ds_eq])) (Z ?_)
    refine Ad (Et (C4 (AM u6)) rfl rfl) (Z ?_)
    refine AT (List.map Agent.ds u9) (((B8 (C4 (AM u6)) (d':=.gone) rfl).trans (List.set_set ..)).trans (by rw [← AN u10]; simp only [List.map_set,go_sem,Agent.ds_eq])) (Z ?_)
    refine AF ?_
    exact lpG (ih0 u9 u7.1 (IntKind.i64.wrap (y+1)) z1 _ h) [(1,1)] []
   ·refine AF ?_
    cases h
    refine Cc (.done _) [(1,1)] [] ?_
    simp only [go_sem]
theorem Oo (a0 a1) (z1:Option Nat) (r) (h:F8 a0 a1=some r):AG Tryz.prog 38 [.own 1,.int .i64 a1] [(1,⟨List.map Agent.ds a0,z1,0,.no⟩)] [] (.int .i64 r.1) [(1,⟨List.map Agent.ds r.2,z1,0,.no⟩)] [] :=by
 unfold F8 at h
 refine agF Tryz.func38 mixed (h:=Z ?_)
 exact loG (MC fuel a0 a1 0 z1 _ h) [(1,1)] []
theorem SY (a0 a1) (z1:Option Nat) (r) (h:HR a0 a1=some r):AG Tryz.prog 14 [.agg [.own 1],.int .i64 a1] [(1,⟨List.map Agent.ds a0.agents,z1,0,.no⟩)] [] (.int .i64 r.1) [(1,⟨List.map Agent.ds r.2,z1,0,.no⟩)] [] :=by
 unfold HR at h
 refine agF Tryz.func14 mixed (h:=Z ?_)
 replace h:=AB h; obtain⟨u,w,h⟩:=h
 refine caG ⟨[],[(1,1)],[],[],[],true⟩ (Oo _ _ z1 _ w) (Z ?_)
 refine AF ?_
 cases h
 refine Cc (.done _) [(1,1)] [] ?_
 simp only [go_sem]
theorem FH (u:Service × Int) (w:Int × (List Shard) × (List (List Parcel)) × (List (List Int)) × (List Int) × (List Int) × (List Bool) × (List Shard) × (List (List Int)) × (List Bool) × (List (List Parcel)) × (List Shard) × (List (List Parcel)) × (List (List Int)) × (List Int) × (List Int)) (y:Bool) (r:Bool) (h:CB u w y=some r):Ax Tryz.prog Tryz.f3 [1,1,1,1,1,1,1,1,1,1,1,1,1,1,1,1,1,1,1,1,1,1,1,0,1] (.bool r) ⟨[(12,.box 1000002500 0),(15,.int .i64 w.1),(113,.bool y)],[(1000002000,some ⟨List.map Shard.ds w.2.1,some 3,0,.no⟩),(1000002001,some ⟨List.map (slD Parcel.ds) w.2.2.1,some 1,0,.no⟩),(1000002002,some ⟨List.map (slD AJ) w.2.2.2.1,some 1,0,.no⟩),(1000002003,some ⟨List.map AJ w.2.2.2.2.1,some 1,0,.no⟩),(1000002004,some ⟨List.map AJ w.2.2.2.2.2.1,some 1,0,.no⟩),(1000002005,some ⟨List.map Ac w.2.2.2.2.2.2.1,some 1,0,.no⟩),(1000002006,some ⟨List.map Shard.ds w.2.2.2.2.2.2.2.1,some 3,0,.no⟩),(1000002007,some ⟨List.map (slD AJ) w.2.2.2.2.2.2.2.2.1,some 1,0,.no⟩),(1000002008,some ⟨List.map Ac w.2.2.2.2.2.2.2.2.2.1,some 1,0,.no⟩),(1000002009,some ⟨List.map (slD Parcel.ds) w.2.2.2.2.2.2.2.2.2.2.1,some 1,0,.no⟩),(1000002010,some ⟨List.map Shard.ds w.2.2.2.2.2.2.2.2.2.2.2.1,some 3,0,.no⟩),(1000002011,some ⟨List.map (slD Parcel.ds) w.2.2.2.2.2.2.2.2.2.2.2.2.1,some 1,0,.no⟩),(1000002012,some ⟨List.map (slD AJ) w.2.2.2.2.2.2.2.2.2.2.2.2.2.1,some 1,0,.no⟩),(1000002013,some ⟨List.map AJ w.2.2.2.2.2.2.2.2.2.2.2.2.2.2.1,some 1,0,.no⟩),(1000002014,some ⟨List.map AJ w.2.2.2.2.2.2.2.2.2.2.2.2.2.2.2,some 1,0,.no⟩)],[(1000002500,some [.own 1000002000,.int .i64 u.1.watched.cluster.grid.root.machine,.int .i64 u.1.watched.cluster.grid.root.kind,.int .i64 u.1.watched.cluster.grid.root.index,.own 1000002001,.own 1000002002,.own 1000002003,.own 1000002004,.own 1000002005,.own 1000002006,.own 1000002007,.own 1000002008,.own 1000002009,.own 1000002010,.int .i64 u.1.good.grid.root.machine,.int .i64 u.1.good.grid.root.kind,.int .i64 u.1.good.grid.root.index,.own 1000002011,.own 1000002012,.own 1000002013,.own 1000002014,.int .i64 u.1.shots,.int .i64 u.1.crashes])]⟩:=by
 unfold CB at h
 refine AS rfl rfl (Z ?_)
 refine AD h (fun h=>Z ?_) (fun h=>Z ?_)
 ·cases h
  simp only [go_sem]
 ·refine AF ?_
  replace h:=AB h; obtain⟨q,g,h⟩:=h
  refine AH (I3 _ _ _ g) (Z ?_)
  refine AF ?_
  refine AD h (fun h=>Z ?_) (fun h=>Z ?_)
  ·cases h
   simp only [go_sem]
  ·refine AF ?_
   refine AD h (fun h=>Z ?_) (fun h=>Z ?_)
   ·cases h
    simp only [go_sem]
   ·refine AF ?_
    cases h
    simp only [go_sem]
theorem DY (a0:Net) (a1:List Int) (a2:Int) (u:Service × Int) (w:Service × Int) (y:Bool) (r:Bool) (h:BT a0 a1 a2 u w y=some r):Ax Tryz.prog Tryz.f3 [1,1,1,1,1,1,1,1,1,1,1,1,1,1,1,0,1] (.bool r) ⟨[(1,.ro (List.map AJ a1)),(2,.int .i64 a2),(3,.box 1000001500 0),(8,.box 1000001501 0),(9,.int .i64 u.2),(12,.box 1000001502 0),(84,.bool y)],[(1000001000,some ⟨List.map Shard.ds u.1.watched.cluster.grid.shards,some 3,0,.no⟩),(1000001001,some ⟨List.map (slD Parcel.ds) u.1.watched.cluster.channels,some 1,0,.no⟩),(1000001002,some ⟨List.map (slD AJ) u.1.watched.cluster.counts,some 1,0,.no⟩),(1000001003,some ⟨List.map AJ u.1.watched.cluster.sent,some 1,0,.no⟩),(1000001004,some ⟨List.map AJ u.1.watched.cluster.got,some 1,0,.no⟩),(1000001005,some ⟨List.map Ac u.1.watched.shot.taken,some 1,0,.no⟩),(1000001006,some ⟨List.map Shard.ds u.1.watched.shot.shards,some 3,0,.no⟩),(1000001007,some ⟨List.map (slD AJ) u.1.watched.shot.counts,some 1,0,.no⟩),(1000001008,some ⟨List.map Ac u.1.watched.shot.recording,some 1,0,.no⟩),(1000001009,some ⟨List.map (slD Parcel.ds) u.1.watched.shot.saved,some 1,0,.no⟩),(1000001010,some ⟨List.map Shard.ds u.1.good.grid.shards,some 3,0,.no⟩),(1000001011,some ⟨List.map (slD Parcel.ds) u.1.good.channels,some 1,0,.no⟩),(1000001012,some ⟨List.map (slD AJ) u.1.good.counts,some 1,0,.no⟩),(1000001013,some ⟨List.map AJ u.1.good.sent,some 1,0,.no⟩),(1000001014,some ⟨List.map AJ u.1.good.got,some 1,0,.no⟩),(1000001015,some ⟨List.map Shard.ds w.1.watched.cluster.grid.shards,some 3,0,.no⟩),(1000001016,some ⟨List.map (slD Parcel.ds) w.1.watched.cluster.channels,some 1,0,.no⟩),(1000001017,some ⟨List.map (slD AJ) w.1.watched.cluster.counts,some 1,0,.no⟩),(1000001018,some ⟨List.map AJ w.1.watched.cluster.sent,some 1,0,.no⟩),(1000001019,some ⟨List.map AJ w.1.watched.cluster.got,some 1,0,.no⟩),(1000001020,some ⟨List.map Ac w.1.watched.shot.taken,some 1,0,.no⟩),(1000001021,some ⟨List.map Shard.ds w.1.watched.shot.shards,some 3,0,.no⟩),(1000001022,some ⟨List.map (slD AJ) w.1.watched.shot.counts,some 1,0,.no⟩),(1000001023,some ⟨List.map Ac w.1.watched.shot.recording,some 1,0,.no⟩),(1000001024,some ⟨List.map (slD Parcel.ds) w.1.watched.shot.saved,some 1,0,.no⟩),(1000001025,some ⟨List.map Shard.ds w.1.good.grid.shards,some 3,0,.no⟩),(1000001026,some ⟨List.map (slD Parcel.ds) w.1.good.channels,some 1,0,.no⟩),(1000001027,some ⟨List.map (slD AJ) w.1.good.counts,some 1,0,.no⟩),(1000001028,some ⟨List.map AJ w.1.good.sent,some 1,0,.no⟩),(1000001029,some ⟨List.map AJ w.1.good.got,some 1,0,.no⟩)],[(1000001500,some [.ro (List.map Agent.ds a0.agents)]),(1000001501,some [.own 1000001000,.int .i64 u.1.watched.cluster.grid.root.machine,.int .i64 u.1.watched.cluster.grid.root.kind,.int .i64 u.1.watched.cluster.grid.root.index,.own 1000001001,.own 1000001002,.own 1000001003,.own 1000001004,.own 1000001005,.own 1000001006,.own 1000001007,.own 1000001008,.own 1000001009,.own 1000001010,.int .i64 u.1.good.grid.root.machine,.int .i64 u.1.good.grid.root.kind,.int .i64 u.1.good.grid.root.index,.own 1000001011,.own 1000001012,.own 1000001013,.own 1000001014,.int .i64 u.1.shots,.int .i64 u.1.crashes]),(1000001502,some [.own 1000001015,.int .i64 w.1.watched.cluster.grid.root.machine,.int .i64 w.1.watched.cluster.grid.root.kind,.int .i64 w.1.watched.cluster.grid.root.index,.own 1000001016,.own 1000001017,.own 1000001018,.own 1000001019,.own 1000001020,.own 1000001021,.own 1000001022,.own 1000001023,.own 1000001024,.own 1000001025,.int .i64 w.1.good.grid.root.machine,.int .i64 w.1.good.grid.root.kind,.int .i64 w.1.good.grid.root.index,.own 1000001026,.own 1000001027,.own 1000001028,.own 1000001029,.int .i64 w.1.shots,.int .i64 w.1.crashes])]⟩:=by
 unfold BT at h
 refine AS rfl rfl (Z ?_)
 refine AD h (fun h=>Z ?_) (fun h=>Z ?_)
 ·cases h
  simp only [go_sem]
 ·refine AF ?_
  replace h:=AB h; obtain⟨q,g,h⟩:=h
  refine caG ⟨[],[(1,1000001015),(2,1000001016),(3,1000001017),(4,1000001018),(5,1000001019),(6,1000001020),(7,1000001021),(8,1000001022),(9,1000001023),(10,1000001024),(11,1000001025),(12,1000001026),(13,1000001027),(14,1000001028),(15,1000001029)],[],[],[],true⟩ (Nw _ _ (some 3) (some 1) (some 1) (some 1) (some 1) (some 1) (some 3) (some 1) (some 1) (some 1) (some 3) (some 1) (some 1) (some 1) (some 1) _ g) (Z ?_)
  refine AF ?_
  replace h:=AB h; obtain⟨j,k,h⟩:=h
  refine AH (I3 _ _ _ k) (Z ?_)
  refine AF ?_
  refine AD h (fun h=>Z ?_) (fun h=>Z ?_)
  ·cases h
   simp only [go_sem]
  ·refine AF ?_
   refine AD h (fun h=>Z ?_) (fun h=>Z ?_)
   ·cases h
    simp only [go_sem]
   ·refine AF ?_
    replace h:=AB h; obtain⟨b,d,h⟩:=h
    refine AH (Jg _ _ d) (Z ?_)
    replace h:=AB h; obtain⟨c,e,h⟩:=h
    refine AH (FX _ _ e) (Z ?_)
    replace h:=AB h; obtain⟨i,l,h⟩:=h
    refine AH (Jp _ _ _ _ l) (Z ?_)
    refine AF ?_
    replace h:=AB h; obtain⟨t,s,h⟩:=h
    refine AH (H6 _ _ _ s) (Z ?_)
    refine AD h (fun h=>Z ?_) (fun h=>Z ?_)
    ·exact BS (FH w q true _ h) [(1000002000,1000001015),(1000002001,1000001016),(1000002002,1000001017),(1000002003,1000001018),(1000002004,1000001019),(1000002005,1000001020),(1000002006,1000001021),(1000002007,1000001022),(1000002008,1000001023),(1000002009,1000001024),(1000002010,1000001025),(1000002011,1000001026),(1000002012,1000001027),(1000002013,1000001028),(1000002014,1000001029)] [(1000002500,1000001502)]
    ·exact BS (FH w q (!decide (i.2 =u.2)) _ h) [(1000002000,1000001015),(1000002001,1000001016),(1000002002,1000001017),(1000002003,1000001018),(1000002004,1000001019),(1000002005,1000001020),(1000002006,1000001021),(1000002007,1000001022),(1000002008,1000001023),(1000002009,1000001024),(1000002010,1000001025),(1000002011,1000001026),(1000002012,1000001027),(1000002013,1000001028),(1000002014,1000001029)] [(1000002500,1000001502)]
theorem FI (a0:Net) (a1:List Int) (a2:Int) (u:Service × Int) (w:Net) (y:(List Int)) (q:Service × Int) (g:Bool) (r:Bool) (h:CC a0 a1 a2 u w y q g=some r):Ax Tryz.prog Tryz.f3 [1,1,1,1,1,1,1,1,1,0,1] (.bool r) ⟨[(1,.ro (List.map AJ a1)),(2,.int .i64 a2),(3,.box 1000000500 0),(8,.box 1000000501 0),(9,.int .i64 u.2),(10,.box 1000000502 0),(11,.own 1000000016),(12,.box 1000000503 0),(13,.int .i64 q.2),(55,.bool g)],[(1000000000,some ⟨List.map Shard.ds u.1.watched.cluster.grid.shards,some 3,0,.no⟩),(1000000001,some ⟨List.map (slD Parcel.ds) u.1.watched.cluster.channels,some 1,0,.no⟩),(1000000002,some ⟨List.map (slD AJ) u.1.watched.cluster.counts,some 1,0,.no⟩),(1000000003,some ⟨List.map AJ u.1.watched.cluster.sent,some 1,0,.no⟩),(1000000004,some ⟨List.map AJ u.1.watched.cluster.got,some 1,0,.no⟩),(1000000005,some ⟨List.map Ac u.1.watched.shot.taken,some 1,0,.no⟩),(1000000006,some ⟨List.map Shard.ds u.1.watched.shot.shards,some 3,0,.no⟩),(1000000007,some ⟨List.map (slD AJ) u.1.watched.shot.counts,some 1,0,.no⟩),(1000000008,some ⟨List.map Ac u.1.watched.shot.recording,some 1,0,.no⟩),(1000000009,some ⟨List.map (slD Parcel.ds) u.1.watched.shot.saved,some 1,0,.no⟩),(1000000010,some ⟨List.map Shard.ds u.1.good.grid.shards,some 3,0,.no⟩),(1000000011,some ⟨List.map (slD Parcel.ds) u.1.good.channels,some 1,0,.no⟩),(1000000012,some ⟨List.map (slD AJ) u.1.good.counts,some 1,0,.no⟩),(1000000013,some ⟨List.map AJ u.1.good.sent,some 1,0,.no⟩),(1000000014,some ⟨List.map AJ u.1.good.got,some 1,0,.no⟩),(1000000015,some ⟨List.map Agent.ds w.agents,some 5,0,.no⟩),(1000000016,some ⟨List.map AJ y,some 1,0,.no⟩),(1000000017,some ⟨List.map Shard.ds q.1.watched.cluster.grid.shards,some 3,0,.no⟩),(1000000018,some ⟨List.map (slD Parcel.ds) q.1.watched.cluster.channels,some 1,0,.no⟩),(1000000019,some ⟨List.map (slD AJ) q.1.watched.cluster.counts,some 1,0,.no⟩),(1000000020,some ⟨List.map AJ q.1.watched.cluster.sent,some 1,0,.no⟩),(1000000021,some ⟨List.map AJ q.1.watched.cluster.got,some 1,0,.no⟩),(1000000022,some ⟨List.map Ac q.1.watched.shot.taken,some 1,0,.no⟩),(1000000023,some ⟨List.map Shard.ds q.1.watched.shot.shards,some 3,0,.no⟩),(1000000024,some ⟨List.map (slD AJ) q.1.watched.shot.counts,some 1,0,.no⟩),(1000000025,some ⟨List.map Ac q.1.watched.shot.recording,some 1,0,.no⟩),(1000000026,some ⟨List.map (slD Parcel.ds) q.1.watched.shot.saved,some 1,0,.no⟩),(1000000027,some ⟨List.map Shard.ds q.1.good.grid.shards,some 3,0,.no⟩),(1000000028,some ⟨List.map (slD Parcel.ds) q.1.good.channels,some 1,0,.no⟩),(1000000029,some ⟨List.map (slD AJ) q.1.good.counts,some 1,0,.no⟩),(1000000030,some ⟨List.map AJ q.1.good.sent,some 1,0,.no⟩),(1000000031,some ⟨List.map AJ q.1.good.got,some 1,0,.no⟩)],[(1000000500,some [.ro (List.map Agent.ds a0.agents)]),(1000000501,some [.own 1000000000,.int .i64 u.1.watched.cluster.grid.root.machine,.int .i64 u.1.watched.cluster.grid.root.kind,.int .i64 u.1.watched.cluster.grid.root.index,.own 1000000001,.own 1000000002,.own 1000000003,.own 1000000004,.own 1000000005,.own 1000000006,.own 1000000007,.own 1000000008,.own 1000000009,.own 1000000010,.int .i64 u.1.good.grid.root.machine,.int .i64 u.1.good.grid.root.kind,.int .i64 u.1.good.grid.root.index,.own 1000000011,.own 1000000012,.own 1000000013,.own 1000000014,.int .i64 u.1.shots,.int .i64 u.1.crashes]),(1000000502,some [.own 1000000015]),(1000000503,some [.own 1000000017,.int .i64 q.1.watched.cluster.grid.root.machine,.int .i64 q.1.watched.cluster.grid.root.kind,.int .i64 q.1.watched.cluster.grid.root.index,.own 1000000018,.own 1000000019,.own 1000000020,.own 1000000021,.own 1000000022,.own 1000000023,.own 1000000024,.own 1000000025,.own 1000000026,.own 1000000027,.int .i64 q.1.good.grid.root.machine,.int .i64 q.1.good.grid.root.kind,.int .i64 q.1.good.grid.root.index,.own 1000000028,.own 1000000029,.own 1000000030,.own 1000000031,.int .i64 q.1.shots,.int .i64 q.1.crashes])]⟩:=by
 unfold CC at h
 refine AS rfl rfl (Z ?_)
 refine AD h (fun h=>Z ?_) (fun h=>Z ?_)
 ·cases h
  simp only [go_sem]
 ·refine AF ?_
  refine Aa [] .fin (by kernel_rfl) (Z ?_)
  replace h:=AB h; obtain⟨j,k,h⟩:=h
  refine AH (Jg _ _ k) (Z ?_)
  replace h:=AB h; obtain⟨b,d,h⟩:=h
  refine AH (VL _ _ _ d) (Z ?_)
  refine AF ?_
  refine AD h (fun h=>Z ?_) (fun h=>Z ?_)
  ·cases h
   simp only [go_sem]
  ·refine AF ?_
   replace h:=AB h; obtain⟨c,e,h⟩:=h
   refine AH (FX _ _ e) (Z ?_)
   replace h:=AB h; obtain⟨i,l,h⟩:=h
   refine AH (Ej _ _ _ l) (Z ?_)
   refine AF ?_
   refine AD h (fun h=>Z ?_) (fun h=>Z ?_)
   ·cases h
    simp only [go_sem]
   ·refine AF ?_
    replace h:=AB h; obtain⟨t,s,h⟩:=h
    refine caG ⟨[],[(1,1000000015)],[],[],[],true⟩ (SY _ _ (some 5) _ s) (Z ?_)
    refine AF ?_
    replace h:=AB h; obtain⟨o,z,h⟩:=h
    refine caG ⟨[],[(1,1000000016)],[],[],[],true⟩ (Cz _ _ (some 1) _ z) (Z ?_)
    refine AF ?_
    refine AD h (fun h=>Z ?_) (fun h=>Z ?_)
    ·exact BS (DY a0 a1 a2 u q true _ h) [(1000001000,1000000000),(1000001001,1000000001),(1000001002,1000000002),(1000001003,1000000003),(1000001004,1000000004),(1000001005,1000000005),(1000001006,1000000006),(1000001007,1000000007),(1000001008,1000000008),(1000001009,1000000009),(1000001010,1000000010),(1000001011,1000000011),(1000001012,1000000012),(1000001013,1000000013),(1000001014,1000000014),(1000001015,1000000017),(1000001016,1000000018),(1000001017,1000000019),(1000001018,1000000020),(1000001019,1000000021),(1000001020,1000000022),(1000001021,1000000023),(1000001022,1000000024),(1000001023,1000000025),(1000001024,1000000026),(1000001025,1000000027),(1000001026,1000000028),(1000001027,1000000029),(1000001028,1000000030),(1000001029,1000000031)] [(1000001500,1000000500),(1000001501,1000000501),(1000001502,1000000503)]
    ·replace h:=AB h; obtain⟨u1,u2,h⟩:=h
     refine AH (H6 _ _ _ u2) (Z ?_)
     refine AD h (fun h=>Z ?_) (fun h=>Z ?_)
     ·exact BS (DY a0 a1 a2 u q true _ h) [(1000001000,1000000000),(1000001001,1000000001),(1000001002,1000000002),(1000001003,1000000003),(1000001004,1000000004),(1000001005,1000000005),(1000001006,1000000006),(1000001007,1000000007),(1000001008,1000000008),(1000001009,1000000009),(1000001010,1000000010),(1000001011,1000000011),(1000001012,1000000012),(1000001013,1000000013),(1000001014,1000000014),(1000001015,1000000017),(1000001016,1000000018),(1000001017,1000000019),(1000001018,1000000020),(1000001019,1000000021),(1000001020,1000000022),(1000001021,1000000023),(1000001022,1000000024),(1000001023,1000000025),(1000001024,1000000026),(1000001025,1000000027),(1000001026,1000000028),(1000001027,1000000029),(1000001028,1000000030),(1000001029,1000000031)] [(1000001500,1000000500),(1000001501,1000000501),(1000001502,1000000503)]
     ·exact BS (DY a0 a1 a2 u q (!decide (q.2 =u.2)) _ h) [(1000001000,1000000000),(1000001001,1000000001),(1000001002,1000000002),(1000001003,1000000003),(1000001004,1000000004),(1000001005,1000000005),(1000001006,1000000006),(1000001007,1000000007),(1000001008,1000000008),(1000001009,1000000009),(1000001010,1000000010),(1000001011,1000000011),(1000001012,1000000012),(1000001013,1000000013),(1000001014,1000000014),(1000001015,1000000017),(1000001016,1000000018),(1000001017,1000000019),(1000001018,1000000020),(1000001019,1000000021),(1000001020,1000000022),(1000001021,1000000023),(1000001022,1000000024),(1000001023,1000000025),(1000001024,1000000026),(1000001025,1000000027),(1000001026,1000000028),(1000001027,1000000029),(1000001028,1000000030),(1000001029,1000000031)] [(1000001500,1000000500),(1000001501,1000000501),(1000001502,1000000503)]
theorem JT (a0 a1 a2 r) (h:Dy a0 a1 a2=some r):AC Tryz.prog 3 [.agg (Net.avs a0),.ro (List.map AJ a1),.int .i64 a2] (.bool r):=by
 unfold Dy at h
 refine acF Tryz.func3 mixed (h:=Z ?_)
 refine AD h (fun h=>Z ?_) (fun h=>Z ?_)
 ·cases h
  simp only [go_sem]
 ·refine AF ?_
  replace h:=AB h; obtain⟨u,w,h⟩:=h
  refine AH (VM _ _ _ w) (Z ?_)
  refine AF ?_
  refine AD h (fun h=>Z ?_) (fun h=>Z ?_)
  ·cases h
   simp only [go_sem]
  ·refine AF ?_
   replace h:=AB h; obtain⟨y,q,h⟩:=h
   refine AH (Jg _ _ q) (Z ?_)
   replace h:=AB h; obtain⟨g,j,h⟩:=h
   refine AH (FX _ _ j) (Z ?_)
   replace h:=AB h; obtain⟨k,b,h⟩:=h
   refine AH (On _ _ _ _ b) (Z ?_)
   refine AF ?_
   replace h:=AB h; obtain⟨d,c,h⟩:=h
   refine AH (Jg _ _ c) (Z ?_)
   refine AF ?_
   replace h:=AB h; obtain⟨e,i,h⟩:=h
   refine AH (FX _ _ i) (Z ?_)
   refine AF ?_
   replace h:=AB h; obtain⟨l,t,h⟩:=h
   refine AH (Jp _ _ _ _ t) (Z ?_)
   refine AF ?_
   replace h:=AB h; obtain⟨s,o,h⟩:=h
   refine AH (H6 _ _ _ o) (Z ?_)
   refine AD h (fun h=>Z ?_) (fun h=>Z ?_)
   ·exact BS (FI a0 a1 a2 k d e l true _ h) [(1000000000,128080),(1000000001,128081),(1000000002,128082),(1000000003,128083),(1000000004,128084),(1000000005,128085),(1000000006,128086),(1000000007,128087),(1000000008,128088),(1000000009,128089),(1000000010,128090),(1000000011,128091),(1000000012,128092),(1000000013,128093),(1000000014,128094),(1000000015,144016),(1000000016,160016),(1000000017,176048),(1000000018,176049),(1000000019,176050),(1000000020,176051),(1000000021,176052),(1000000022,176053),(1000000023,176054),(1000000024,176055),(1000000025,176056),(1000000026,176057),(1000000027,176058),(1000000028,176059),(1000000029,176060),(1000000030,176061),(1000000031,176062)] [(1000000500,1000),(1000000501,8009),(1000000502,9002),(1000000503,11007)]
   ·exact BS (FI a0 a1 a2 k d e l (!decide (l.2 =k.2)) _ h) [(1000000000,128080),(1000000001,128081),(1000000002,128082),(1000000003,128083),(1000000004,128084),(1000000005,128085),(1000000006,128086),(1000000007,128087),(1000000008,128088),(1000000009,128089),(1000000010,128090),(1000000011,128091),(1000000012,128092),(1000000013,128093),(1000000014,128094),(1000000015,144016),(1000000016,160016),(1000000017,176048),(1000000018,176049),(1000000019,176050),(1000000020,176051),(1000000021,176052),(1000000022,176053),(1000000023,176054),(1000000024,176055),(1000000025,176056),(1000000026,176057),(1000000027,176058),(1000000028,176059),(1000000029,176060),(1000000030,176061),(1000000031,176062)] [(1000000500,1000),(1000000501,8009),(1000000502,9002),(1000000503,11007)]
end Go.Proofs.YtclmbjbbojdojaaGreat.Ab
