/-
  The functions do what their models say. Printed by wip/ab/gen.py.
-/
import Derived.Test.YtlmanchbpommaaaGreatModI
import Derived.Test.YtlmanchbpommaaaGreatTi2
import Derived.Test.YtlmanchbpommaaaGreatWlkJ
namespace Go.Proofs.YtlmanchbpommaaaGreat.Ab
set_option linter.unusedVariables false
set_option linter.unusedSimpArgs false
set_option maxRecDepth 20000
set_option maxHeartbeats 4000000
open Go.RowKit

theorem l_FnExactJobOf_j3_ok (v8002 : Job × Int) (v18002 : Int × (List Int) × (List Int) × (List Net) × (List Agent)) (p2_0 : Bool) (r : Bool) (h : l_FnExactJobOf_j3 v8002 v18002 p2_0 = some r) : posF Tryz.prog Tryz.f3 [1, 1, 1, 1, 1, 1, 1, 1, 1, 1, 1, 1, 1, 1, 1, 1, 1, 1, 1, 0, 1] (.bool r) ⟨[(9, .box 1000002500 0), (12, .int .i64 v18002.1), (92, .bool p2_0)], [(1000002000, some ⟨List.map i64D v18002.2.1, some 1, 0⟩), (1000002001, some ⟨List.map i64D v18002.2.2.1, some 1, 0⟩), (1000002002, some ⟨List.map Net.ds v18002.2.2.2.1, some 1, 0⟩), (1000002003, some ⟨List.map Agent.ds v18002.2.2.2.2, some 5, 0⟩)], [(1000002500, some [.int .i64 v8002.1.id, .int .i64 v8002.1.weight, .int .i64 v8002.1.state, .int .i64 v8002.1.code, .int .i64 v8002.1.left, .int .i64 v8002.1.slices, .own 1000002000, .own 1000002001, .own 1000002002, .own 1000002003])]⟩ := by
  unfold l_FnExactJobOf_j3 at h
  refine posF_of rfl rfl ?_
  try simp only [go_sem]
  refine cond_i (fun hb11 => ?_) (fun hb11 => ?_)
  · replace h := ifT (c := p2_0) hb11 h
    try simp only [go_sem]
    replace h := Option.some.inj h
    obtain rfl := h
    simp only [go_sem]
  · replace h := ifF (c := p2_0) hb11 h
    try simp only [go_sem]
    refine seq_go ?_
    try simp only [go_sem]
    replace h := bindE h
    obtain ⟨v29002, hv29002, h⟩ := h
    refine call_i (l_heldJob_ok _ _ _ hv29002) ?_
    try simp only [go_sem]
    refine cond_i (fun hb12 => ?_) (fun hb12 => ?_)
    · replace h := ifT (c := (decide (v29002 < 0))) hb12 h
      try simp only [go_sem]
      replace h := Option.some.inj h
      obtain rfl := h
      simp only [go_sem]
    · replace h := ifF (c := (decide (v29002 < 0))) hb12 h
      try simp only [go_sem]
      refine seq_go ?_
      try simp only [go_sem]
      refine cond_i (fun hb13 => ?_) (fun hb13 => ?_)
      · replace h := ifT (c := (!decide (v29002 = v18002.1))) hb13 h
        try simp only [go_sem]
        replace h := Option.some.inj h
        obtain rfl := h
        simp only [go_sem]
      · replace h := ifF (c := (!decide (v29002 = v18002.1))) hb13 h
        try simp only [go_sem]
        refine seq_go ?_
        try simp only [go_sem]
        replace h := Option.some.inj h
        obtain rfl := h
        simp only [go_sem]
theorem l_FnExactJobOf_j2_ok (a0 : Queue) (a1 : Int) (v6003 : Job × Int) (v8002 : Job × Int) (p1_0 : Bool) (r : Bool) (h : l_FnExactJobOf_j2 a0 a1 v6003 v8002 p1_0 = some r) : posF Tryz.prog Tryz.f3 [1, 1, 1, 1, 1, 1, 1, 1, 1, 1, 1, 0, 1] (.bool r) ⟨[(1, .int .i64 a1), (2, .box 1000001500 0), (6, .box 1000001501 0), (7, .int .i64 v6003.2), (9, .box 1000001502 0), (65, .bool p1_0)], [(1000001000, some ⟨List.map i64D v6003.1.counts, some 1, 0⟩), (1000001001, some ⟨List.map i64D v6003.1.schedule, some 1, 0⟩), (1000001002, some ⟨List.map Net.ds v6003.1.book, some 1, 0⟩), (1000001003, some ⟨List.map Agent.ds v6003.1.net.agents, some 5, 0⟩), (1000001004, some ⟨List.map i64D v8002.1.counts, some 1, 0⟩), (1000001005, some ⟨List.map i64D v8002.1.schedule, some 1, 0⟩), (1000001006, some ⟨List.map Net.ds v8002.1.book, some 1, 0⟩), (1000001007, some ⟨List.map Agent.ds v8002.1.net.agents, some 5, 0⟩)], [(1000001500, some [.int .i64 a0.quantum, .int .i64 a0.nextId, .int .i64 a0.turn, .ro (List.map Job.ds a0.jobs)]), (1000001501, some [.int .i64 v6003.1.id, .int .i64 v6003.1.weight, .int .i64 v6003.1.state, .int .i64 v6003.1.code, .int .i64 v6003.1.left, .int .i64 v6003.1.slices, .own 1000001000, .own 1000001001, .own 1000001002, .own 1000001003]), (1000001502, some [.int .i64 v8002.1.id, .int .i64 v8002.1.weight, .int .i64 v8002.1.state, .int .i64 v8002.1.code, .int .i64 v8002.1.left, .int .i64 v8002.1.slices, .own 1000001004, .own 1000001005, .own 1000001006, .own 1000001007])]⟩ := by
  unfold l_FnExactJobOf_j2 at h
  refine posF_of rfl rfl ?_
  try simp only [go_sem]
  refine cond_i (fun hb7 => ?_) (fun hb7 => ?_)
  · replace h := ifT (c := p1_0) hb7 h
    try simp only [go_sem]
    replace h := Option.some.inj h
    obtain rfl := h
    simp only [go_sem]
  · replace h := ifF (c := p1_0) hb7 h
    try simp only [go_sem]
    refine seq_go ?_
    try simp only [go_sem]
    replace h := bindE h
    obtain ⟨v18002, hv18002, h⟩ := h
    refine call_g ⟨[], [(1, 1000001004), (2, 1000001005), (3, 1000001006), (4, 1000001007)], [], [], [], true⟩ (by kernel_rfl) (l_markJob_ok _ _ (some 1) (some 1) (some 1) (some 5) _ hv18002) (by kernel_rfl) ?_
    try simp only [go_sem]
    replace h := bindE h
    obtain ⟨v20002, hv20002, h⟩ := h
    refine call_i (l_heldJob_ok _ _ _ hv20002) ?_
    try simp only [go_sem]
    refine cond_i (fun hb8 => ?_) (fun hb8 => ?_)
    · replace h := ifT (c := (decide (v20002 < 0))) hb8 h
      try simp only [go_sem]
      replace h := Option.some.inj h
      obtain rfl := h
      simp only [go_sem]
    · replace h := ifF (c := (decide (v20002 < 0))) hb8 h
      try simp only [go_sem]
      refine seq_go ?_
      try simp only [go_sem]
      refine cond_i (fun hb9 => ?_) (fun hb9 => ?_)
      · replace h := ifT (c := (!decide (v20002 = v18002.1))) hb9 h
        try simp only [go_sem]
        replace h := Option.some.inj h
        obtain rfl := h
        simp only [go_sem]
      · replace h := ifF (c := (!decide (v20002 = v18002.1))) hb9 h
        try simp only [go_sem]
        refine seq_go ?_
        try simp only [go_sem]
        replace h := bindE h
        obtain ⟨v25001, hv25001, h⟩ := h
        refine call_i (l_toQueue_ok _ _ hv25001) ?_
        try simp only [go_sem]
        replace h := bindE h
        obtain ⟨v25003, hv25003, h⟩ := h
        refine call_i (i_JobOf_ok _ _ _ hv25003) ?_
        try simp only [go_sem]
        replace h := bindE h
        obtain ⟨v26002, hv26002, h⟩ := h
        refine call_i (l_eqJob_ok _ _ _ hv26002) ?_
        try simp only [go_sem]
        refine cond_i (fun hb10 => ?_) (fun hb10 => ?_)
        · replace h := ifT (c := (!v26002)) hb10 h
          try simp only [go_sem]
          have hj := posF_to rfl rfl (l_FnExactJobOf_j3_ok v8002 v18002 true _ h)
          refine seq_to hj (.one ⟨_, .done _, [(1000002000, 1000001004), (1000002001, 1000001005), (1000002002, 1000001006), (1000002003, 1000001007)], [(1000002500, 1000001502)], ?_⟩)
          clear hj
          try simp only [go_sem]
        · replace h := ifF (c := (!v26002)) hb10 h
          try simp only [go_sem]
          have hj := posF_to rfl rfl (l_FnExactJobOf_j3_ok v8002 v18002 (!decide (v25003.2 = v6003.2)) _ h)
          refine seq_to hj (.one ⟨_, .done _, [(1000002000, 1000001004), (1000002001, 1000001005), (1000002002, 1000001006), (1000002003, 1000001007)], [(1000002500, 1000001502)], ?_⟩)
          clear hj
          try simp only [go_sem]
theorem l_FnExactJobOf_j1_ok (a0 : Queue) (a1 : Int) (v6003 : Job × Int) (v7001 : Queue) (v8002 : Job × Int) (p0_0 : Bool) (r : Bool) (h : l_FnExactJobOf_j1 a0 a1 v6003 v7001 v8002 p0_0 = some r) : posF Tryz.prog Tryz.f3 [1, 1, 1, 1, 1, 1, 1, 0, 1] (.bool r) ⟨[(1, .int .i64 a1), (2, .box 1000000500 0), (6, .box 1000000501 0), (7, .int .i64 v6003.2), (8, .box 1000000502 0), (9, .box 1000000503 0), (10, .int .i64 v8002.2), (44, .bool p0_0)], [(1000000000, some ⟨List.map i64D v6003.1.counts, some 1, 0⟩), (1000000001, some ⟨List.map i64D v6003.1.schedule, some 1, 0⟩), (1000000002, some ⟨List.map Net.ds v6003.1.book, some 1, 0⟩), (1000000003, some ⟨List.map Agent.ds v6003.1.net.agents, some 5, 0⟩), (1000000004, some ⟨List.map Job.ds v7001.jobs, some 10, 0⟩), (1000000005, some ⟨List.map i64D v8002.1.counts, some 1, 0⟩), (1000000006, some ⟨List.map i64D v8002.1.schedule, some 1, 0⟩), (1000000007, some ⟨List.map Net.ds v8002.1.book, some 1, 0⟩), (1000000008, some ⟨List.map Agent.ds v8002.1.net.agents, some 5, 0⟩)], [(1000000500, some [.int .i64 a0.quantum, .int .i64 a0.nextId, .int .i64 a0.turn, .ro (List.map Job.ds a0.jobs)]), (1000000501, some [.int .i64 v6003.1.id, .int .i64 v6003.1.weight, .int .i64 v6003.1.state, .int .i64 v6003.1.code, .int .i64 v6003.1.left, .int .i64 v6003.1.slices, .own 1000000000, .own 1000000001, .own 1000000002, .own 1000000003]), (1000000502, some [.int .i64 v7001.quantum, .int .i64 v7001.nextId, .int .i64 v7001.turn, .own 1000000004]), (1000000503, some [.int .i64 v8002.1.id, .int .i64 v8002.1.weight, .int .i64 v8002.1.state, .int .i64 v8002.1.code, .int .i64 v8002.1.left, .int .i64 v8002.1.slices, .own 1000000005, .own 1000000006, .own 1000000007, .own 1000000008])]⟩ := by
  unfold l_FnExactJobOf_j1 at h
  refine posF_of rfl rfl ?_
  try simp only [go_sem]
  refine cond_i (fun hb3 => ?_) (fun hb3 => ?_)
  · replace h := ifT (c := p0_0) hb3 h
    try simp only [go_sem]
    replace h := Option.some.inj h
    obtain rfl := h
    simp only [go_sem]
  · replace h := ifF (c := p0_0) hb3 h
    try simp only [go_sem]
    refine seq_go ?_
    try simp only [go_sem]
    refine draw_i [] .fin (by kernel_rfl) ?_
    try simp only [go_sem]
    replace h := bindE h
    obtain ⟨v11002, hv11002, h⟩ := h
    refine call_i (l_toQueue_ok _ _ hv11002) ?_
    try simp only [go_sem]
    replace h := bindE h
    obtain ⟨v11003, hv11003, h⟩ := h
    refine call_i (l_eqQueue_ok _ _ _ hv11003) ?_
    try simp only [go_sem]
    refine seq_go ?_
    try simp only [go_sem]
    refine cond_i (fun hb4 => ?_) (fun hb4 => ?_)
    · replace h := ifT (c := (!v11003)) hb4 h
      try simp only [go_sem]
      replace h := Option.some.inj h
      obtain rfl := h
      simp only [go_sem]
    · replace h := ifF (c := (!v11003)) hb4 h
      try simp only [go_sem]
      refine seq_go ?_
      try simp only [go_sem]
      replace h := bindE h
      obtain ⟨v14002, hv14002, h⟩ := h
      refine call_g ⟨[], [(1, 1000000004)], [], [], [], true⟩ (by kernel_rfl) (l_markQueue_ok _ _ (some 10) _ hv14002) (by kernel_rfl) ?_
      try simp only [go_sem]
      refine cond_i (fun hb5 => ?_) (fun hb5 => ?_)
      · replace h := ifT (c := (decide (v14002.1 < 0))) hb5 h
        try simp only [go_sem]
        have hj := posF_to rfl rfl (l_FnExactJobOf_j2_ok a0 a1 v6003 v8002 true _ h)
        refine seq_to hj (.one ⟨_, .done _, [(1000001000, 1000000000), (1000001001, 1000000001), (1000001002, 1000000002), (1000001003, 1000000003), (1000001004, 1000000005), (1000001005, 1000000006), (1000001006, 1000000007), (1000001007, 1000000008)], [(1000001500, 1000000500), (1000001501, 1000000501), (1000001502, 1000000503)], ?_⟩)
        clear hj
        try simp only [go_sem]
      · replace h := ifF (c := (decide (v14002.1 < 0))) hb5 h
        try simp only [go_sem]
        replace h := bindE h
        obtain ⟨v15005, hv15005, h⟩ := h
        refine call_i (l_eqJob_ok _ _ _ hv15005) ?_
        try simp only [go_sem]
        refine cond_i (fun hb6 => ?_) (fun hb6 => ?_)
        · replace h := ifT (c := (!v15005)) hb6 h
          try simp only [go_sem]
          have hj := posF_to rfl rfl (l_FnExactJobOf_j2_ok a0 a1 v6003 v8002 true _ h)
          refine seq_to hj (.one ⟨_, .done _, [(1000001000, 1000000000), (1000001001, 1000000001), (1000001002, 1000000002), (1000001003, 1000000003), (1000001004, 1000000005), (1000001005, 1000000006), (1000001006, 1000000007), (1000001007, 1000000008)], [(1000001500, 1000000500), (1000001501, 1000000501), (1000001502, 1000000503)], ?_⟩)
          clear hj
          try simp only [go_sem]
        · replace h := ifF (c := (!v15005)) hb6 h
          try simp only [go_sem]
          have hj := posF_to rfl rfl (l_FnExactJobOf_j2_ok a0 a1 v6003 v8002 (!decide (v8002.2 = v6003.2)) _ h)
          refine seq_to hj (.one ⟨_, .done _, [(1000001000, 1000000000), (1000001001, 1000000001), (1000001002, 1000000002), (1000001003, 1000000003), (1000001004, 1000000005), (1000001005, 1000000006), (1000001006, 1000000007), (1000001007, 1000000008)], [(1000001500, 1000000500), (1000001501, 1000000501), (1000001502, 1000000503)], ?_⟩)
          clear hj
          try simp only [go_sem]
theorem l_FnExactJobOf_ok (a0 : Queue) (a1 : Int) (r : Bool) (h : l_FnExactJobOf a0 a1 = some r) : AC Tryz.prog 3 [.agg (Queue.avs a0), .int .i64 a1] (.bool r) := by
  unfold l_FnExactJobOf at h
  refine ac_fn mixed Tryz.func3 rfl rfl rfl (by kernel_rfl) (by kernel_rfl) ?_
  try simp only [go_sem]
  replace h := bindE h
  obtain ⟨v3002, hv3002, h⟩ := h
  refine call_i (l_szQueue_ok _ _ _ hv3002) ?_
  try simp only [go_sem]
  refine cond_i (fun hb1 => ?_) (fun hb1 => ?_)
  · replace h := ifT (c := (decide (v3002 < 0))) hb1 h
    try simp only [go_sem]
    replace h := Option.some.inj h
    obtain rfl := h
    simp only [go_sem]
  · replace h := ifF (c := (decide (v3002 < 0))) hb1 h
    try simp only [go_sem]
    refine seq_go ?_
    try simp only [go_sem]
    replace h := bindE h
    obtain ⟨v6001, hv6001, h⟩ := h
    refine call_i (l_toQueue_ok _ _ hv6001) ?_
    try simp only [go_sem]
    replace h := bindE h
    obtain ⟨v6003, hv6003, h⟩ := h
    refine call_i (s_JobOf_ok _ _ _ hv6003) ?_
    try simp only [go_sem]
    replace h := bindE h
    obtain ⟨v7001, hv7001, h⟩ := h
    refine call_i (l_toQueue_ok _ _ hv7001) ?_
    try simp only [go_sem]
    replace h := bindE h
    obtain ⟨v8002, hv8002, h⟩ := h
    refine call_i (i_JobOf_ok _ _ _ hv8002) ?_
    try simp only [go_sem]
    replace h := bindE h
    obtain ⟨v9002, hv9002, h⟩ := h
    refine call_i (l_eqJob_ok _ _ _ hv9002) ?_
    try simp only [go_sem]
    refine cond_i (fun hb2 => ?_) (fun hb2 => ?_)
    · replace h := ifT (c := (!v9002)) hb2 h
      try simp only [go_sem]
      have hj := posF_to rfl rfl (l_FnExactJobOf_j1_ok a0 a1 v6003 v7001 v8002 true _ h)
      refine seq_to hj (.one ⟨_, .done _, [(1000000000, 96048), (1000000001, 96049), (1000000002, 96050), (1000000003, 96051), (1000000004, 112016), (1000000005, 128032), (1000000006, 128033), (1000000007, 128034), (1000000008, 128035)], [(1000000500, 1000), (1000000501, 6007), (1000000502, 7002), (1000000503, 8006)], ?_⟩)
      clear hj
      try simp only [go_sem]
    · replace h := ifF (c := (!v9002)) hb2 h
      try simp only [go_sem]
      have hj := posF_to rfl rfl (l_FnExactJobOf_j1_ok a0 a1 v6003 v7001 v8002 (!decide (v8002.2 = v6003.2)) _ h)
      refine seq_to hj (.one ⟨_, .done _, [(1000000000, 96048), (1000000001, 96049), (1000000002, 96050), (1000000003, 96051), (1000000004, 112016), (1000000005, 128032), (1000000006, 128033), (1000000007, 128034), (1000000008, 128035)], [(1000000500, 1000), (1000000501, 6007), (1000000502, 7002), (1000000503, 8006)], ?_⟩)
      clear hj
      try simp only [go_sem]
end Go.Proofs.YtlmanchbpommaaaGreat.Ab
