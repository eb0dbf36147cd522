/-
  The functions do what their models say. Printed by wip/ab/gen.py.
-/
import Derived.Test.YtffokcfdkkikmaaWlkV
namespace Go.Proofs.Ytffokcfdkkikmaa.Ab
set_option linter.unusedVariables false
set_option linter.unusedSimpArgs false
set_option maxRecDepth 20000
set_option maxHeartbeats 40000000
open Go.RowKit

theorem l_FnExactSameService_ok (a0 : Service) (a1 : Service) (r : Bool) (h : l_FnExactSameService a0 a1 = some r) : AC Try.prog 7 [.agg (Service.avs a0), .agg (Service.avs a1)] (.bool r) := by
  unfold l_FnExactSameService at h
  refine ac_fn mixed Try.func7 rfl rfl rfl (by kernel_rfl) (by kernel_rfl) ?_
  try simp only [go_sem]
  replace h := bindE h
  obtain ⟨v3002, hv3002, h⟩ := h
  refine call_i (l_szService_ok _ _ _ hv3002) ?_
  try simp only [go_sem]
  refine cond_i (fun hb1 => ?_) (fun hb1 => ?_)
  · replace h := ifT (c := (decide (v3002 < 0))) hb1 h
    try simp only [go_sem]
    replace h := Option.some.inj h
    obtain rfl := h
    simp only [go_sem]
  · replace h := ifF (c := (decide (v3002 < 0))) hb1 h
    try simp only [go_sem]
    refine seq_go ?_
    try simp only [go_sem]
    replace h := bindE h
    obtain ⟨v6002, hv6002, h⟩ := h
    refine call_i (l_szService_ok _ _ _ hv6002) ?_
    try simp only [go_sem]
    refine cond_i (fun hb2 => ?_) (fun hb2 => ?_)
    · replace h := ifT (c := (decide (v6002 < 0))) hb2 h
      try simp only [go_sem]
      replace h := Option.some.inj h
      obtain rfl := h
      simp only [go_sem]
    · replace h := ifF (c := (decide (v6002 < 0))) hb2 h
      try simp only [go_sem]
      refine seq_go ?_
      try simp only [go_sem]
      refine draw_i [] .fin (by kernel_rfl) ?_
      try simp only [go_sem]
      replace h := bindE h
      obtain ⟨v9001, hv9001, h⟩ := h
      refine call_i (l_toService_ok _ _ hv9001) ?_
      try simp only [go_sem]
      replace h := bindE h
      obtain ⟨v9003, hv9003, h⟩ := h
      refine call_i (l_toService_ok _ _ hv9003) ?_
      try simp only [go_sem]
      replace h := bindE h
      obtain ⟨v9004, hv9004, h⟩ := h
      refine call_i (s_SameService_ok _ _ _ hv9004) ?_
      try simp only [go_sem]
      refine seq_go ?_
      try simp only [go_sem]
      replace h := bindE h
      obtain ⟨v10001, hv10001, h⟩ := h
      refine call_i (l_toService_ok _ _ hv10001) ?_
      try simp only [go_sem]
      replace h := bindE h
      obtain ⟨v11001, hv11001, h⟩ := h
      refine call_i (l_toService_ok _ _ hv11001) ?_
      try simp only [go_sem]
      replace h := bindE h
      obtain ⟨v12002, hv12002, h⟩ := h
      refine call_i (i_SameService_ok _ _ _ hv12002) ?_
      try simp only [go_sem]
      refine cond_i (fun hb3 => ?_) (fun hb3 => ?_)
      · replace h := ifT (c := (!(v12002 == v9004))) hb3 h
        try simp only [go_sem]
        replace h := Option.some.inj h
        obtain rfl := h
        simp only [go_sem]
      · replace h := ifF (c := (!(v12002 == v9004))) hb3 h
        try simp only [go_sem]
        refine seq_go ?_
        try simp only [go_sem]
        refine draw_i [] .fin (by kernel_rfl) ?_
        try simp only [go_sem]
        replace h := bindE h
        obtain ⟨v15002, hv15002, h⟩ := h
        refine call_i (l_toService_ok _ _ hv15002) ?_
        try simp only [go_sem]
        replace h := bindE h
        obtain ⟨v15003, hv15003, h⟩ := h
        refine call_i (l_eqService_ok _ _ _ hv15003) ?_
        try simp only [go_sem]
        refine seq_go ?_
        try simp only [go_sem]
        refine cond_i (fun hb4 => ?_) (fun hb4 => ?_)
        · replace h := ifT (c := (!v15003)) hb4 h
          try simp only [go_sem]
          replace h := Option.some.inj h
          obtain rfl := h
          simp only [go_sem]
        · replace h := ifF (c := (!v15003)) hb4 h
          try simp only [go_sem]
          refine seq_go ?_
          try simp only [go_sem]
          refine draw_i [] .fin (by kernel_rfl) ?_
          try simp only [go_sem]
          replace h := bindE h
          obtain ⟨v17002, hv17002, h⟩ := h
          refine call_i (l_toService_ok _ _ hv17002) ?_
          try simp only [go_sem]
          replace h := bindE h
          obtain ⟨v17003, hv17003, h⟩ := h
          refine call_i (l_eqService_ok _ _ _ hv17003) ?_
          try simp only [go_sem]
          refine seq_go ?_
          try simp only [go_sem]
          refine cond_i (fun hb5 => ?_) (fun hb5 => ?_)
          · replace h := ifT (c := (!v17003)) hb5 h
            try simp only [go_sem]
            replace h := Option.some.inj h
            obtain rfl := h
            simp only [go_sem]
          · replace h := ifF (c := (!v17003)) hb5 h
            try simp only [go_sem]
            refine seq_go ?_
            try simp only [go_sem]
            replace h := Option.some.inj h
            obtain rfl := h
            simp only [go_sem]
end Go.Proofs.Ytffokcfdkkikmaa.Ab
