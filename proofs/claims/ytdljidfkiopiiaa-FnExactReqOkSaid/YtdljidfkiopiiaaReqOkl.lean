/- What the functions do that the law reaches; and the law. -/
import Derived.Test.YtdljidfkiopiiaaReqOkt
import Derived.Test.YtdljidfkiopiiaaAmSim
set_option autoImplicit false
set_option linter.unusedVariables false
set_option linter.unusedSimpArgs false
namespace GoAm
open Go
theorem c_impl_within (M : Mem) (x a b : Int) : aCall T0 F_impl_within [.int .i64 x, .int .i64 a, .int .i64 b] M = some (.bool (decide (a ≤ x) && decide (x ≤ b)), M) := by
  rw [aCall_eq T_impl_within]; unfold A_impl_within C_impl_within; simp
  repeat' ((first | rw [selO_some] | rw [condR_bool] | rw [selD_some]); split <;> rename_i hq <;> (have hq2 := hq) <;> (try simp at hq2) <;> (try simp [*]))
def shapeB (k s : Int) : Bool := if k = 6 then decide (1 ≤ s) && decide (s ≤ 16) else decide (1 ≤ k) && decide (k ≤ 5) && decide (s = 0)
theorem c_impl_isShape (M : Mem) (k s : Int) : aCall T0 F_impl_isShape [.int .i64 k, .int .i64 s] M = some (.bool (shapeB k s), M) := by
  unfold shapeB
  rw [aCall_eq T_impl_isShape]; unfold A_impl_isShape C_impl_isShape; simp [c_impl_within]
  repeat' ((first | rw [selO_some] | rw [condR_bool] | rw [selD_some]); split <;> rename_i hq <;> (have hq2 := hq) <;> (try simp at hq2) <;> (try simp [*, c_impl_within]))
def shapeB2 (k s : Int) : Bool := if k = 6 then decide (1 ≤ s) && decide (s ≤ 16) else decide (1 ≤ k) && decide (k ≤ 6) && decide (s = 0)
theorem shapeB2_eq (k s : Int) : shapeB2 k s = shapeB k s := by
  unfold shapeB2 shapeB
  split
  · rfl
  · rw [show decide (k ≤ 6) = decide (k ≤ 5) from decide_eq_decide.2 (by omega)]
theorem c_spec_l18Shape (M : Mem) (k s : Int) : aCall T0 F_spec_l18Shape [.int .i64 k, .int .i64 s] M = some (.bool (shapeB k s), M) := by
  rw [← shapeB2_eq]
  unfold shapeB2
  rw [aCall_eq T_spec_l18Shape]; unfold A_spec_l18Shape C_spec_l18Shape; simp
  repeat' ((first | rw [selO_some] | rw [condR_bool] | rw [selD_some]); split <;> rename_i hq <;> (have hq2 := hq) <;> (try simp at hq2) <;> (try simp [*]))
abbrev reqCs (k : Int) (w : List UInt8) (wt d n s : Int) (t : List UInt8) : List V := [.int .i64 k, strV w, .int .i64 wt, .int .i64 d, .int .i64 n, .int .i64 s, strV t]
def reqOkB (k s : Int) (w t : List UInt8) : Bool := shapeB k s && decide ((w.length : Int) ≤ 100) && decide ((t.length : Int) ≤ 2000)
theorem c_laws_szReq (M : Mem) (k : Int) (w : List UInt8) (wt d n s : Int) (t : List UInt8) (hw : w.length ≤ 9223372036854775807) (ht : t.length ≤ 9223372036854775807) :
    aCall T0 F_laws_szReq [.agg (reqCs k w wt d n s t).toArray, .int .i64 1048576] M = some (.int .i64 (if w.length + t.length ≤ 1048576 then 1048576 - w.length - t.length else -1), M) := by
  rw [aCall_eq T_laws_szReq]; unfold A_laws_szReq C_laws_szReq; simp
  rw [wrap_i64 (by omega) (by omega)]
  ((first | rw [selO_some] | rw [condR_bool] | rw [selD_some]); split <;> rename_i hq <;> (have hq2 := hq) <;> (try simp at hq2) <;> (try simp [*]))
  · omega
  · rw [wrap_i64 (by omega) (by omega)]
    ((first | rw [selO_some] | rw [condR_bool] | rw [selD_some]); split <;> rename_i hq <;> (have hq2 := hq) <;> (try simp at hq2) <;> (try simp [*]))
    · omega
    · omega
theorem c_laws_toReq (M : Mem) (k : Int) (w : List UInt8) (wt d n s : Int) (t : List UInt8) : aCall T0 F_laws_toReq [.agg (reqCs k w wt d n s t).toArray] M = some (.agg (reqCs k w wt d n s t).toArray, M) := by
  rw [aCall_eq T_laws_toReq]; unfold A_laws_toReq C_laws_toReq; simp
theorem c_impl_isReq (M : Mem) (k : Int) (w : List UInt8) (wt d n s : Int) (t : List UInt8) : aCall T0 F_impl_isReq [.agg (reqCs k w wt d n s t).toArray] M = some (.bool (reqOkB k s w t), M) := by
  unfold reqOkB
  rw [aCall_eq T_impl_isReq]; unfold A_impl_isReq C_impl_isReq; simp [c_impl_isShape]
  repeat' ((first | rw [selO_some] | rw [condR_bool] | rw [selD_some]); split <;> rename_i hq <;> (have hq2 := hq) <;> (try simp at hq2) <;> (try simp [*, c_impl_isShape]))
theorem c_impl_ReqOk (M : Mem) (k : Int) (w : List UInt8) (wt d n s : Int) (t : List UInt8) : aCall T0 F_impl_ReqOk [.agg (reqCs k w wt d n s t).toArray] M = some (.bool (reqOkB k s w t), M) := by
  have := fun M => c_impl_isReq M k w wt d n s t
  rw [aCall_eq T_impl_ReqOk]; unfold A_impl_ReqOk C_impl_ReqOk; simp [this]
theorem c_spec_ReqOk (M : Mem) (k : Int) (w : List UInt8) (wt d n s : Int) (t : List UInt8) : aCall T0 F_spec_ReqOk [.agg (reqCs k w wt d n s t).toArray] M = some (.bool (reqOkB k s w t), M) := by
  unfold reqOkB
  rw [aCall_eq T_spec_ReqOk]; unfold A_spec_ReqOk C_spec_ReqOk; simp [c_spec_l18Shape]
  repeat' ((first | rw [selO_some] | rw [condR_bool] | rw [selD_some]); split <;> rename_i hq <;> (have hq2 := hq) <;> (try simp at hq2) <;> (try simp [*, c_spec_l18Shape]))
theorem c_laws_FnExactReqOk (M : Mem) (x1 : Int) (x2 : List UInt8) (x3 x4 x5 x6 : Int) (x7 : List UInt8) (fw : x2.length ≤ 9223372036854775807) (ft : x7.length ≤ 9223372036854775807) : aCall T0 F_laws_FnExactReqOk [.agg (reqCs x1 x2 x3 x4 x5 x6 x7).toArray] M = some (.bool true, M) := by
  obtain ⟨l, e1⟩ : ∃ l, ∀ M, aCall T0 F_laws_szReq [.agg (reqCs x1 x2 x3 x4 x5 x6 x7).toArray, .int .i64 1048576] M = some (.int .i64 l, M) := ⟨_, fun M => c_laws_szReq M x1 x2 x3 x4 x5 x6 x7 fw ft⟩
  have e2 := fun M => c_laws_toReq M x1 x2 x3 x4 x5 x6 x7
  have e3 := fun M => c_impl_ReqOk M x1 x2 x3 x4 x5 x6 x7
  have e4 := fun M => c_spec_ReqOk M x1 x2 x3 x4 x5 x6 x7
  rw [aCall_eq T_laws_FnExactReqOk]; unfold A_laws_FnExactReqOk C_laws_FnExactReqOk; simp [e1, e2, e3, e4]
  ((first | rw [selO_some] | rw [condR_bool] | rw [selD_some]); split <;> rename_i hq <;> (have hq2 := hq) <;> (try simp at hq2) <;> (try simp [*, e1, e2, e3, e4]))
theorem law_laws_FnExactReqOk (M : Mem) (avs : List V) (_ : ∀ b ∈ M, b.st ≠ 2) (h : Ins [(true, (.pr (.int .i64) (.pr .str (.pr (.int .i64) (.pr (.int .i64) (.pr (.int .i64) (.pr (.int .i64) .str)))))))] M avs) : ∃ M', aCall T0 F_laws_FnExactReqOk avs M = some (.bool true, M') := by
  obtain ⟨v, vs, x, rfl, h1, f1, h⟩ := ins_cons h
  obtain rfl := ins_nil h
  obtain ⟨cs, rfl, r1⟩ := repv_agg h1
  obtain ⟨c1, c2, rfl, ⟨rfl, _⟩, c3, c4, rfl, rfl, c5, c6, rfl, ⟨rfl, _⟩, c7, c8, rfl, ⟨rfl, _⟩, c9, c10, rfl, ⟨rfl, _⟩, c11, c12, rfl, ⟨rfl, _⟩, rfl⟩ := r1
  obtain ⟨x1, x2, x3, x4, x5, x6, x7⟩ := x
  obtain ⟨_, fw, _, _, _, _, ft⟩ := f1
  exact ⟨M, c_laws_FnExactReqOk M x1 x2 x3 x4 x5 x6 x7 fw ft⟩
end GoAm
