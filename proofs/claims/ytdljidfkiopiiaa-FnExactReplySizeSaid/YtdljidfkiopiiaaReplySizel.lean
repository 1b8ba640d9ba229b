/- What the functions do that the law reaches; and the law. -/
import Derived.Test.YtdljidfkiopiiaaReplySizet
import Derived.Test.YtdljidfkiopiiaaAmArith
set_option autoImplicit false
set_option linter.unusedVariables false
set_option linter.unusedSimpArgs false
namespace GoAm
open Go
theorem c_impl_within (M : Mem) (x a b : Int) : aCall T0 F_impl_within [.int .i64 x, .int .i64 a, .int .i64 b] M = some (.bool (decide (a ≤ x) && decide (x ≤ b)), M) := by
  rw [aCall_eq T_impl_within]; unfold A_impl_within C_impl_within; simp
  repeat' ((first | rw [selO_some] | rw [condR_bool] | rw [selD_some]); split <;> rename_i hq <;> (have hq2 := hq) <;> (try simp at hq2) <;> (try simp [*]))
def shapeB (k s : Int) : Bool := if k = 6 then decide (1 ≤ s) && decide (s ≤ 16) else decide (1 ≤ k) && decide (k ≤ 5) && decide (s = 0)
theorem c_impl_isShape (M : Mem) (k s : Int) : aCall T0 F_impl_isShape [.int .i64 k, .int .i64 s] M = some (.bool (shapeB k s), M) := by
  unfold shapeB
  rw [aCall_eq T_impl_isShape]; unfold A_impl_isShape C_impl_isShape; simp [c_impl_within]
  repeat' ((first | rw [selO_some] | rw [condR_bool] | rw [selD_some]); split <;> rename_i hq <;> (have hq2 := hq) <;> (try simp at hq2) <;> (try simp [*, c_impl_within]))
def shapeB2 (k s : Int) : Bool := if k = 6 then decide (1 ≤ s) && decide (s ≤ 16) else decide (1 ≤ k) && decide (k ≤ 6) && decide (s = 0)
theorem shapeB2_eq (k s : Int) : shapeB2 k s = shapeB k s := by
  unfold shapeB2 shapeB
  split
  · rfl
  · rw [show decide (k ≤ 6) = decide (k ≤ 5) from decide_eq_decide.2 (by omega)]
theorem c_spec_l18Shape (M : Mem) (k s : Int) : aCall T0 F_spec_l18Shape [.int .i64 k, .int .i64 s] M = some (.bool (shapeB k s), M) := by
  rw [← shapeB2_eq]
  unfold shapeB2
  rw [aCall_eq T_spec_l18Shape]; unfold A_spec_l18Shape C_spec_l18Shape; simp
  repeat' ((first | rw [selO_some] | rw [condR_bool] | rw [selD_some]); split <;> rename_i hq <;> (have hq2 := hq) <;> (try simp at hq2) <;> (try simp [*]))
def replySz (k s : Int) : Int := if shapeB k s = true then (if k = 1 then 4 else if k = 2 then 297 else 1 + s) else -1
theorem c_spec_ReplySize (M : Mem) (k s : Int) : aCall T0 F_spec_ReplySize [.int .i64 k, .int .i64 s] M = some (.int .i64 (replySz k s), M) := by
  unfold replySz
  rw [aCall_eq T_spec_ReplySize]; unfold A_spec_ReplySize C_spec_ReplySize; simp [c_spec_l18Shape]
  cases hb : shapeB k s with
  | false => simp
  | true =>
    have hs : 0 ≤ s ∧ s ≤ 16 := by
      unfold shapeB at hb
      split at hb
      · simp at hb; omega
      · simp at hb; omega
    simp
    repeat' ((first | rw [selO_some] | rw [condR_bool] | rw [selD_some]); split <;> rename_i hq <;> (have hq2 := hq) <;> (try simp at hq2) <;> (try simp [*]))
    rw [wrap_i64 (by omega) (by omega)]
theorem c_impl_replySize (M : Mem) (k s : Int) (hs : 0 ≤ s ∧ s ≤ 16) : aCall T0 F_impl_replySize [.int .i64 k, .int .i64 s] M = some (.int .i64 (if k = 1 then 4 else if k = 2 then 297 else 1 + s), M) := by
  rw [aCall_eq T_impl_replySize]; unfold A_impl_replySize C_impl_replySize; simp
  repeat' ((first | rw [selO_some] | rw [condR_bool] | rw [selD_some]); split <;> rename_i hq <;> (have hq2 := hq) <;> (try simp at hq2) <;> (try simp [*]))
  rw [wrap_i64 (by omega) (by omega)]
theorem c_impl_ReplySize (M : Mem) (k s : Int) : aCall T0 F_impl_ReplySize [.int .i64 k, .int .i64 s] M = some (.int .i64 (replySz k s), M) := by
  unfold replySz
  rw [aCall_eq T_impl_ReplySize]; unfold A_impl_ReplySize C_impl_ReplySize; simp [c_impl_isShape]
  cases hb : shapeB k s with
  | false => simp
  | true =>
    have hs : 0 ≤ s ∧ s ≤ 16 := by
      unfold shapeB at hb
      split at hb
      · simp at hb; omega
      · simp at hb; omega
    simp [c_impl_replySize M k s hs]
theorem law_laws_FnExactReplySize (M : Mem) (avs : List V) (_ : ∀ b ∈ M, b.st ≠ 2) (h : Ins [(false, (.int .i64)), (false, (.int .i64))] M avs) : ∃ M', aCall T0 F_laws_FnExactReplySize avs M = some (.bool true, M') := by
  obtain ⟨v, vs, x, rfl, h1, f1, h⟩ := ins_cons h
  obtain ⟨v2, vs2, x2, rfl, h2, f2, h⟩ := ins_cons h
  obtain rfl := ins_nil h
  obtain ⟨h1, _⟩ := repv_one h1
  obtain ⟨h2, _⟩ := repv_one h2
  cases h1
  cases h2
  refine ⟨M, ?_⟩
  rw [aCall_eq T_laws_FnExactReplySize]; unfold A_laws_FnExactReplySize C_laws_FnExactReplySize; simp [c_spec_ReplySize, c_impl_ReplySize]
def hs (h : Nat) (b : UInt8) : Nat := ((h ^^^ b.toNat) * 16777619) % 4294967296
end GoAm
