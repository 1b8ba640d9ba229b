/- What the law does. -/
import Derived.Test.YtdljidfkiopiiaaConfOkt
import Derived.Test.YtdljidfkiopiiaaAmSim
set_option autoImplicit false
namespace GoAm
open Go
theorem c_impl_within (M : Mem) (x a b : Int) : aCall T0 F_impl_within [.int .i64 x, .int .i64 a, .int .i64 b] M = some (.bool (decide (a ≤ x) && decide (x ≤ b)), M) := by
  rw [aCall_eq T_impl_within]
  unfold A_impl_within C_impl_within
  simp
  repeat' ((first | rw [selO_some] | rw [condR_bool]); split <;> simp [*])
theorem c_impl_isDeepLog (M : Mem) (x : Int) : aCall T0 F_impl_isDeepLog [.int .i64 x] M = some (.bool (decide (2 ≤ x) && decide (x ≤ 6)), M) := by
  rw [aCall_eq T_impl_isDeepLog]
  unfold A_impl_isDeepLog C_impl_isDeepLog
  simp [c_impl_within]
theorem c_spec_l16Log (M : Mem) (x : Int) : aCall T0 F_spec_l16Log [.int .i64 x] M = some (.bool (decide (2 ≤ x) && decide (x ≤ 6)), M) := by
  rw [aCall_eq T_spec_l16Log]
  unfold A_spec_l16Log C_spec_l16Log
  simp
  repeat' ((first | rw [selO_some] | rw [condR_bool]); split <;> simp [*])
def confOk (k l b c : Int) : Bool := (decide (0 ≤ k) && decide (k ≤ 4294967295)) && (decide (2 ≤ l) && decide (l ≤ 6)) && (decide (0 ≤ b) && decide (b ≤ 64)) && (decide (1 ≤ c) && decide (c ≤ 64))
theorem c_impl_isConf (M : Mem) (k l b c : Int) : aCall T0 F_impl_isConf [.agg #[.int .i64 k, .int .i64 l, .int .i64 b, .int .i64 c]] M = some (.bool (confOk k l b c), M) := by
  rw [aCall_eq T_impl_isConf]
  unfold A_impl_isConf C_impl_isConf confOk
  simp [c_impl_within, c_impl_isDeepLog]
  repeat' ((first | rw [selO_some] | rw [condR_bool]); split <;> simp [*, c_impl_within, c_impl_isDeepLog])
theorem c_impl_ConfOk (M : Mem) (k l b c : Int) : aCall T0 F_impl_ConfOk [.agg #[.int .i64 k, .int .i64 l, .int .i64 b, .int .i64 c]] M = some (.bool (confOk k l b c), M) := by
  rw [aCall_eq T_impl_ConfOk]
  unfold A_impl_ConfOk C_impl_ConfOk
  simp [c_impl_isConf]
theorem c_spec_ConfOk (M : Mem) (k l b c : Int) : aCall T0 F_spec_ConfOk [.agg #[.int .i64 k, .int .i64 l, .int .i64 b, .int .i64 c]] M = some (.bool (confOk k l b c), M) := by
  rw [aCall_eq T_spec_ConfOk]
  unfold A_spec_ConfOk C_spec_ConfOk confOk
  simp [c_spec_l16Log]
  repeat' ((first | rw [selO_some] | rw [condR_bool]); split <;> simp [*, c_spec_l16Log])
theorem c_laws_toConf (M : Mem) (k l b c : Int) : aCall T0 F_laws_toConf [.agg #[.int .i64 k, .int .i64 l, .int .i64 b, .int .i64 c]] M = some (.agg #[.int .i64 k, .int .i64 l, .int .i64 b, .int .i64 c], M) := by
  rw [aCall_eq T_laws_toConf]
  unfold A_laws_toConf C_laws_toConf
  simp
theorem c_laws_FnExactConfOk (M : Mem) (k l b c : Int) : aCall T0 F_laws_FnExactConfOk [.agg #[.int .i64 k, .int .i64 l, .int .i64 b, .int .i64 c]] M = some (.bool true, M) := by
  rw [aCall_eq T_laws_FnExactConfOk]
  unfold A_laws_FnExactConfOk C_laws_FnExactConfOk
  simp [c_laws_toConf, c_impl_ConfOk, c_spec_ConfOk]
theorem law_laws_FnExactConfOk (M : Mem) (avs : List V) (_ : ∀ b ∈ M, b.st ≠ 2) (h : Ins [(true, (.pr (.int .i64) (.pr (.int .i64) (.pr (.int .i64) (.int .i64)))))] M avs) : ∃ M', aCall T0 F_laws_FnExactConfOk avs M = some (.bool true, M') := by
  obtain ⟨v, vs, x, rfl, h1, f1, h⟩ := ins_cons h
  obtain rfl := ins_nil h
  obtain ⟨cs, rfl, r1⟩ := repv_agg h1
  obtain ⟨c1, c2, rfl, ⟨rfl, _⟩, c3, c4, rfl, ⟨rfl, _⟩, c5, c6, rfl, ⟨rfl, _⟩, ⟨rfl, _⟩⟩ := r1
  exact ⟨M, c_laws_FnExactConfOk M _ _ _ _⟩
end GoAm
