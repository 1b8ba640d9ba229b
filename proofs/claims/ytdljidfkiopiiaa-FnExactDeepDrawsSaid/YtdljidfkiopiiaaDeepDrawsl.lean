/- What the functions do that the law reaches; and the law. -/
import Derived.Test.YtdljidfkiopiiaaDeepDrawst
import Derived.Test.YtdljidfkiopiiaaAmSim
set_option autoImplicit false
set_option linter.unusedVariables false
set_option linter.unusedSimpArgs false
namespace GoAm
open Go
theorem c_impl_within (M : Mem) (x a b : Int) : aCall T0 F_impl_within [.int .i64 x, .int .i64 a, .int .i64 b] M = some (.bool (decide (a ≤ x) && decide (x ≤ b)), M) := by
  rw [aCall_eq T_impl_within]; unfold A_impl_within C_impl_within; simp
  repeat' ((first | rw [selO_some] | rw [condR_bool] | rw [selD_some]); split <;> simp [*])
theorem c_impl_isDeepLog (M : Mem) (x : Int) : aCall T0 F_impl_isDeepLog [.int .i64 x] M = some (.bool (decide (2 ≤ x) && decide (x ≤ 6)), M) := by
  rw [aCall_eq T_impl_isDeepLog]; unfold A_impl_isDeepLog C_impl_isDeepLog; simp [c_impl_within]
theorem c_spec_l16Log (M : Mem) (x : Int) : aCall T0 F_spec_l16Log [.int .i64 x] M = some (.bool (decide (2 ≤ x) && decide (x ≤ 6)), M) := by
  rw [aCall_eq T_spec_l16Log]; unfold A_spec_l16Log C_spec_l16Log; simp
  repeat' ((first | rw [selO_some] | rw [condR_bool] | rw [selD_some]); split <;> simp [*])
theorem pow2_pos (n : Nat) : (0 : Int) < 2 ^ n := Int.pow_pos (by omega)
theorem pow2_le {n m : Nat} (h : n ≤ m) : (2 : Int) ^ n ≤ 2 ^ m := by
  have := Nat.pow_le_pow_right (show 0 < 2 by omega) h
  exact_mod_cast this
theorem l_spec_l02Pow (M : Mem) : ∀ (n : Nat) (x : Int), 0 ≤ x → x * 2 ^ n ≤ 4611686018427387904 → n ≤ 1000 →
    ∃ e0 e1 e2 e4 e5 e6 e7 e8 e9 e10, lp (aCall T0) K_spec_l02Pow_0 L_spec_l02Pow_0 [.int .i64 n, und, und, .int .i64 x, und, und, und, und, und, und, und] M = some (.exit 0, [e0, e1, e2, .int .i64 (x * 2 ^ n), e4, e5, e6, e7, e8, e9, e10], M)
  | 0, x, _, _, _ => by
    rw [S_spec_l02Pow_0]; unfold B_spec_l02Pow_0; simp
  | n + 1, x, h0, h1, h2 => by
    have hp : (1 : Int) ≤ 2 ^ n := by
      have : (0 : Int) < 2 ^ n := Int.pow_pos (by omega)
      omega
    have e : x * 2 ^ (n + 1) = 2 * x * 2 ^ n := by rw [Int.pow_succ, ← Int.mul_assoc, Int.mul_right_comm, Int.mul_comm x 2]
    rw [e] at h1
    have hx : 2 * x ≤ 2 * x * 2 ^ n := by
      have := Int.mul_le_mul_of_nonneg_left hp (show (0 : Int) ≤ 2 * x by omega)
      simpa using this
    have ih := l_spec_l02Pow M n (2 * x) (by omega) h1 (by omega)
    rw [e]
    rw [S_spec_l02Pow_0]; unfold B_spec_l02Pow_0; simp
    rw [wrap_i64 (z := 2 * x) (by omega) (by omega), wrap_i64 (z := n) (by omega) (by omega)]
    exact ih
theorem c_spec_l02Pow (M : Mem) (n : Nat) (h : n ≤ 60) : aCall T0 F_spec_l02Pow [.int .i64 n] M = some (.int .i64 (2 ^ n), M) := by
  obtain ⟨e0, e1, e2, e4, e5, e6, e7, e8, e9, e10, ih⟩ := l_spec_l02Pow M n 1 (by omega) (by
    have : (2 : Int) ^ n ≤ 2 ^ 60 := pow2_le h
    omega) (by omega)
  rw [aCall_eq T_spec_l02Pow]; unfold A_spec_l02Pow C_spec_l02Pow; simp [ih]
theorem c_spec_DeepDraws (M : Mem) (x : Int) (h : 2 ≤ x ∧ x ≤ 6) : aCall T0 F_spec_DeepDraws [.int .i64 x] M = some (.int .i64 (6 * 2 ^ (x - 2).toNat), M) := by
  obtain ⟨n, rfl⟩ : ∃ n : Nat, x = n + 2 := ⟨(x - 2).toNat, by omega⟩
  have hp : (2 : Int) ^ n ≤ 2 ^ 4 := pow2_le (by omega)
  have hq : (0 : Int) ≤ 2 ^ n := Int.le_of_lt (pow2_pos n)
  rw [aCall_eq T_spec_DeepDraws]; unfold A_spec_DeepDraws C_spec_DeepDraws; simp [c_spec_l16Log, h]
  (simp (disch := omega) only [wrap_i64, wrap_u64, wrap_u8, c_spec_l02Pow]; try simp)
  (simp (disch := omega) only [wrap_i64, wrap_u64, wrap_u8]; try simp)
theorem c_spec_DeepDraws_not (M : Mem) (x : Int) (h : ¬ (2 ≤ x ∧ x ≤ 6)) : aCall T0 F_spec_DeepDraws [.int .i64 x] M = some (.int .i64 (-1), M) := by
  have e : (decide (2 ≤ x) && decide (x ≤ 6)) = false := by simpa using h
  rw [aCall_eq T_spec_DeepDraws]; unfold A_spec_DeepDraws C_spec_DeepDraws; simp [c_spec_l16Log, e]
theorem c_impl_DeepDraws (M : Mem) (x : Int) (h : 2 ≤ x ∧ x ≤ 6) : aCall T0 F_impl_DeepDraws [.int .i64 x] M = some (.int .i64 (6 * 2 ^ (x - 2).toNat), M) := by
  obtain ⟨n, rfl⟩ : ∃ n : Nat, x = n + 2 := ⟨(x - 2).toNat, by omega⟩
  have hp : (2 : Int) ^ n ≤ 2 ^ 4 := pow2_le (by omega)
  have hq : (0 : Int) ≤ 2 ^ n := Int.le_of_lt (pow2_pos n)
  have hm : min n 64 = n := by omega
  have hn : ¬ (n : Int) < 0 := by omega
  rw [aCall_eq T_impl_DeepDraws]; unfold A_impl_DeepDraws C_impl_DeepDraws; simp [c_impl_isDeepLog, h]
  (simp (disch := omega) only [wrap_i64, wrap_u64, wrap_u8]; try simp [hm, hn, IntKind.bits])
  (simp (disch := omega) only [wrap_i64, wrap_u64, wrap_u8]; try simp)
theorem c_impl_DeepDraws_not (M : Mem) (x : Int) (h : ¬ (2 ≤ x ∧ x ≤ 6)) : aCall T0 F_impl_DeepDraws [.int .i64 x] M = some (.int .i64 (-1), M) := by
  have e : (decide (2 ≤ x) && decide (x ≤ 6)) = false := by simpa using h
  rw [aCall_eq T_impl_DeepDraws]; unfold A_impl_DeepDraws C_impl_DeepDraws; simp [c_impl_isDeepLog, e]
theorem law_laws_FnExactDeepDraws (M : Mem) (avs : List V) (_ : ∀ b ∈ M, b.st ≠ 2) (h : Ins [(false, (.int .i64))] M avs) : ∃ M', aCall T0 F_laws_FnExactDeepDraws avs M = some (.bool true, M') := by
  obtain ⟨v, vs, x, rfl, h1, f1, h⟩ := ins_cons h
  obtain rfl := ins_nil h
  obtain ⟨h1, _⟩ := repv_one h1
  cases h1
  refine ⟨M, ?_⟩
  by_cases hx : 2 ≤ (x : Int) ∧ (x : Int) ≤ 6
  · rw [aCall_eq T_laws_FnExactDeepDraws]; unfold A_laws_FnExactDeepDraws C_laws_FnExactDeepDraws; simp [c_spec_DeepDraws M x hx, c_impl_DeepDraws M x hx]
  · rw [aCall_eq T_laws_FnExactDeepDraws]; unfold A_laws_FnExactDeepDraws C_laws_FnExactDeepDraws; simp [c_spec_DeepDraws_not M x hx, c_impl_DeepDraws_not M x hx]
end GoAm
