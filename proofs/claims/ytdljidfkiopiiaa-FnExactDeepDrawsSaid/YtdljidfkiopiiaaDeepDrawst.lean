/- The table of the functions that the law reaches. -/
import Derived.Test.YtdljidfkiopiiaaDeepDrawsc
import Derived.Test.YtdljidfkiopiiaaAmSim
set_option autoImplicit false
set_option linter.unusedVariables false
set_option linter.unusedSimpArgs false
namespace GoAm
open Go
def TL : List (Nat × AFun) := [(F_spec_l16Log, A_spec_l16Log), (F_spec_l02Pow, A_spec_l02Pow), (F_spec_DeepDraws, A_spec_DeepDraws), (F_impl_within, A_impl_within), (F_impl_isDeepLog, A_impl_isDeepLog), (F_impl_DeepDraws, A_impl_DeepDraws), (F_laws_FnExactDeepDraws, A_laws_FnExactDeepDraws)]
def T0 : Tab := lookTab TL
theorem T_spec_l16Log : T0 F_spec_l16Log = some A_spec_l16Log := rfl
theorem T_spec_l02Pow : T0 F_spec_l02Pow = some A_spec_l02Pow := rfl
theorem T_spec_DeepDraws : T0 F_spec_DeepDraws = some A_spec_DeepDraws := rfl
theorem T_impl_within : T0 F_impl_within = some A_impl_within := rfl
theorem T_impl_isDeepLog : T0 F_impl_isDeepLog = some A_impl_isDeepLog := rfl
theorem T_impl_DeepDraws : T0 F_impl_DeepDraws = some A_impl_DeepDraws := rfl
theorem T_laws_FnExactDeepDraws : T0 F_laws_FnExactDeepDraws = some A_laws_FnExactDeepDraws := rfl
theorem S_spec_l02Pow_0 (fr : List V) (M : Mem) : lp (aCall T0) K_spec_l02Pow_0 L_spec_l02Pow_0 fr M = thenL (aCode (aCall T0) B_spec_l02Pow_0 (maskF K_spec_l02Pow_0 fr) M) (aCall T0) K_spec_l02Pow_0 L_spec_l02Pow_0 := lp_eq _ _ _ _ _
@[simp] theorem m_spec_l02Pow_0 (a0 a1 a2 a3 a4 a5 a6 a7 a8 a9 a10 : V) : maskF K_spec_l02Pow_0 [a0, a1, a2, a3, a4, a5, a6, a7, a8, a9, a10] = [a0, und, und, a3, und, und, und, und, und, und, und] := rfl
end GoAm
