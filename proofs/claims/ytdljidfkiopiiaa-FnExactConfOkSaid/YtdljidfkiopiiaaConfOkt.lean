/- The table of the functions that the law reaches. -/
import Derived.Test.YtdljidfkiopiiaaConfOkc
import Derived.Test.YtdljidfkiopiiaaAmTab
set_option autoImplicit false
set_option linter.unusedVariables false
set_option linter.unusedSimpArgs false
namespace GoAm
open Go
def TL : List (Nat × AFun) := [(F_spec_l16Log, A_spec_l16Log), (F_spec_ConfOk, A_spec_ConfOk), (F_laws_toConf, A_laws_toConf), (F_impl_within, A_impl_within), (F_impl_isDeepLog, A_impl_isDeepLog), (F_impl_isConf, A_impl_isConf), (F_impl_ConfOk, A_impl_ConfOk), (F_laws_FnExactConfOk, A_laws_FnExactConfOk)]
def T0 : Tab := lookTab TL
theorem T_spec_l16Log : T0 F_spec_l16Log = some A_spec_l16Log := rfl
theorem T_spec_ConfOk : T0 F_spec_ConfOk = some A_spec_ConfOk := rfl
theorem T_laws_toConf : T0 F_laws_toConf = some A_laws_toConf := rfl
theorem T_impl_within : T0 F_impl_within = some A_impl_within := rfl
theorem T_impl_isDeepLog : T0 F_impl_isDeepLog = some A_impl_isDeepLog := rfl
theorem T_impl_isConf : T0 F_impl_isConf = some A_impl_isConf := rfl
theorem T_impl_ConfOk : T0 F_impl_ConfOk = some A_impl_ConfOk := rfl
theorem T_laws_FnExactConfOk : T0 F_laws_FnExactConfOk = some A_laws_FnExactConfOk := rfl
end GoAm
