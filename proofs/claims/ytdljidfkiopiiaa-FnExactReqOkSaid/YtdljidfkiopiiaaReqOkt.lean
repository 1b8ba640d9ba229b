/- The table of the functions that the law reaches. -/
import Derived.Test.YtdljidfkiopiiaaReqOkc
import Derived.Test.YtdljidfkiopiiaaAmSim
set_option autoImplicit false
set_option linter.unusedVariables false
set_option linter.unusedSimpArgs false
namespace GoAm
open Go
def TL : List (Nat × AFun) := [(F_laws_szReq, A_laws_szReq), (F_spec_l18Shape, A_spec_l18Shape), (F_spec_ReqOk, A_spec_ReqOk), (F_laws_toReq, A_laws_toReq), (F_impl_within, A_impl_within), (F_impl_isShape, A_impl_isShape), (F_impl_isReq, A_impl_isReq), (F_impl_ReqOk, A_impl_ReqOk), (F_laws_FnExactReqOk, A_laws_FnExactReqOk)]
def T0 : Tab := lookTab TL
theorem T_laws_szReq : T0 F_laws_szReq = some A_laws_szReq := rfl
theorem T_spec_l18Shape : T0 F_spec_l18Shape = some A_spec_l18Shape := rfl
theorem T_spec_ReqOk : T0 F_spec_ReqOk = some A_spec_ReqOk := rfl
theorem T_laws_toReq : T0 F_laws_toReq = some A_laws_toReq := rfl
theorem T_impl_within : T0 F_impl_within = some A_impl_within := rfl
theorem T_impl_isShape : T0 F_impl_isShape = some A_impl_isShape := rfl
theorem T_impl_isReq : T0 F_impl_isReq = some A_impl_isReq := rfl
theorem T_impl_ReqOk : T0 F_impl_ReqOk = some A_impl_ReqOk := rfl
theorem T_laws_FnExactReqOk : T0 F_laws_FnExactReqOk = some A_laws_FnExactReqOk := rfl
end GoAm
