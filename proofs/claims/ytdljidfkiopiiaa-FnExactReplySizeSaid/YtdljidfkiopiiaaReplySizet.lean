/- The table of the functions that the law reaches. -/
import Derived.Test.YtdljidfkiopiiaaReplySizec
import Derived.Test.YtdljidfkiopiiaaAmArith
set_option autoImplicit false
set_option linter.unusedVariables false
set_option linter.unusedSimpArgs false
namespace GoAm
open Go
def TL : List (Nat × AFun) := [(F_spec_l18Shape, A_spec_l18Shape), (F_spec_ReplySize, A_spec_ReplySize), (F_impl_within, A_impl_within), (F_impl_isShape, A_impl_isShape), (F_impl_replySize, A_impl_replySize), (F_impl_ReplySize, A_impl_ReplySize), (F_laws_FnExactReplySize, A_laws_FnExactReplySize)]
def T0 : Tab := lookTab TL
theorem T_spec_l18Shape : T0 F_spec_l18Shape = some A_spec_l18Shape := rfl
theorem T_spec_ReplySize : T0 F_spec_ReplySize = some A_spec_ReplySize := rfl
theorem T_impl_within : T0 F_impl_within = some A_impl_within := rfl
theorem T_impl_isShape : T0 F_impl_isShape = some A_impl_isShape := rfl
theorem T_impl_replySize : T0 F_impl_replySize = some A_impl_replySize := rfl
theorem T_impl_ReplySize : T0 F_impl_ReplySize = some A_impl_ReplySize := rfl
theorem T_laws_FnExactReplySize : T0 F_laws_FnExactReplySize = some A_laws_FnExactReplySize := rfl
end GoAm
