/- The code that the law reaches, for the abstract machine: printed by a program. -/
import Derived.Test.YtdljidfkiopiiaaAmDef
set_option autoImplicit false
set_option linter.unusedVariables false
set_option linter.unusedSimpArgs false
namespace GoAm
open Go
def F_spec_l18Shape : Go.FuncId := 56
def F_spec_ReplySize : Go.FuncId := 19
def F_impl_within : Go.FuncId := 62
def F_impl_isShape : Go.FuncId := 57
def F_impl_replySize : Go.FuncId := 58
def F_impl_ReplySize : Go.FuncId := 20
def F_laws_FnExactReplySize : Go.FuncId := 5
def C_spec_l18Shape : ACode := .seq (.reg false [⟨(some 4), .mv (.c (.bool false)), none⟩]) (.seq (.seq (.reg false [⟨(some 5), .mv (.t 0), none⟩,
  ⟨(some 6), .bin .eql (.t 5) (.c (.int .i64 6)), none⟩]) (.cond (.t 6) (.seq (.reg false [⟨(some 7), .mv (.t 1), none⟩,
  ⟨(some 8), .bin .geq (.t 7) (.c (.int .i64 1)), none⟩,
  ⟨(some 9), .mv (.t 8), none⟩,
  ⟨(some 10), .mv (.t 1), (some (9, true))⟩,
  ⟨(some 11), .bin .leq (.t 10) (.c (.int .i64 16)), (some (9, true))⟩,
  ⟨(some 12), .pick (.t 9) (.t 11) (.c (.bool false)), none⟩,
  ⟨(some 4), .mv (.t 12), none⟩]) (.ret)) (.skip))) (.seq (.reg false [⟨(some 13), .mv (.t 0), none⟩,
  ⟨(some 14), .bin .geq (.t 13) (.c (.int .i64 1)), none⟩,
  ⟨(some 15), .mv (.t 14), none⟩,
  ⟨(some 16), .mv (.t 0), (some (15, true))⟩,
  ⟨(some 17), .bin .leq (.t 16) (.c (.int .i64 6)), (some (15, true))⟩,
  ⟨(some 18), .pick (.t 15) (.t 17) (.c (.bool false)), none⟩,
  ⟨(some 19), .mv (.t 18), none⟩,
  ⟨(some 20), .mv (.t 1), (some (19, true))⟩,
  ⟨(some 21), .bin .eql (.t 20) (.c (.int .i64 0)), (some (19, true))⟩,
  ⟨(some 22), .pick (.t 19) (.t 21) (.c (.bool false)), none⟩,
  ⟨(some 4), .mv (.t 22), none⟩]) (.ret)))
def A_spec_l18Shape : AFun := ⟨C_spec_l18Shape, 23, [.tmp 4]⟩
def C_spec_ReplySize : ACode := .seq (.reg false [⟨(some 4), .mv (.c (.int .i64 0)), none⟩]) (.seq (.seq (.reg false [⟨(some 5), .mv (.t 0), none⟩,
  ⟨(some 6), .mv (.t 1), none⟩,
  ⟨(some 7), .call F_spec_l18Shape [(.t 5), (.t 6)], none⟩,
  ⟨(some 8), .not (.t 7), none⟩]) (.cond (.t 8) (.seq (.reg false [⟨(some 4), .mv (.c (.int .i64 (-1))), none⟩]) (.ret)) (.skip))) (.seq (.seq (.reg false [⟨(some 9), .mv (.t 0), none⟩]) (.block 0 (.seq (.reg false [⟨(some 11), .bin .eql (.t 9) (.c (.int .i64 1)), none⟩,
  ⟨(some 10), .mv (.t 11), none⟩]) (.cond (.t 10) (.seq (.reg false [⟨(some 4), .mv (.c (.int .i64 4)), none⟩]) (.ret)) (.seq (.reg false [⟨(some 13), .bin .eql (.t 9) (.c (.int .i64 2)), none⟩,
  ⟨(some 12), .mv (.t 13), none⟩]) (.cond (.t 12) (.seq (.reg false [⟨(some 4), .mv (.c (.int .i64 297)), none⟩]) (.ret)) (.skip))))))) (.seq (.reg false [⟨(some 14), .mv (.t 1), none⟩,
  ⟨(some 15), .bin .add (.c (.int .i64 1)) (.t 14), none⟩,
  ⟨(some 4), .mv (.t 15), none⟩]) (.ret))))
def A_spec_ReplySize : AFun := ⟨C_spec_ReplySize, 16, [.tmp 4]⟩
def C_impl_within : ACode := .seq (.reg false [⟨(some 6), .mv (.c (.bool false)), none⟩]) (.seq (.reg false [⟨(some 7), .mv (.t 0), none⟩,
  ⟨(some 8), .mv (.t 1), none⟩,
  ⟨(some 9), .bin .geq (.t 7) (.t 8), none⟩,
  ⟨(some 10), .mv (.t 9), none⟩,
  ⟨(some 11), .mv (.t 0), (some (10, true))⟩,
  ⟨(some 12), .mv (.t 2), (some (10, true))⟩,
  ⟨(some 13), .bin .leq (.t 11) (.t 12), (some (10, true))⟩,
  ⟨(some 14), .pick (.t 10) (.t 13) (.c (.bool false)), none⟩,
  ⟨(some 6), .mv (.t 14), none⟩]) (.ret))
def A_impl_within : AFun := ⟨C_impl_within, 15, [.tmp 6]⟩
def C_impl_isShape : ACode := .seq (.reg false [⟨(some 4), .mv (.c (.bool false)), none⟩]) (.seq (.seq (.reg false [⟨(some 5), .mv (.t 0), none⟩,
  ⟨(some 6), .bin .eql (.t 5) (.c (.int .i64 6)), none⟩]) (.cond (.t 6) (.seq (.reg false [⟨(some 7), .mv (.t 1), none⟩,
  ⟨(some 8), .call F_impl_within [(.t 7), (.c (.int .i64 1)), (.c (.int .i64 16))], none⟩,
  ⟨(some 4), .mv (.t 8), none⟩]) (.ret)) (.skip))) (.seq (.reg false [⟨(some 9), .mv (.t 0), none⟩,
  ⟨(some 10), .call F_impl_within [(.t 9), (.c (.int .i64 1)), (.c (.int .i64 5))], none⟩,
  ⟨(some 11), .mv (.t 10), none⟩,
  ⟨(some 12), .mv (.t 1), (some (11, true))⟩,
  ⟨(some 13), .bin .eql (.t 12) (.c (.int .i64 0)), (some (11, true))⟩,
  ⟨(some 14), .pick (.t 11) (.t 13) (.c (.bool false)), none⟩,
  ⟨(some 4), .mv (.t 14), none⟩]) (.ret)))
def A_impl_isShape : AFun := ⟨C_impl_isShape, 15, [.tmp 4]⟩
def C_impl_replySize : ACode := .seq (.reg false [⟨(some 4), .mv (.c (.int .i64 0)), none⟩]) (.seq (.seq (.reg false [⟨(some 5), .mv (.t 0), none⟩]) (.block 0 (.seq (.reg false [⟨(some 7), .bin .eql (.t 5) (.c (.int .i64 1)), none⟩,
  ⟨(some 6), .mv (.t 7), none⟩]) (.cond (.t 6) (.seq (.reg false [⟨(some 4), .mv (.c (.int .i64 4)), none⟩]) (.ret)) (.seq (.reg false [⟨(some 9), .bin .eql (.t 5) (.c (.int .i64 2)), none⟩,
  ⟨(some 8), .mv (.t 9), none⟩]) (.cond (.t 8) (.seq (.reg false [⟨(some 4), .mv (.c (.int .i64 297)), none⟩]) (.ret)) (.skip))))))) (.seq (.reg false [⟨(some 10), .mv (.t 1), none⟩,
  ⟨(some 11), .bin .add (.c (.int .i64 1)) (.t 10), none⟩,
  ⟨(some 4), .mv (.t 11), none⟩]) (.ret)))
def A_impl_replySize : AFun := ⟨C_impl_replySize, 12, [.tmp 4]⟩
def C_impl_ReplySize : ACode := .seq (.reg false [⟨(some 4), .mv (.c (.int .i64 0)), none⟩]) (.seq (.seq (.reg false [⟨(some 5), .mv (.t 0), none⟩,
  ⟨(some 6), .mv (.t 1), none⟩,
  ⟨(some 7), .call F_impl_isShape [(.t 5), (.t 6)], none⟩,
  ⟨(some 8), .not (.t 7), none⟩]) (.cond (.t 8) (.seq (.reg false [⟨(some 4), .mv (.c (.int .i64 (-1))), none⟩]) (.ret)) (.skip))) (.seq (.reg false [⟨(some 9), .mv (.t 0), none⟩,
  ⟨(some 10), .mv (.t 1), none⟩,
  ⟨(some 11), .call F_impl_replySize [(.t 9), (.t 10)], none⟩,
  ⟨(some 4), .mv (.t 11), none⟩]) (.ret)))
def A_impl_ReplySize : AFun := ⟨C_impl_ReplySize, 12, [.tmp 4]⟩
def C_laws_FnExactReplySize : ACode := .seq (.reg false [⟨(some 4), .mv (.c (.bool false)), none⟩]) (.seq (.reg false [⟨(some 7), .mv (.t 0), none⟩,
  ⟨(some 8), .mv (.t 1), none⟩,
  ⟨(some 9), .call F_spec_ReplySize [(.t 7), (.t 8)], none⟩,
  ⟨(some 5), .mv (.t 9), none⟩]) (.seq (.reg false [⟨(some 10), .mv (.t 0), none⟩,
  ⟨(some 11), .mv (.t 1), none⟩,
  ⟨(some 12), .call F_impl_ReplySize [(.t 10), (.t 11)], none⟩,
  ⟨(some 6), .mv (.t 12), none⟩]) (.seq (.seq (.reg false [⟨(some 13), .mv (.t 6), none⟩,
  ⟨(some 14), .mv (.t 5), none⟩,
  ⟨(some 15), .bin .neq (.t 13) (.t 14), none⟩]) (.cond (.t 15) (.seq (.reg false [⟨(some 4), .mv (.c (.bool false)), none⟩]) (.ret)) (.skip))) (.seq (.reg false [⟨(some 4), .mv (.c (.bool true)), none⟩]) (.ret)))))
def A_laws_FnExactReplySize : AFun := ⟨C_laws_FnExactReplySize, 16, [.tmp 4]⟩
end GoAm
