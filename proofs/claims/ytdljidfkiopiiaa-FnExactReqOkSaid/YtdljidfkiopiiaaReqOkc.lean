/- The code that the law reaches, for the abstract machine: printed by a program. -/
import Derived.Test.YtdljidfkiopiiaaAmDef
set_option autoImplicit false
set_option linter.unusedVariables false
set_option linter.unusedSimpArgs false
namespace GoAm
open Go
def F_laws_szReq : Go.FuncId := 21
def F_spec_l18Shape : Go.FuncId := 56
def F_spec_ReqOk : Go.FuncId := 22
def F_laws_toReq : Go.FuncId := 23
def F_impl_within : Go.FuncId := 62
def F_impl_isShape : Go.FuncId := 57
def F_impl_isReq : Go.FuncId := 59
def F_impl_ReqOk : Go.FuncId := 24
def F_laws_FnExactReqOk : Go.FuncId := 6
def C_laws_szReq : ACode := .seq (.reg false [⟨(some 2), .box (.t 0), none⟩,
  ⟨(some 4), .mv (.c (.int .i64 0)), none⟩]) (.seq (.reg false [⟨(some 5), .mv (.t 1), none⟩,
  ⟨(some 6), .fa 1 (.t 2), none⟩,
  ⟨(some 7), .load1 (.t 6), none⟩,
  ⟨(some 8), .slen (.t 7), none⟩,
  ⟨(some 9), .bin .sub (.t 5) (.t 8), none⟩,
  ⟨(some 1), .mv (.t 9), none⟩]) (.seq (.seq (.reg false [⟨(some 10), .mv (.t 1), none⟩,
  ⟨(some 11), .bin .lss (.t 10) (.c (.int .i64 0)), none⟩]) (.cond (.t 11) (.seq (.reg false [⟨(some 4), .mv (.c (.int .i64 (-1))), none⟩]) (.ret)) (.skip))) (.seq (.reg false [⟨(some 12), .mv (.t 1), none⟩,
  ⟨(some 13), .fa 6 (.t 2), none⟩,
  ⟨(some 14), .load1 (.t 13), none⟩,
  ⟨(some 15), .slen (.t 14), none⟩,
  ⟨(some 16), .bin .sub (.t 12) (.t 15), none⟩,
  ⟨(some 1), .mv (.t 16), none⟩]) (.seq (.seq (.reg false [⟨(some 17), .mv (.t 1), none⟩,
  ⟨(some 18), .bin .lss (.t 17) (.c (.int .i64 0)), none⟩]) (.cond (.t 18) (.seq (.reg false [⟨(some 4), .mv (.c (.int .i64 (-1))), none⟩]) (.ret)) (.skip))) (.seq (.reg false [⟨(some 19), .mv (.t 1), none⟩,
  ⟨(some 4), .mv (.t 19), none⟩]) (.ret))))))
def A_laws_szReq : AFun := ⟨C_laws_szReq, 20, [.tmp 4]⟩
def C_spec_l18Shape : ACode := .seq (.reg false [⟨(some 4), .mv (.c (.bool false)), none⟩]) (.seq (.seq (.reg false [⟨(some 5), .mv (.t 0), none⟩,
  ⟨(some 6), .bin .eql (.t 5) (.c (.int .i64 6)), none⟩]) (.cond (.t 6) (.seq (.reg false [⟨(some 7), .mv (.t 1), none⟩,
  ⟨(some 8), .bin .geq (.t 7) (.c (.int .i64 1)), none⟩,
  ⟨(some 9), .mv (.t 8), none⟩,
  ⟨(some 10), .mv (.t 1), (some (9, true))⟩,
  ⟨(some 11), .bin .leq (.t 10) (.c (.int .i64 16)), (some (9, true))⟩,
  ⟨(some 12), .pick (.t 9) (.t 11) (.c (.bool false)), none⟩,
  ⟨(some 4), .mv (.t 12), none⟩]) (.ret)) (.skip))) (.seq (.reg false [⟨(some 13), .mv (.t 0), none⟩,
  ⟨(some 14), .bin .geq (.t 13) (.c (.int .i64 1)), none⟩,
  ⟨(some 15), .mv (.t 14), none⟩,
  ⟨(some 16), .mv (.t 0), (some (15, true))⟩,
  ⟨(some 17), .bin .leq (.t 16) (.c (.int .i64 6)), (some (15, true))⟩,
  ⟨(some 18), .pick (.t 15) (.t 17) (.c (.bool false)), none⟩,
  ⟨(some 19), .mv (.t 18), none⟩,
  ⟨(some 20), .mv (.t 1), (some (19, true))⟩,
  ⟨(some 21), .bin .eql (.t 20) (.c (.int .i64 0)), (some (19, true))⟩,
  ⟨(some 22), .pick (.t 19) (.t 21) (.c (.bool false)), none⟩,
  ⟨(some 4), .mv (.t 22), none⟩]) (.ret)))
def A_spec_l18Shape : AFun := ⟨C_spec_l18Shape, 23, [.tmp 4]⟩
def C_spec_ReqOk : ACode := .seq (.reg false [⟨(some 1), .box (.t 0), none⟩,
  ⟨(some 2), .mv (.c (.bool false)), none⟩]) (.seq (.reg false [⟨(some 3), .fa 0 (.t 1), none⟩,
  ⟨(some 4), .load1 (.t 3), none⟩,
  ⟨(some 5), .fa 5 (.t 1), none⟩,
  ⟨(some 6), .load1 (.t 5), none⟩,
  ⟨(some 7), .call F_spec_l18Shape [(.t 4), (.t 6)], none⟩,
  ⟨(some 8), .mv (.t 7), none⟩,
  ⟨(some 9), .fa 1 (.t 1), (some (8, true))⟩,
  ⟨(some 10), .load1 (.t 9), (some (8, true))⟩,
  ⟨(some 11), .slen (.t 10), (some (8, true))⟩,
  ⟨(some 12), .bin .leq (.t 11) (.c (.int .i64 100)), (some (8, true))⟩,
  ⟨(some 13), .pick (.t 8) (.t 12) (.c (.bool false)), none⟩,
  ⟨(some 14), .mv (.t 13), none⟩,
  ⟨(some 15), .fa 6 (.t 1), (some (14, true))⟩,
  ⟨(some 16), .load1 (.t 15), (some (14, true))⟩,
  ⟨(some 17), .slen (.t 16), (some (14, true))⟩,
  ⟨(some 18), .bin .leq (.t 17) (.c (.int .i64 2000)), (some (14, true))⟩,
  ⟨(some 19), .pick (.t 14) (.t 18) (.c (.bool false)), none⟩,
  ⟨(some 2), .mv (.t 19), none⟩]) (.ret))
def A_spec_ReqOk : AFun := ⟨C_spec_ReqOk, 20, [.tmp 2]⟩
def C_laws_toReq : ACode := .seq (.reg false [⟨(some 1), .box (.t 0), none⟩,
  ⟨(some 2), .new [(.int .i64 0), (.string ⟨#[]⟩), (.int .i64 0), (.int .i64 0), (.int .i64 0), (.int .i64 0), (.string ⟨#[]⟩)], none⟩]) (.seq (.reg false [⟨(some 3), .new [(.int .i64 0), (.string ⟨#[]⟩), (.int .i64 0), (.int .i64 0), (.int .i64 0), (.int .i64 0), (.string ⟨#[]⟩)], none⟩]) (.seq (.reg false [⟨(some 4), .fa 0 (.t 1), none⟩,
  ⟨(some 5), .load1 (.t 4), none⟩,
  ⟨(some 6), .fa 0 (.t 3), none⟩,
  ⟨none, .store 1 (.t 6) (.t 5), none⟩]) (.seq (.reg false [⟨(some 7), .fa 1 (.t 1), none⟩,
  ⟨(some 8), .load1 (.t 7), none⟩,
  ⟨(some 9), .fa 1 (.t 3), none⟩,
  ⟨none, .store 1 (.t 9) (.t 8), none⟩]) (.seq (.reg false [⟨(some 10), .fa 2 (.t 1), none⟩,
  ⟨(some 11), .load1 (.t 10), none⟩,
  ⟨(some 12), .fa 2 (.t 3), none⟩,
  ⟨none, .store 1 (.t 12) (.t 11), none⟩]) (.seq (.reg false [⟨(some 13), .fa 3 (.t 1), none⟩,
  ⟨(some 14), .load1 (.t 13), none⟩,
  ⟨(some 15), .fa 3 (.t 3), none⟩,
  ⟨none, .store 1 (.t 15) (.t 14), none⟩]) (.seq (.reg false [⟨(some 16), .fa 4 (.t 1), none⟩,
  ⟨(some 17), .load1 (.t 16), none⟩,
  ⟨(some 18), .fa 4 (.t 3), none⟩,
  ⟨none, .store 1 (.t 18) (.t 17), none⟩]) (.seq (.reg false [⟨(some 19), .fa 5 (.t 1), none⟩,
  ⟨(some 20), .load1 (.t 19), none⟩,
  ⟨(some 21), .fa 5 (.t 3), none⟩,
  ⟨none, .store 1 (.t 21) (.t 20), none⟩]) (.seq (.reg false [⟨(some 22), .fa 6 (.t 1), none⟩,
  ⟨(some 23), .load1 (.t 22), none⟩,
  ⟨(some 24), .fa 6 (.t 3), none⟩,
  ⟨none, .store 1 (.t 24) (.t 23), none⟩]) (.seq (.reg false [⟨(some 25), .loadn 7 (.t 3), none⟩,
  ⟨none, .store 7 (.t 2) (.t 25), none⟩]) (.ret))))))))))
def A_laws_toReq : AFun := ⟨C_laws_toReq, 26, [.celln 2 7]⟩
def C_impl_within : ACode := .seq (.reg false [⟨(some 6), .mv (.c (.bool false)), none⟩]) (.seq (.reg false [⟨(some 7), .mv (.t 0), none⟩,
  ⟨(some 8), .mv (.t 1), none⟩,
  ⟨(some 9), .bin .geq (.t 7) (.t 8), none⟩,
  ⟨(some 10), .mv (.t 9), none⟩,
  ⟨(some 11), .mv (.t 0), (some (10, true))⟩,
  ⟨(some 12), .mv (.t 2), (some (10, true))⟩,
  ⟨(some 13), .bin .leq (.t 11) (.t 12), (some (10, true))⟩,
  ⟨(some 14), .pick (.t 10) (.t 13) (.c (.bool false)), none⟩,
  ⟨(some 6), .mv (.t 14), none⟩]) (.ret))
def A_impl_within : AFun := ⟨C_impl_within, 15, [.tmp 6]⟩
def C_impl_isShape : ACode := .seq (.reg false [⟨(some 4), .mv (.c (.bool false)), none⟩]) (.seq (.seq (.reg false [⟨(some 5), .mv (.t 0), none⟩,
  ⟨(some 6), .bin .eql (.t 5) (.c (.int .i64 6)), none⟩]) (.cond (.t 6) (.seq (.reg false [⟨(some 7), .mv (.t 1), none⟩,
  ⟨(some 8), .call F_impl_within [(.t 7), (.c (.int .i64 1)), (.c (.int .i64 16))], none⟩,
  ⟨(some 4), .mv (.t 8), none⟩]) (.ret)) (.skip))) (.seq (.reg false [⟨(some 9), .mv (.t 0), none⟩,
  ⟨(some 10), .call F_impl_within [(.t 9), (.c (.int .i64 1)), (.c (.int .i64 5))], none⟩,
  ⟨(some 11), .mv (.t 10), none⟩,
  ⟨(some 12), .mv (.t 1), (some (11, true))⟩,
  ⟨(some 13), .bin .eql (.t 12) (.c (.int .i64 0)), (some (11, true))⟩,
  ⟨(some 14), .pick (.t 11) (.t 13) (.c (.bool false)), none⟩,
  ⟨(some 4), .mv (.t 14), none⟩]) (.ret)))
def A_impl_isShape : AFun := ⟨C_impl_isShape, 15, [.tmp 4]⟩
def C_impl_isReq : ACode := .seq (.reg false [⟨(some 1), .box (.t 0), none⟩,
  ⟨(some 2), .mv (.c (.bool false)), none⟩]) (.seq (.reg false [⟨(some 3), .fa 0 (.t 1), none⟩,
  ⟨(some 4), .load1 (.t 3), none⟩,
  ⟨(some 5), .fa 5 (.t 1), none⟩,
  ⟨(some 6), .load1 (.t 5), none⟩,
  ⟨(some 7), .call F_impl_isShape [(.t 4), (.t 6)], none⟩,
  ⟨(some 8), .mv (.t 7), none⟩,
  ⟨(some 9), .fa 1 (.t 1), (some (8, true))⟩,
  ⟨(some 10), .load1 (.t 9), (some (8, true))⟩,
  ⟨(some 11), .slen (.t 10), (some (8, true))⟩,
  ⟨(some 12), .bin .leq (.t 11) (.c (.int .i64 100)), (some (8, true))⟩,
  ⟨(some 13), .pick (.t 8) (.t 12) (.c (.bool false)), none⟩,
  ⟨(some 14), .mv (.t 13), none⟩,
  ⟨(some 15), .fa 6 (.t 1), (some (14, true))⟩,
  ⟨(some 16), .load1 (.t 15), (some (14, true))⟩,
  ⟨(some 17), .slen (.t 16), (some (14, true))⟩,
  ⟨(some 18), .bin .leq (.t 17) (.c (.int .i64 2000)), (some (14, true))⟩,
  ⟨(some 19), .pick (.t 14) (.t 18) (.c (.bool false)), none⟩,
  ⟨(some 2), .mv (.t 19), none⟩]) (.ret))
def A_impl_isReq : AFun := ⟨C_impl_isReq, 20, [.tmp 2]⟩
def C_impl_ReqOk : ACode := .seq (.reg false [⟨(some 1), .box (.t 0), none⟩,
  ⟨(some 2), .mv (.c (.bool false)), none⟩]) (.seq (.reg false [⟨(some 3), .loadn 7 (.t 1), none⟩,
  ⟨(some 4), .call F_impl_isReq [(.t 3)], none⟩,
  ⟨(some 2), .mv (.t 4), none⟩]) (.ret))
def A_impl_ReqOk : AFun := ⟨C_impl_ReqOk, 5, [.tmp 2]⟩
def C_laws_FnExactReqOk : ACode := .seq (.reg false [⟨(some 1), .box (.t 0), none⟩,
  ⟨(some 2), .mv (.c (.bool false)), none⟩]) (.seq (.reg false [⟨(some 3), .mv (.c (.int .i64 1048576)), none⟩]) (.seq (.reg false [⟨(some 6), .loadn 7 (.t 1), none⟩,
  ⟨(some 7), .mv (.t 3), none⟩,
  ⟨(some 8), .call F_laws_szReq [(.t 6), (.t 7)], none⟩,
  ⟨(some 3), .mv (.t 8), none⟩]) (.seq (.seq (.reg false [⟨(some 9), .mv (.t 3), none⟩,
  ⟨(some 10), .bin .lss (.t 9) (.c (.int .i64 0)), none⟩]) (.cond (.t 10) (.seq (.reg false [⟨(some 2), .mv (.c (.bool true)), none⟩]) (.ret)) (.skip))) (.seq (.reg false [⟨(some 11), .loadn 7 (.t 1), none⟩,
  ⟨(some 12), .call F_laws_toReq [(.t 11)], none⟩,
  ⟨(some 13), .call F_spec_ReqOk [(.t 12)], none⟩,
  ⟨(some 4), .mv (.t 13), none⟩]) (.seq (.reg false [⟨(some 14), .loadn 7 (.t 1), none⟩,
  ⟨(some 15), .call F_laws_toReq [(.t 14)], none⟩,
  ⟨(some 16), .call F_impl_ReqOk [(.t 15)], none⟩,
  ⟨(some 5), .mv (.t 16), none⟩]) (.seq (.seq (.reg false [⟨(some 17), .mv (.t 5), none⟩,
  ⟨(some 18), .mv (.t 4), none⟩,
  ⟨(some 19), .beq true (.t 17) (.t 18), none⟩]) (.cond (.t 19) (.seq (.reg false [⟨(some 2), .mv (.c (.bool false)), none⟩]) (.ret)) (.skip))) (.seq (.reg false [⟨(some 2), .mv (.c (.bool true)), none⟩]) (.ret))))))))
def A_laws_FnExactReqOk : AFun := ⟨C_laws_FnExactReqOk, 20, [.tmp 2]⟩
end GoAm
