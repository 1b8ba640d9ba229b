/- The code that the law reaches, for the abstract machine: printed by a program. -/
import Derived.Test.YtdljidfkiopiiaaAmDef
set_option autoImplicit false
set_option linter.unusedVariables false
set_option linter.unusedSimpArgs false
namespace GoAm
open Go
def F_laws_szReq : Go.FuncId := 21
def F_laws_szReqS : Go.FuncId := 40
def F_spec_l18Shape : Go.FuncId := 56
def F_spec_ReqOk : Go.FuncId := 22
def F_spec_ReqsOk : Go.FuncId := 41
def F_laws_toReq : Go.FuncId := 23
def F_laws_toReqS : Go.FuncId := 42
def F_slices_IndexFunc_impl_Req_impl_Req : Go.FuncId := 101
def F_slices_ContainsFunc_impl_Req_impl_Req : Go.FuncId := 93
def F_impl_within : Go.FuncId := 62
def F_impl_isShape : Go.FuncId := 57
def F_impl_isReq : Go.FuncId := 59
def F_impl_areReqs_1 : Go.FuncId := 94
def F_impl_areReqs : Go.FuncId := 76
def F_impl_ReqsOk : Go.FuncId := 43
def F_laws_eqReq : Go.FuncId := 77
def F_laws_eqReqS : Go.FuncId := 44
def F_laws_FnExactReqsOk : Go.FuncId := 11
def C_laws_szReq : ACode := .seq (.reg false [⟨(some 2), .box (.t 0), none⟩,
  ⟨(some 4), .mv (.c (.int .i64 0)), none⟩]) (.seq (.reg false [⟨(some 5), .mv (.t 1), none⟩,
  ⟨(some 6), .fa 1 (.t 2), none⟩,
  ⟨(some 7), .load1 (.t 6), none⟩,
  ⟨(some 8), .slen (.t 7), none⟩,
  ⟨(some 9), .bin .sub (.t 5) (.t 8), none⟩,
  ⟨(some 1), .mv (.t 9), none⟩]) (.seq (.seq (.reg false [⟨(some 10), .mv (.t 1), none⟩,
  ⟨(some 11), .bin .lss (.t 10) (.c (.int .i64 0)), none⟩]) (.cond (.t 11) (.seq (.reg false [⟨(some 4), .mv (.c (.int .i64 (-1))), none⟩]) (.ret)) (.skip))) (.seq (.reg false [⟨(some 12), .mv (.t 1), none⟩,
  ⟨(some 13), .fa 6 (.t 2), none⟩,
  ⟨(some 14), .load1 (.t 13), none⟩,
  ⟨(some 15), .slen (.t 14), none⟩,
  ⟨(some 16), .bin .sub (.t 12) (.t 15), none⟩,
  ⟨(some 1), .mv (.t 16), none⟩]) (.seq (.seq (.reg false [⟨(some 17), .mv (.t 1), none⟩,
  ⟨(some 18), .bin .lss (.t 17) (.c (.int .i64 0)), none⟩]) (.cond (.t 18) (.seq (.reg false [⟨(some 4), .mv (.c (.int .i64 (-1))), none⟩]) (.ret)) (.skip))) (.seq (.reg false [⟨(some 19), .mv (.t 1), none⟩,
  ⟨(some 4), .mv (.t 19), none⟩]) (.ret))))))
def A_laws_szReq : AFun := ⟨C_laws_szReq, 20, [.tmp 4]⟩
def K_laws_szReqS_0 : List Bool := [true, true, false, false, false, true, false, false, false, false, false, false, false, false, false, false, false, false, false, false, false, false, false, false, false, false, false]
def B_laws_szReqS_0 : ACode := .seq (.seq (.reg false [⟨(some 12), .mv (.t 5), none⟩,
  ⟨(some 13), .mv (.t 0), none⟩,
  ⟨(some 14), .len (.t 13), none⟩,
  ⟨(some 15), .bin .lss (.t 12) (.t 14), none⟩]) (.cond (.t 15) (.skip) (.exit 0))) (.seq (.block 1 (.seq (.reg false [⟨(some 18), .mv (.t 0), none⟩,
  ⟨(some 19), .mv (.t 5), none⟩,
  ⟨(some 20), .ia 7 (.t 18) (.t 19), none⟩,
  ⟨(some 21), .loadn 7 (.t 20), none⟩,
  ⟨(some 22), .mv (.t 1), none⟩,
  ⟨(some 23), .call F_laws_szReq [(.t 21), (.t 22)], none⟩,
  ⟨(some 1), .mv (.t 23), none⟩]) (.seq (.reg false [⟨(some 24), .mv (.t 1), none⟩,
  ⟨(some 25), .bin .lss (.t 24) (.c (.int .i64 0)), none⟩]) (.cond (.t 25) (.seq (.reg false [⟨(some 4), .mv (.c (.int .i64 (-1))), none⟩]) (.ret)) (.skip))))) (.reg false [⟨(some 16), .mv (.t 5), none⟩,
  ⟨(some 17), .bin .add (.t 16) (.c (.int .i64 1)), none⟩,
  ⟨(some 5), .mv (.t 17), none⟩]))
def L_laws_szReqS_0 : ACode := B_laws_szReqS_0
def C_laws_szReqS : ACode := .seq (.reg false [⟨(some 4), .mv (.c (.int .i64 0)), none⟩]) (.seq (.reg false [⟨(some 6), .mv (.t 1), none⟩,
  ⟨(some 7), .mv (.t 0), none⟩,
  ⟨(some 8), .len (.t 7), none⟩,
  ⟨(some 9), .bin .sub (.t 6) (.t 8), none⟩,
  ⟨(some 1), .mv (.t 9), none⟩]) (.seq (.seq (.reg false [⟨(some 10), .mv (.t 1), none⟩,
  ⟨(some 11), .bin .lss (.t 10) (.c (.int .i64 0)), none⟩]) (.cond (.t 11) (.seq (.reg false [⟨(some 4), .mv (.c (.int .i64 (-1))), none⟩]) (.ret)) (.skip))) (.seq (.seq (.reg false [⟨(some 5), .mv (.c (.int .i64 0)), none⟩]) (.block 0 (.loop K_laws_szReqS_0 L_laws_szReqS_0))) (.seq (.reg false [⟨(some 26), .mv (.t 1), none⟩,
  ⟨(some 4), .mv (.t 26), none⟩]) (.ret)))))
def A_laws_szReqS : AFun := ⟨C_laws_szReqS, 27, [.tmp 4]⟩
def C_spec_l18Shape : ACode := .seq (.reg false [⟨(some 4), .mv (.c (.bool false)), none⟩]) (.seq (.seq (.reg false [⟨(some 5), .mv (.t 0), none⟩,
  ⟨(some 6), .bin .eql (.t 5) (.c (.int .i64 6)), none⟩]) (.cond (.t 6) (.seq (.reg false [⟨(some 7), .mv (.t 1), none⟩,
  ⟨(some 8), .bin .geq (.t 7) (.c (.int .i64 1)), none⟩,
  ⟨(some 9), .mv (.t 8), none⟩,
  ⟨(some 10), .mv (.t 1), (some (9, true))⟩,
  ⟨(some 11), .bin .leq (.t 10) (.c (.int .i64 16)), (some (9, true))⟩,
  ⟨(some 12), .pick (.t 9) (.t 11) (.c (.bool false)), none⟩,
  ⟨(some 4), .mv (.t 12), none⟩]) (.ret)) (.skip))) (.seq (.reg false [⟨(some 13), .mv (.t 0), none⟩,
  ⟨(some 14), .bin .geq (.t 13) (.c (.int .i64 1)), none⟩,
  ⟨(some 15), .mv (.t 14), none⟩,
  ⟨(some 16), .mv (.t 0), (some (15, true))⟩,
  ⟨(some 17), .bin .leq (.t 16) (.c (.int .i64 6)), (some (15, true))⟩,
  ⟨(some 18), .pick (.t 15) (.t 17) (.c (.bool false)), none⟩,
  ⟨(some 19), .mv (.t 18), none⟩,
  ⟨(some 20), .mv (.t 1), (some (19, true))⟩,
  ⟨(some 21), .bin .eql (.t 20) (.c (.int .i64 0)), (some (19, true))⟩,
  ⟨(some 22), .pick (.t 19) (.t 21) (.c (.bool false)), none⟩,
  ⟨(some 4), .mv (.t 22), none⟩]) (.ret)))
def A_spec_l18Shape : AFun := ⟨C_spec_l18Shape, 23, [.tmp 4]⟩
def C_spec_ReqOk : ACode := .seq (.reg false [⟨(some 1), .box (.t 0), none⟩,
  ⟨(some 2), .mv (.c (.bool false)), none⟩]) (.seq (.reg false [⟨(some 3), .fa 0 (.t 1), none⟩,
  ⟨(some 4), .load1 (.t 3), none⟩,
  ⟨(some 5), .fa 5 (.t 1), none⟩,
  ⟨(some 6), .load1 (.t 5), none⟩,
  ⟨(some 7), .call F_spec_l18Shape [(.t 4), (.t 6)], none⟩,
  ⟨(some 8), .mv (.t 7), none⟩,
  ⟨(some 9), .fa 1 (.t 1), (some (8, true))⟩,
  ⟨(some 10), .load1 (.t 9), (some (8, true))⟩,
  ⟨(some 11), .slen (.t 10), (some (8, true))⟩,
  ⟨(some 12), .bin .leq (.t 11) (.c (.int .i64 100)), (some (8, true))⟩,
  ⟨(some 13), .pick (.t 8) (.t 12) (.c (.bool false)), none⟩,
  ⟨(some 14), .mv (.t 13), none⟩,
  ⟨(some 15), .fa 6 (.t 1), (some (14, true))⟩,
  ⟨(some 16), .load1 (.t 15), (some (14, true))⟩,
  ⟨(some 17), .slen (.t 16), (some (14, true))⟩,
  ⟨(some 18), .bin .leq (.t 17) (.c (.int .i64 2000)), (some (14, true))⟩,
  ⟨(some 19), .pick (.t 14) (.t 18) (.c (.bool false)), none⟩,
  ⟨(some 2), .mv (.t 19), none⟩]) (.ret))
def A_spec_ReqOk : AFun := ⟨C_spec_ReqOk, 20, [.tmp 2]⟩
def K_spec_ReqsOk_0 : List Bool := [true, false, false, true, false, false, false, false, false, false, false, false, false, false, false, false, false, false, false]
def B_spec_ReqsOk_0 : ACode := .seq (.seq (.reg false [⟨(some 7), .mv (.t 3), none⟩,
  ⟨(some 8), .mv (.t 0), none⟩,
  ⟨(some 9), .len (.t 8), none⟩,
  ⟨(some 10), .bin .lss (.t 7) (.t 9), none⟩]) (.cond (.t 10) (.skip) (.exit 0))) (.seq (.block 1 (.seq (.reg false [⟨(some 13), .mv (.t 0), none⟩,
  ⟨(some 14), .mv (.t 3), none⟩,
  ⟨(some 15), .ia 7 (.t 13) (.t 14), none⟩,
  ⟨(some 16), .loadn 7 (.t 15), none⟩,
  ⟨(some 17), .call F_spec_ReqOk [(.t 16)], none⟩,
  ⟨(some 18), .not (.t 17), none⟩]) (.cond (.t 18) (.seq (.reg false [⟨(some 2), .mv (.c (.bool false)), none⟩]) (.ret)) (.skip)))) (.reg false [⟨(some 11), .mv (.t 3), none⟩,
  ⟨(some 12), .bin .add (.t 11) (.c (.int .i64 1)), none⟩,
  ⟨(some 3), .mv (.t 12), none⟩]))
def L_spec_ReqsOk_0 : ACode := B_spec_ReqsOk_0
def C_spec_ReqsOk : ACode := .seq (.reg false [⟨(some 2), .mv (.c (.bool false)), none⟩]) (.seq (.seq (.reg false [⟨(some 4), .mv (.t 0), none⟩,
  ⟨(some 5), .len (.t 4), none⟩,
  ⟨(some 6), .bin .gtr (.t 5) (.c (.int .i64 40)), none⟩]) (.cond (.t 6) (.seq (.reg false [⟨(some 2), .mv (.c (.bool false)), none⟩]) (.ret)) (.skip))) (.seq (.seq (.reg false [⟨(some 3), .mv (.c (.int .i64 0)), none⟩]) (.block 0 (.loop K_spec_ReqsOk_0 L_spec_ReqsOk_0))) (.seq (.reg false [⟨(some 2), .mv (.c (.bool true)), none⟩]) (.ret))))
def A_spec_ReqsOk : AFun := ⟨C_spec_ReqsOk, 19, [.tmp 2]⟩
def C_laws_toReq : ACode := .seq (.reg false [⟨(some 1), .box (.t 0), none⟩,
  ⟨(some 2), .new [(.int .i64 0), (.string ⟨#[]⟩), (.int .i64 0), (.int .i64 0), (.int .i64 0), (.int .i64 0), (.string ⟨#[]⟩)], none⟩]) (.seq (.reg false [⟨(some 3), .new [(.int .i64 0), (.string ⟨#[]⟩), (.int .i64 0), (.int .i64 0), (.int .i64 0), (.int .i64 0), (.string ⟨#[]⟩)], none⟩]) (.seq (.reg false [⟨(some 4), .fa 0 (.t 1), none⟩,
  ⟨(some 5), .load1 (.t 4), none⟩,
  ⟨(some 6), .fa 0 (.t 3), none⟩,
  ⟨none, .store 1 (.t 6) (.t 5), none⟩]) (.seq (.reg false [⟨(some 7), .fa 1 (.t 1), none⟩,
  ⟨(some 8), .load1 (.t 7), none⟩,
  ⟨(some 9), .fa 1 (.t 3), none⟩,
  ⟨none, .store 1 (.t 9) (.t 8), none⟩]) (.seq (.reg false [⟨(some 10), .fa 2 (.t 1), none⟩,
  ⟨(some 11), .load1 (.t 10), none⟩,
  ⟨(some 12), .fa 2 (.t 3), none⟩,
  ⟨none, .store 1 (.t 12) (.t 11), none⟩]) (.seq (.reg false [⟨(some 13), .fa 3 (.t 1), none⟩,
  ⟨(some 14), .load1 (.t 13), none⟩,
  ⟨(some 15), .fa 3 (.t 3), none⟩,
  ⟨none, .store 1 (.t 15) (.t 14), none⟩]) (.seq (.reg false [⟨(some 16), .fa 4 (.t 1), none⟩,
  ⟨(some 17), .load1 (.t 16), none⟩,
  ⟨(some 18), .fa 4 (.t 3), none⟩,
  ⟨none, .store 1 (.t 18) (.t 17), none⟩]) (.seq (.reg false [⟨(some 19), .fa 5 (.t 1), none⟩,
  ⟨(some 20), .load1 (.t 19), none⟩,
  ⟨(some 21), .fa 5 (.t 3), none⟩,
  ⟨none, .store 1 (.t 21) (.t 20), none⟩]) (.seq (.reg false [⟨(some 22), .fa 6 (.t 1), none⟩,
  ⟨(some 23), .load1 (.t 22), none⟩,
  ⟨(some 24), .fa 6 (.t 3), none⟩,
  ⟨none, .store 1 (.t 24) (.t 23), none⟩]) (.seq (.reg false [⟨(some 25), .loadn 7 (.t 3), none⟩,
  ⟨none, .store 7 (.t 2) (.t 25), none⟩]) (.ret))))))))))
def A_laws_toReq : AFun := ⟨C_laws_toReq, 26, [.celln 2 7]⟩
def K_laws_toReqS_0 : List Bool := [true, false, false, true, true, false, false, false, false, false, false, false, false, false, false, false, false, false, false, false, false, false, false]
def B_laws_toReqS_0 : ACode := .seq (.seq (.reg false [⟨(some 8), .mv (.t 4), none⟩,
  ⟨(some 9), .mv (.t 0), none⟩,
  ⟨(some 10), .len (.t 9), none⟩,
  ⟨(some 11), .bin .lss (.t 8) (.t 10), none⟩]) (.cond (.t 11) (.skip) (.exit 0))) (.seq (.block 1 (.reg false [⟨(some 14), .mv (.t 3), none⟩,
  ⟨(some 15), .mv (.t 4), none⟩,
  ⟨(some 16), .mv (.t 0), none⟩,
  ⟨(some 17), .mv (.t 4), none⟩,
  ⟨(some 18), .ia 7 (.t 16) (.t 17), none⟩,
  ⟨(some 19), .loadn 7 (.t 18), none⟩,
  ⟨(some 20), .call F_laws_toReq [(.t 19)], none⟩,
  ⟨(some 21), .ia 7 (.t 14) (.t 15), none⟩,
  ⟨none, .store 7 (.t 21) (.t 20), none⟩])) (.reg false [⟨(some 12), .mv (.t 4), none⟩,
  ⟨(some 13), .bin .add (.t 12) (.c (.int .i64 1)), none⟩,
  ⟨(some 4), .mv (.t 13), none⟩]))
def L_laws_toReqS_0 : ACode := B_laws_toReqS_0
def C_laws_toReqS : ACode := .seq (.reg false [⟨(some 2), .mv (.c (.slice none 0 0)), none⟩]) (.seq (.reg false [⟨(some 5), .mv (.t 0), none⟩,
  ⟨(some 6), .len (.t 5), none⟩,
  ⟨(some 7), .make 7 72 [(.int .i64 0), (.string ⟨#[]⟩), (.int .i64 0), (.int .i64 0), (.int .i64 0), (.int .i64 0), (.string ⟨#[]⟩)] (.t 6), none⟩,
  ⟨(some 3), .mv (.t 7), none⟩]) (.seq (.seq (.reg false [⟨(some 4), .mv (.c (.int .i64 0)), none⟩]) (.block 0 (.loop K_laws_toReqS_0 L_laws_toReqS_0))) (.seq (.reg false [⟨(some 22), .mv (.t 3), none⟩,
  ⟨(some 2), .mv (.t 22), none⟩]) (.ret))))
def A_laws_toReqS : AFun := ⟨C_laws_toReqS, 23, [.tmp 2]⟩
def K_slices_IndexFunc_impl_Req_impl_Req_0 : List Bool := [true, true, false, false, false, false, false, true, true, false, false, false, false, false, false, false, false, false, false]
def B_slices_IndexFunc_impl_Req_impl_Req_0 : ACode := .seq (.reg false [⟨(some 9), .bin .lss (.t 8) (.t 7), none⟩]) (.seq (.cond (.t 9) (.skip) (.exit 0)) (.seq (.block 1 (.seq (.reg false [⟨(some 10), .mv (.t 8), none⟩,
  ⟨(some 5), .mv (.t 10), none⟩]) (.seq (.reg false [⟨(some 11), .mv (.t 1), none⟩,
  ⟨(some 12), .mv (.t 0), none⟩,
  ⟨(some 13), .mv (.t 5), none⟩,
  ⟨(some 14), .ia 7 (.t 12) (.t 13), none⟩,
  ⟨(some 15), .loadn 7 (.t 14), none⟩,
  ⟨(some 16), .callv (.t 11) [(.t 15)], none⟩]) (.cond (.t 16) (.seq (.reg false [⟨(some 17), .mv (.t 5), none⟩,
  ⟨(some 4), .mv (.t 17), none⟩]) (.ret)) (.skip))))) (.reg false [⟨(some 18), .bin .add (.t 8) (.c (.int .i64 1)), none⟩,
  ⟨(some 8), .mv (.t 18), none⟩])))
def L_slices_IndexFunc_impl_Req_impl_Req_0 : ACode := B_slices_IndexFunc_impl_Req_impl_Req_0
def C_slices_IndexFunc_impl_Req_impl_Req : ACode := .seq (.reg false [⟨(some 4), .mv (.c (.int .i64 0)), none⟩]) (.seq (.seq (.reg false [⟨(some 6), .mv (.t 0), none⟩,
  ⟨(some 7), .len (.t 6), none⟩,
  ⟨(some 8), .mv (.c (.int .i64 0)), none⟩]) (.block 0 (.loop K_slices_IndexFunc_impl_Req_impl_Req_0 L_slices_IndexFunc_impl_Req_impl_Req_0))) (.seq (.reg false [⟨(some 4), .mv (.c (.int .i64 (-1))), none⟩]) (.ret)))
def A_slices_IndexFunc_impl_Req_impl_Req : AFun := ⟨C_slices_IndexFunc_impl_Req_impl_Req, 19, [.tmp 4]⟩
def C_slices_ContainsFunc_impl_Req_impl_Req : ACode := .seq (.reg false [⟨(some 4), .mv (.c (.bool false)), none⟩]) (.seq (.reg false [⟨(some 5), .mv (.t 0), none⟩,
  ⟨(some 6), .mv (.t 1), none⟩,
  ⟨(some 7), .call F_slices_IndexFunc_impl_Req_impl_Req [(.t 5), (.t 6)], none⟩,
  ⟨(some 8), .bin .geq (.t 7) (.c (.int .i64 0)), none⟩,
  ⟨(some 4), .mv (.t 8), none⟩]) (.ret))
def A_slices_ContainsFunc_impl_Req_impl_Req : AFun := ⟨C_slices_ContainsFunc_impl_Req_impl_Req, 9, [.tmp 4]⟩
def C_impl_within : ACode := .seq (.reg false [⟨(some 6), .mv (.c (.bool false)), none⟩]) (.seq (.reg false [⟨(some 7), .mv (.t 0), none⟩,
  ⟨(some 8), .mv (.t 1), none⟩,
  ⟨(some 9), .bin .geq (.t 7) (.t 8), none⟩,
  ⟨(some 10), .mv (.t 9), none⟩,
  ⟨(some 11), .mv (.t 0), (some (10, true))⟩,
  ⟨(some 12), .mv (.t 2), (some (10, true))⟩,
  ⟨(some 13), .bin .leq (.t 11) (.t 12), (some (10, true))⟩,
  ⟨(some 14), .pick (.t 10) (.t 13) (.c (.bool false)), none⟩,
  ⟨(some 6), .mv (.t 14), none⟩]) (.ret))
def A_impl_within : AFun := ⟨C_impl_within, 15, [.tmp 6]⟩
def C_impl_isShape : ACode := .seq (.reg false [⟨(some 4), .mv (.c (.bool false)), none⟩]) (.seq (.seq (.reg false [⟨(some 5), .mv (.t 0), none⟩,
  ⟨(some 6), .bin .eql (.t 5) (.c (.int .i64 6)), none⟩]) (.cond (.t 6) (.seq (.reg false [⟨(some 7), .mv (.t 1), none⟩,
  ⟨(some 8), .call F_impl_within [(.t 7), (.c (.int .i64 1)), (.c (.int .i64 16))], none⟩,
  ⟨(some 4), .mv (.t 8), none⟩]) (.ret)) (.skip))) (.seq (.reg false [⟨(some 9), .mv (.t 0), none⟩,
  ⟨(some 10), .call F_impl_within [(.t 9), (.c (.int .i64 1)), (.c (.int .i64 5))], none⟩,
  ⟨(some 11), .mv (.t 10), none⟩,
  ⟨(some 12), .mv (.t 1), (some (11, true))⟩,
  ⟨(some 13), .bin .eql (.t 12) (.c (.int .i64 0)), (some (11, true))⟩,
  ⟨(some 14), .pick (.t 11) (.t 13) (.c (.bool false)), none⟩,
  ⟨(some 4), .mv (.t 14), none⟩]) (.ret)))
def A_impl_isShape : AFun := ⟨C_impl_isShape, 15, [.tmp 4]⟩
def C_impl_isReq : ACode := .seq (.reg false [⟨(some 1), .box (.t 0), none⟩,
  ⟨(some 2), .mv (.c (.bool false)), none⟩]) (.seq (.reg false [⟨(some 3), .fa 0 (.t 1), none⟩,
  ⟨(some 4), .load1 (.t 3), none⟩,
  ⟨(some 5), .fa 5 (.t 1), none⟩,
  ⟨(some 6), .load1 (.t 5), none⟩,
  ⟨(some 7), .call F_impl_isShape [(.t 4), (.t 6)], none⟩,
  ⟨(some 8), .mv (.t 7), none⟩,
  ⟨(some 9), .fa 1 (.t 1), (some (8, true))⟩,
  ⟨(some 10), .load1 (.t 9), (some (8, true))⟩,
  ⟨(some 11), .slen (.t 10), (some (8, true))⟩,
  ⟨(some 12), .bin .leq (.t 11) (.c (.int .i64 100)), (some (8, true))⟩,
  ⟨(some 13), .pick (.t 8) (.t 12) (.c (.bool false)), none⟩,
  ⟨(some 14), .mv (.t 13), none⟩,
  ⟨(some 15), .fa 6 (.t 1), (some (14, true))⟩,
  ⟨(some 16), .load1 (.t 15), (some (14, true))⟩,
  ⟨(some 17), .slen (.t 16), (some (14, true))⟩,
  ⟨(some 18), .bin .leq (.t 17) (.c (.int .i64 2000)), (some (14, true))⟩,
  ⟨(some 19), .pick (.t 14) (.t 18) (.c (.bool false)), none⟩,
  ⟨(some 2), .mv (.t 19), none⟩]) (.ret))
def A_impl_isReq : AFun := ⟨C_impl_isReq, 20, [.tmp 2]⟩
def C_impl_areReqs_1 : ACode := .seq (.reg false [⟨(some 1), .box (.t 0), none⟩,
  ⟨(some 2), .mv (.c (.bool false)), none⟩]) (.seq (.reg false [⟨(some 3), .loadn 7 (.t 1), none⟩,
  ⟨(some 4), .call F_impl_isReq [(.t 3)], none⟩,
  ⟨(some 5), .not (.t 4), none⟩,
  ⟨(some 2), .mv (.t 5), none⟩]) (.ret))
def A_impl_areReqs_1 : AFun := ⟨C_impl_areReqs_1, 6, [.tmp 2]⟩
def C_impl_areReqs : ACode := .seq (.reg false [⟨(some 2), .mv (.c (.bool false)), none⟩]) (.seq (.reg false [⟨(some 3), .mv (.t 0), none⟩,
  ⟨(some 4), .len (.t 3), none⟩,
  ⟨(some 5), .bin .leq (.t 4) (.c (.int .i64 40)), none⟩,
  ⟨(some 6), .mv (.t 5), none⟩,
  ⟨(some 7), .mv (.t 0), (some (6, true))⟩,
  ⟨(some 8), .call F_slices_ContainsFunc_impl_Req_impl_Req [(.t 7), (.c (.func (.func F_impl_areReqs_1) #[] #[]))], (some (6, true))⟩,
  ⟨(some 9), .not (.t 8), (some (6, true))⟩,
  ⟨(some 10), .pick (.t 6) (.t 9) (.c (.bool false)), none⟩,
  ⟨(some 2), .mv (.t 10), none⟩]) (.ret))
def A_impl_areReqs : AFun := ⟨C_impl_areReqs, 11, [.tmp 2]⟩
def C_impl_ReqsOk : ACode := .seq (.reg false [⟨(some 2), .mv (.c (.bool false)), none⟩]) (.seq (.reg false [⟨(some 3), .mv (.t 0), none⟩,
  ⟨(some 4), .call F_impl_areReqs [(.t 3)], none⟩,
  ⟨(some 2), .mv (.t 4), none⟩]) (.ret))
def A_impl_ReqsOk : AFun := ⟨C_impl_ReqsOk, 5, [.tmp 2]⟩
def C_laws_eqReq : ACode := .seq (.reg false [⟨(some 2), .box (.t 0), none⟩,
  ⟨(some 3), .box (.t 1), none⟩,
  ⟨(some 4), .mv (.c (.bool false)), none⟩]) (.seq (.seq (.reg false [⟨(some 5), .fa 0 (.t 2), none⟩,
  ⟨(some 6), .load1 (.t 5), none⟩,
  ⟨(some 7), .fa 0 (.t 3), none⟩,
  ⟨(some 8), .load1 (.t 7), none⟩,
  ⟨(some 9), .bin .neq (.t 6) (.t 8), none⟩]) (.cond (.t 9) (.seq (.reg false [⟨(some 4), .mv (.c (.bool false)), none⟩]) (.ret)) (.skip))) (.seq (.seq (.reg false [⟨(some 10), .fa 1 (.t 2), none⟩,
  ⟨(some 11), .load1 (.t 10), none⟩,
  ⟨(some 12), .fa 1 (.t 3), none⟩,
  ⟨(some 13), .load1 (.t 12), none⟩,
  ⟨(some 14), .bin .neq (.t 11) (.t 13), none⟩]) (.cond (.t 14) (.seq (.reg false [⟨(some 4), .mv (.c (.bool false)), none⟩]) (.ret)) (.skip))) (.seq (.seq (.reg false [⟨(some 15), .fa 2 (.t 2), none⟩,
  ⟨(some 16), .load1 (.t 15), none⟩,
  ⟨(some 17), .fa 2 (.t 3), none⟩,
  ⟨(some 18), .load1 (.t 17), none⟩,
  ⟨(some 19), .bin .neq (.t 16) (.t 18), none⟩]) (.cond (.t 19) (.seq (.reg false [⟨(some 4), .mv (.c (.bool false)), none⟩]) (.ret)) (.skip))) (.seq (.seq (.reg false [⟨(some 20), .fa 3 (.t 2), none⟩,
  ⟨(some 21), .load1 (.t 20), none⟩,
  ⟨(some 22), .fa 3 (.t 3), none⟩,
  ⟨(some 23), .load1 (.t 22), none⟩,
  ⟨(some 24), .bin .neq (.t 21) (.t 23), none⟩]) (.cond (.t 24) (.seq (.reg false [⟨(some 4), .mv (.c (.bool false)), none⟩]) (.ret)) (.skip))) (.seq (.seq (.reg false [⟨(some 25), .fa 4 (.t 2), none⟩,
  ⟨(some 26), .load1 (.t 25), none⟩,
  ⟨(some 27), .fa 4 (.t 3), none⟩,
  ⟨(some 28), .load1 (.t 27), none⟩,
  ⟨(some 29), .bin .neq (.t 26) (.t 28), none⟩]) (.cond (.t 29) (.seq (.reg false [⟨(some 4), .mv (.c (.bool false)), none⟩]) (.ret)) (.skip))) (.seq (.seq (.reg false [⟨(some 30), .fa 5 (.t 2), none⟩,
  ⟨(some 31), .load1 (.t 30), none⟩,
  ⟨(some 32), .fa 5 (.t 3), none⟩,
  ⟨(some 33), .load1 (.t 32), none⟩,
  ⟨(some 34), .bin .neq (.t 31) (.t 33), none⟩]) (.cond (.t 34) (.seq (.reg false [⟨(some 4), .mv (.c (.bool false)), none⟩]) (.ret)) (.skip))) (.seq (.seq (.reg false [⟨(some 35), .fa 6 (.t 2), none⟩,
  ⟨(some 36), .load1 (.t 35), none⟩,
  ⟨(some 37), .fa 6 (.t 3), none⟩,
  ⟨(some 38), .load1 (.t 37), none⟩,
  ⟨(some 39), .bin .neq (.t 36) (.t 38), none⟩]) (.cond (.t 39) (.seq (.reg false [⟨(some 4), .mv (.c (.bool false)), none⟩]) (.ret)) (.skip))) (.seq (.reg false [⟨(some 4), .mv (.c (.bool true)), none⟩]) (.ret)))))))))
def A_laws_eqReq : AFun := ⟨C_laws_eqReq, 40, [.tmp 4]⟩
def K_laws_eqReqS_0 : List Bool := [true, true, false, false, false, true, false, false, false, false, false, false, false, false, false, false, false, false, false, false, false, false, false, false, false, false, false]
def B_laws_eqReqS_0 : ACode := .seq (.seq (.reg false [⟨(some 11), .mv (.t 5), none⟩,
  ⟨(some 12), .mv (.t 0), none⟩,
  ⟨(some 13), .len (.t 12), none⟩,
  ⟨(some 14), .bin .lss (.t 11) (.t 13), none⟩]) (.cond (.t 14) (.skip) (.exit 0))) (.seq (.block 1 (.seq (.reg true [⟨(some 17), .mv (.t 0), none⟩,
  ⟨(some 18), .mv (.t 5), none⟩,
  ⟨(some 19), .ia 7 (.t 17) (.t 18), none⟩,
  ⟨(some 20), .loadn 7 (.t 19), none⟩,
  ⟨(some 21), .mv (.t 1), none⟩,
  ⟨(some 22), .mv (.t 5), none⟩,
  ⟨(some 23), .ia 7 (.t 21) (.t 22), none⟩,
  ⟨(some 24), .loadn 7 (.t 23), none⟩,
  ⟨(some 25), .call F_laws_eqReq [(.t 20), (.t 24)], none⟩,
  ⟨(some 26), .not (.t 25), none⟩]) (.cond (.t 26) (.seq (.reg false [⟨(some 4), .mv (.c (.bool false)), none⟩]) (.ret)) (.skip)))) (.reg false [⟨(some 15), .mv (.t 5), none⟩,
  ⟨(some 16), .bin .add (.t 15) (.c (.int .i64 1)), none⟩,
  ⟨(some 5), .mv (.t 16), none⟩]))
def L_laws_eqReqS_0 : ACode := B_laws_eqReqS_0
def C_laws_eqReqS : ACode := .seq (.reg false [⟨(some 4), .mv (.c (.bool false)), none⟩]) (.seq (.seq (.reg false [⟨(some 6), .mv (.t 0), none⟩,
  ⟨(some 7), .len (.t 6), none⟩,
  ⟨(some 8), .mv (.t 1), none⟩,
  ⟨(some 9), .len (.t 8), none⟩,
  ⟨(some 10), .bin .neq (.t 7) (.t 9), none⟩]) (.cond (.t 10) (.seq (.reg false [⟨(some 4), .mv (.c (.bool false)), none⟩]) (.ret)) (.skip))) (.seq (.seq (.reg false [⟨(some 5), .mv (.c (.int .i64 0)), none⟩]) (.block 0 (.loop K_laws_eqReqS_0 L_laws_eqReqS_0))) (.seq (.reg false [⟨(some 4), .mv (.c (.bool true)), none⟩]) (.ret))))
def A_laws_eqReqS : AFun := ⟨C_laws_eqReqS, 27, [.tmp 4]⟩
def C_laws_FnExactReqsOk : ACode := .seq (.reg false [⟨(some 2), .mv (.c (.bool false)), none⟩]) (.seq (.reg false [⟨(some 3), .mv (.c (.int .i64 1048576)), none⟩]) (.seq (.reg false [⟨(some 7), .mv (.t 0), none⟩,
  ⟨(some 8), .mv (.t 3), none⟩,
  ⟨(some 9), .call F_laws_szReqS [(.t 7), (.t 8)], none⟩,
  ⟨(some 3), .mv (.t 9), none⟩]) (.seq (.seq (.reg false [⟨(some 10), .mv (.t 3), none⟩,
  ⟨(some 11), .bin .lss (.t 10) (.c (.int .i64 0)), none⟩]) (.cond (.t 11) (.seq (.reg false [⟨(some 2), .mv (.c (.bool true)), none⟩]) (.ret)) (.skip))) (.seq (.reg false [⟨(some 12), .mv (.t 0), none⟩,
  ⟨(some 13), .call F_laws_toReqS [(.t 12)], none⟩,
  ⟨(some 14), .call F_spec_ReqsOk [(.t 13)], none⟩,
  ⟨(some 4), .mv (.t 14), none⟩]) (.seq (.reg false [⟨(some 15), .mv (.t 0), none⟩,
  ⟨(some 16), .call F_laws_toReqS [(.t 15)], none⟩,
  ⟨(some 5), .mv (.t 16), none⟩]) (.seq (.reg false [⟨(some 17), .mv (.t 5), none⟩,
  ⟨(some 18), .call F_impl_ReqsOk [(.t 17)], none⟩,
  ⟨(some 6), .mv (.t 18), none⟩]) (.seq (.seq (.reg false [⟨(some 19), .mv (.t 6), none⟩,
  ⟨(some 20), .mv (.t 4), none⟩,
  ⟨(some 21), .beq true (.t 19) (.t 20), none⟩]) (.cond (.t 21) (.seq (.reg false [⟨(some 2), .mv (.c (.bool false)), none⟩]) (.ret)) (.skip))) (.seq (.seq (.reg false [⟨(some 22), .mv (.t 5), none⟩,
  ⟨(some 23), .mv (.t 0), none⟩,
  ⟨(some 24), .call F_laws_toReqS [(.t 23)], none⟩,
  ⟨(some 25), .call F_laws_eqReqS [(.t 22), (.t 24)], none⟩,
  ⟨(some 26), .not (.t 25), none⟩]) (.cond (.t 26) (.seq (.reg false [⟨(some 2), .mv (.c (.bool false)), none⟩]) (.ret)) (.skip))) (.seq (.reg false [⟨(some 2), .mv (.c (.bool true)), none⟩]) (.ret))))))))))
def A_laws_FnExactReqsOk : AFun := ⟨C_laws_FnExactReqsOk, 27, [.tmp 2]⟩
end GoAm
