/- The code that the law reaches, for the abstract machine: printed by a program. -/
import Derived.Test.YtdljidfkiopiiaaAmDef
set_option autoImplicit false
set_option linter.unusedVariables false
set_option linter.unusedSimpArgs false
namespace GoAm
open Go
def F_spec_l16Log : Go.FuncId := 52
def F_spec_ConfOk : Go.FuncId := 14
def F_laws_toConf : Go.FuncId := 15
def F_impl_within : Go.FuncId := 62
def F_impl_isDeepLog : Go.FuncId := 55
def F_impl_isConf : Go.FuncId := 53
def F_impl_ConfOk : Go.FuncId := 16
def F_laws_FnExactConfOk : Go.FuncId := 3
def C_spec_l16Log : ACode := .seq (.reg false [⟨(some 2), .mv (.c (.bool false)), none⟩]) (.seq (.reg false [⟨(some 3), .mv (.t 0), none⟩,
  ⟨(some 4), .bin .geq (.t 3) (.c (.int .i64 2)), none⟩,
  ⟨(some 5), .mv (.t 4), none⟩,
  ⟨(some 6), .mv (.t 0), (some (5, true))⟩,
  ⟨(some 7), .bin .leq (.t 6) (.c (.int .i64 6)), (some (5, true))⟩,
  ⟨(some 8), .pick (.t 5) (.t 7) (.c (.bool false)), none⟩,
  ⟨(some 2), .mv (.t 8), none⟩]) (.ret))
def A_spec_l16Log : AFun := ⟨C_spec_l16Log, 9, [.tmp 2]⟩
def C_spec_ConfOk : ACode := .seq (.reg false [⟨(some 1), .box (.t 0), none⟩,
  ⟨(some 2), .mv (.c (.bool false)), none⟩]) (.seq (.reg false [⟨(some 3), .fa 0 (.t 1), none⟩,
  ⟨(some 4), .load1 (.t 3), none⟩,
  ⟨(some 5), .bin .geq (.t 4) (.c (.int .i64 0)), none⟩,
  ⟨(some 6), .mv (.t 5), none⟩,
  ⟨(some 7), .fa 0 (.t 1), (some (6, true))⟩,
  ⟨(some 8), .load1 (.t 7), (some (6, true))⟩,
  ⟨(some 9), .bin .leq (.t 8) (.c (.int .i64 4294967295)), (some (6, true))⟩,
  ⟨(some 10), .pick (.t 6) (.t 9) (.c (.bool false)), none⟩,
  ⟨(some 11), .mv (.t 10), none⟩,
  ⟨(some 12), .fa 1 (.t 1), (some (11, true))⟩,
  ⟨(some 13), .load1 (.t 12), (some (11, true))⟩,
  ⟨(some 14), .call F_spec_l16Log [(.t 13)], (some (11, true))⟩,
  ⟨(some 15), .pick (.t 11) (.t 14) (.c (.bool false)), none⟩,
  ⟨(some 16), .mv (.t 15), none⟩,
  ⟨(some 17), .fa 2 (.t 1), (some (16, true))⟩,
  ⟨(some 18), .load1 (.t 17), (some (16, true))⟩,
  ⟨(some 19), .bin .geq (.t 18) (.c (.int .i64 0)), (some (16, true))⟩,
  ⟨(some 20), .pick (.t 16) (.t 19) (.c (.bool false)), none⟩,
  ⟨(some 21), .mv (.t 20), none⟩,
  ⟨(some 22), .fa 2 (.t 1), (some (21, true))⟩,
  ⟨(some 23), .load1 (.t 22), (some (21, true))⟩,
  ⟨(some 24), .bin .leq (.t 23) (.c (.int .i64 64)), (some (21, true))⟩,
  ⟨(some 25), .pick (.t 21) (.t 24) (.c (.bool false)), none⟩,
  ⟨(some 26), .mv (.t 25), none⟩,
  ⟨(some 27), .fa 3 (.t 1), (some (26, true))⟩,
  ⟨(some 28), .load1 (.t 27), (some (26, true))⟩,
  ⟨(some 29), .bin .geq (.t 28) (.c (.int .i64 1)), (some (26, true))⟩,
  ⟨(some 30), .pick (.t 26) (.t 29) (.c (.bool false)), none⟩,
  ⟨(some 31), .mv (.t 30), none⟩,
  ⟨(some 32), .fa 3 (.t 1), (some (31, true))⟩,
  ⟨(some 33), .load1 (.t 32), (some (31, true))⟩,
  ⟨(some 34), .bin .leq (.t 33) (.c (.int .i64 64)), (some (31, true))⟩,
  ⟨(some 35), .pick (.t 31) (.t 34) (.c (.bool false)), none⟩,
  ⟨(some 2), .mv (.t 35), none⟩]) (.ret))
def A_spec_ConfOk : AFun := ⟨C_spec_ConfOk, 36, [.tmp 2]⟩
def C_laws_toConf : ACode := .seq (.reg false [⟨(some 1), .box (.t 0), none⟩,
  ⟨(some 2), .new [(.int .i64 0), (.int .i64 0), (.int .i64 0), (.int .i64 0)], none⟩]) (.seq (.reg false [⟨(some 3), .new [(.int .i64 0), (.int .i64 0), (.int .i64 0), (.int .i64 0)], none⟩]) (.seq (.reg false [⟨(some 4), .fa 0 (.t 1), none⟩,
  ⟨(some 5), .load1 (.t 4), none⟩,
  ⟨(some 6), .fa 0 (.t 3), none⟩,
  ⟨none, .store 1 (.t 6) (.t 5), none⟩]) (.seq (.reg false [⟨(some 7), .fa 1 (.t 1), none⟩,
  ⟨(some 8), .load1 (.t 7), none⟩,
  ⟨(some 9), .fa 1 (.t 3), none⟩,
  ⟨none, .store 1 (.t 9) (.t 8), none⟩]) (.seq (.reg false [⟨(some 10), .fa 2 (.t 1), none⟩,
  ⟨(some 11), .load1 (.t 10), none⟩,
  ⟨(some 12), .fa 2 (.t 3), none⟩,
  ⟨none, .store 1 (.t 12) (.t 11), none⟩]) (.seq (.reg false [⟨(some 13), .fa 3 (.t 1), none⟩,
  ⟨(some 14), .load1 (.t 13), none⟩,
  ⟨(some 15), .fa 3 (.t 3), none⟩,
  ⟨none, .store 1 (.t 15) (.t 14), none⟩]) (.seq (.reg false [⟨(some 16), .loadn 4 (.t 3), none⟩,
  ⟨none, .store 4 (.t 2) (.t 16), none⟩]) (.ret)))))))
def A_laws_toConf : AFun := ⟨C_laws_toConf, 17, [.celln 2 4]⟩
def C_impl_within : ACode := .seq (.reg false [⟨(some 6), .mv (.c (.bool false)), none⟩]) (.seq (.reg false [⟨(some 7), .mv (.t 0), none⟩,
  ⟨(some 8), .mv (.t 1), none⟩,
  ⟨(some 9), .bin .geq (.t 7) (.t 8), none⟩,
  ⟨(some 10), .mv (.t 9), none⟩,
  ⟨(some 11), .mv (.t 0), (some (10, true))⟩,
  ⟨(some 12), .mv (.t 2), (some (10, true))⟩,
  ⟨(some 13), .bin .leq (.t 11) (.t 12), (some (10, true))⟩,
  ⟨(some 14), .pick (.t 10) (.t 13) (.c (.bool false)), none⟩,
  ⟨(some 6), .mv (.t 14), none⟩]) (.ret))
def A_impl_within : AFun := ⟨C_impl_within, 15, [.tmp 6]⟩
def C_impl_isDeepLog : ACode := .seq (.reg false [⟨(some 2), .mv (.c (.bool false)), none⟩]) (.seq (.reg false [⟨(some 3), .mv (.t 0), none⟩,
  ⟨(some 4), .call F_impl_within [(.t 3), (.c (.int .i64 2)), (.c (.int .i64 6))], none⟩,
  ⟨(some 2), .mv (.t 4), none⟩]) (.ret))
def A_impl_isDeepLog : AFun := ⟨C_impl_isDeepLog, 5, [.tmp 2]⟩
def C_impl_isConf : ACode := .seq (.reg false [⟨(some 1), .box (.t 0), none⟩,
  ⟨(some 2), .mv (.c (.bool false)), none⟩]) (.seq (.reg false [⟨(some 3), .fa 0 (.t 1), none⟩,
  ⟨(some 4), .load1 (.t 3), none⟩,
  ⟨(some 5), .call F_impl_within [(.t 4), (.c (.int .i64 0)), (.c (.int .i64 4294967295))], none⟩,
  ⟨(some 6), .mv (.t 5), none⟩,
  ⟨(some 7), .fa 1 (.t 1), (some (6, true))⟩,
  ⟨(some 8), .load1 (.t 7), (some (6, true))⟩,
  ⟨(some 9), .call F_impl_isDeepLog [(.t 8)], (some (6, true))⟩,
  ⟨(some 10), .pick (.t 6) (.t 9) (.c (.bool false)), none⟩,
  ⟨(some 11), .mv (.t 10), none⟩,
  ⟨(some 12), .fa 2 (.t 1), (some (11, true))⟩,
  ⟨(some 13), .load1 (.t 12), (some (11, true))⟩,
  ⟨(some 14), .call F_impl_within [(.t 13), (.c (.int .i64 0)), (.c (.int .i64 64))], (some (11, true))⟩,
  ⟨(some 15), .pick (.t 11) (.t 14) (.c (.bool false)), none⟩,
  ⟨(some 16), .mv (.t 15), none⟩,
  ⟨(some 17), .fa 3 (.t 1), (some (16, true))⟩,
  ⟨(some 18), .load1 (.t 17), (some (16, true))⟩,
  ⟨(some 19), .call F_impl_within [(.t 18), (.c (.int .i64 1)), (.c (.int .i64 64))], (some (16, true))⟩,
  ⟨(some 20), .pick (.t 16) (.t 19) (.c (.bool false)), none⟩,
  ⟨(some 2), .mv (.t 20), none⟩]) (.ret))
def A_impl_isConf : AFun := ⟨C_impl_isConf, 21, [.tmp 2]⟩
def C_impl_ConfOk : ACode := .seq (.reg false [⟨(some 1), .box (.t 0), none⟩,
  ⟨(some 2), .mv (.c (.bool false)), none⟩]) (.seq (.reg false [⟨(some 3), .loadn 4 (.t 1), none⟩,
  ⟨(some 4), .call F_impl_isConf [(.t 3)], none⟩,
  ⟨(some 2), .mv (.t 4), none⟩]) (.ret))
def A_impl_ConfOk : AFun := ⟨C_impl_ConfOk, 5, [.tmp 2]⟩
def C_laws_FnExactConfOk : ACode := .seq (.reg false [⟨(some 1), .box (.t 0), none⟩,
  ⟨(some 2), .mv (.c (.bool false)), none⟩]) (.seq (.reg false [⟨(some 5), .loadn 4 (.t 1), none⟩,
  ⟨(some 6), .call F_laws_toConf [(.t 5)], none⟩,
  ⟨(some 7), .call F_spec_ConfOk [(.t 6)], none⟩,
  ⟨(some 3), .mv (.t 7), none⟩]) (.seq (.reg false [⟨(some 8), .loadn 4 (.t 1), none⟩,
  ⟨(some 9), .call F_laws_toConf [(.t 8)], none⟩,
  ⟨(some 10), .call F_impl_ConfOk [(.t 9)], none⟩,
  ⟨(some 4), .mv (.t 10), none⟩]) (.seq (.seq (.reg false [⟨(some 11), .mv (.t 4), none⟩,
  ⟨(some 12), .mv (.t 3), none⟩,
  ⟨(some 13), .beq true (.t 11) (.t 12), none⟩]) (.cond (.t 13) (.seq (.reg false [⟨(some 2), .mv (.c (.bool false)), none⟩]) (.ret)) (.skip))) (.seq (.reg false [⟨(some 2), .mv (.c (.bool true)), none⟩]) (.ret)))))
def A_laws_FnExactConfOk : AFun := ⟨C_laws_FnExactConfOk, 14, [.tmp 2]⟩
end GoAm
