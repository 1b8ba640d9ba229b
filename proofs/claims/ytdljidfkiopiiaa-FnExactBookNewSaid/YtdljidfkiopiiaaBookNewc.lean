/- The code that the law reaches, for the abstract machine: printed by a program. -/
import Derived.Test.YtdljidfkiopiiaaAmDef
set_option autoImplicit false
set_option linter.unusedVariables false
set_option linter.unusedSimpArgs false
namespace GoAm
open Go
def F_laws_toConf : Go.FuncId := 15
def F_spec_l16Log : Go.FuncId := 52
def F_spec_ConfOk : Go.FuncId := 14
def F_spec_BookNew : Go.FuncId := 35
def F_impl_within : Go.FuncId := 62
def F_impl_isDeepLog : Go.FuncId := 55
def F_impl_isConf : Go.FuncId := 53
def F_impl_BookNew : Go.FuncId := 36
def F_laws_eqConf : Go.FuncId := 72
def F_laws_eqEntry : Go.FuncId := 91
def F_laws_eqEntryS : Go.FuncId := 73
def F_laws_eqBook : Go.FuncId := 37
def F_laws_markText : Go.FuncId := 92
def F_laws_markEntryS : Go.FuncId := 74
def F_laws_markBook : Go.FuncId := 38
def F_laws_heldEntryS : Go.FuncId := 75
def F_laws_heldBook : Go.FuncId := 39
def F_laws_FnExactBookNew : Go.FuncId := 10
def C_laws_toConf : ACode := .seq (.reg false [⟨(some 1), .box (.t 0), none⟩,
  ⟨(some 2), .new [(.int .i64 0), (.int .i64 0), (.int .i64 0), (.int .i64 0)], none⟩]) (.seq (.reg false [⟨(some 3), .new [(.int .i64 0), (.int .i64 0), (.int .i64 0), (.int .i64 0)], none⟩]) (.seq (.reg false [⟨(some 4), .fa 0 (.t 1), none⟩,
  ⟨(some 5), .load1 (.t 4), none⟩,
  ⟨(some 6), .fa 0 (.t 3), none⟩,
  ⟨none, .store 1 (.t 6) (.t 5), none⟩]) (.seq (.reg false [⟨(some 7), .fa 1 (.t 1), none⟩,
  ⟨(some 8), .load1 (.t 7), none⟩,
  ⟨(some 9), .fa 1 (.t 3), none⟩,
  ⟨none, .store 1 (.t 9) (.t 8), none⟩]) (.seq (.reg false [⟨(some 10), .fa 2 (.t 1), none⟩,
  ⟨(some 11), .load1 (.t 10), none⟩,
  ⟨(some 12), .fa 2 (.t 3), none⟩,
  ⟨none, .store 1 (.t 12) (.t 11), none⟩]) (.seq (.reg false [⟨(some 13), .fa 3 (.t 1), none⟩,
  ⟨(some 14), .load1 (.t 13), none⟩,
  ⟨(some 15), .fa 3 (.t 3), none⟩,
  ⟨none, .store 1 (.t 15) (.t 14), none⟩]) (.seq (.reg false [⟨(some 16), .loadn 4 (.t 3), none⟩,
  ⟨none, .store 4 (.t 2) (.t 16), none⟩]) (.ret)))))))
def A_laws_toConf : AFun := ⟨C_laws_toConf, 17, [.celln 2 4]⟩
def C_spec_l16Log : ACode := .seq (.reg false [⟨(some 2), .mv (.c (.bool false)), none⟩]) (.seq (.reg false [⟨(some 3), .mv (.t 0), none⟩,
  ⟨(some 4), .bin .geq (.t 3) (.c (.int .i64 2)), none⟩,
  ⟨(some 5), .mv (.t 4), none⟩,
  ⟨(some 6), .mv (.t 0), (some (5, true))⟩,
  ⟨(some 7), .bin .leq (.t 6) (.c (.int .i64 6)), (some (5, true))⟩,
  ⟨(some 8), .pick (.t 5) (.t 7) (.c (.bool false)), none⟩,
  ⟨(some 2), .mv (.t 8), none⟩]) (.ret))
def A_spec_l16Log : AFun := ⟨C_spec_l16Log, 9, [.tmp 2]⟩
def C_spec_ConfOk : ACode := .seq (.reg false [⟨(some 1), .box (.t 0), none⟩,
  ⟨(some 2), .mv (.c (.bool false)), none⟩]) (.seq (.reg false [⟨(some 3), .fa 0 (.t 1), none⟩,
  ⟨(some 4), .load1 (.t 3), none⟩,
  ⟨(some 5), .bin .geq (.t 4) (.c (.int .i64 0)), none⟩,
  ⟨(some 6), .mv (.t 5), none⟩,
  ⟨(some 7), .fa 0 (.t 1), (some (6, true))⟩,
  ⟨(some 8), .load1 (.t 7), (some (6, true))⟩,
  ⟨(some 9), .bin .leq (.t 8) (.c (.int .i64 4294967295)), (some (6, true))⟩,
  ⟨(some 10), .pick (.t 6) (.t 9) (.c (.bool false)), none⟩,
  ⟨(some 11), .mv (.t 10), none⟩,
  ⟨(some 12), .fa 1 (.t 1), (some (11, true))⟩,
  ⟨(some 13), .load1 (.t 12), (some (11, true))⟩,
  ⟨(some 14), .call F_spec_l16Log [(.t 13)], (some (11, true))⟩,
  ⟨(some 15), .pick (.t 11) (.t 14) (.c (.bool false)), none⟩,
  ⟨(some 16), .mv (.t 15), none⟩,
  ⟨(some 17), .fa 2 (.t 1), (some (16, true))⟩,
  ⟨(some 18), .load1 (.t 17), (some (16, true))⟩,
  ⟨(some 19), .bin .geq (.t 18) (.c (.int .i64 0)), (some (16, true))⟩,
  ⟨(some 20), .pick (.t 16) (.t 19) (.c (.bool false)), none⟩,
  ⟨(some 21), .mv (.t 20), none⟩,
  ⟨(some 22), .fa 2 (.t 1), (some (21, true))⟩,
  ⟨(some 23), .load1 (.t 22), (some (21, true))⟩,
  ⟨(some 24), .bin .leq (.t 23) (.c (.int .i64 64)), (some (21, true))⟩,
  ⟨(some 25), .pick (.t 21) (.t 24) (.c (.bool false)), none⟩,
  ⟨(some 26), .mv (.t 25), none⟩,
  ⟨(some 27), .fa 3 (.t 1), (some (26, true))⟩,
  ⟨(some 28), .load1 (.t 27), (some (26, true))⟩,
  ⟨(some 29), .bin .geq (.t 28) (.c (.int .i64 1)), (some (26, true))⟩,
  ⟨(some 30), .pick (.t 26) (.t 29) (.c (.bool false)), none⟩,
  ⟨(some 31), .mv (.t 30), none⟩,
  ⟨(some 32), .fa 3 (.t 1), (some (31, true))⟩,
  ⟨(some 33), .load1 (.t 32), (some (31, true))⟩,
  ⟨(some 34), .bin .leq (.t 33) (.c (.int .i64 64)), (some (31, true))⟩,
  ⟨(some 35), .pick (.t 31) (.t 34) (.c (.bool false)), none⟩,
  ⟨(some 2), .mv (.t 35), none⟩]) (.ret))
def A_spec_ConfOk : AFun := ⟨C_spec_ConfOk, 36, [.tmp 2]⟩
def C_spec_BookNew : ACode := .seq (.reg false [⟨(some 1), .box (.t 0), none⟩,
  ⟨(some 2), .new [(.int .i64 0), (.int .i64 0), (.int .i64 0), (.int .i64 0), (.slice none 0 0)], none⟩]) (.seq (.seq (.reg false [⟨(some 3), .loadn 4 (.t 1), none⟩,
  ⟨(some 4), .call F_spec_ConfOk [(.t 3)], none⟩,
  ⟨(some 5), .not (.t 4), none⟩]) (.cond (.t 5) (.seq (.reg false [⟨(some 6), .build [(.int .i64 0), (.int .i64 0), (.int .i64 0), (.int .i64 0), (.slice none 0 0)] [], none⟩,
  ⟨none, .store 5 (.t 2) (.t 6), none⟩]) (.ret)) (.skip))) (.seq (.reg false [⟨(some 7), .loadn 4 (.t 1), none⟩,
  ⟨(some 8), .build [(.int .i64 0), (.int .i64 0), (.int .i64 0), (.int .i64 0), (.slice none 0 0)] [(0, 4, (.t 7))], none⟩,
  ⟨none, .store 5 (.t 2) (.t 8), none⟩]) (.ret)))
def A_spec_BookNew : AFun := ⟨C_spec_BookNew, 9, [.celln 2 5]⟩
def C_impl_within : ACode := .seq (.reg false [⟨(some 6), .mv (.c (.bool false)), none⟩]) (.seq (.reg false [⟨(some 7), .mv (.t 0), none⟩,
  ⟨(some 8), .mv (.t 1), none⟩,
  ⟨(some 9), .bin .geq (.t 7) (.t 8), none⟩,
  ⟨(some 10), .mv (.t 9), none⟩,
  ⟨(some 11), .mv (.t 0), (some (10, true))⟩,
  ⟨(some 12), .mv (.t 2), (some (10, true))⟩,
  ⟨(some 13), .bin .leq (.t 11) (.t 12), (some (10, true))⟩,
  ⟨(some 14), .pick (.t 10) (.t 13) (.c (.bool false)), none⟩,
  ⟨(some 6), .mv (.t 14), none⟩]) (.ret))
def A_impl_within : AFun := ⟨C_impl_within, 15, [.tmp 6]⟩
def C_impl_isDeepLog : ACode := .seq (.reg false [⟨(some 2), .mv (.c (.bool false)), none⟩]) (.seq (.reg false [⟨(some 3), .mv (.t 0), none⟩,
  ⟨(some 4), .call F_impl_within [(.t 3), (.c (.int .i64 2)), (.c (.int .i64 6))], none⟩,
  ⟨(some 2), .mv (.t 4), none⟩]) (.ret))
def A_impl_isDeepLog : AFun := ⟨C_impl_isDeepLog, 5, [.tmp 2]⟩
def C_impl_isConf : ACode := .seq (.reg false [⟨(some 1), .box (.t 0), none⟩,
  ⟨(some 2), .mv (.c (.bool false)), none⟩]) (.seq (.reg false [⟨(some 3), .fa 0 (.t 1), none⟩,
  ⟨(some 4), .load1 (.t 3), none⟩,
  ⟨(some 5), .call F_impl_within [(.t 4), (.c (.int .i64 0)), (.c (.int .i64 4294967295))], none⟩,
  ⟨(some 6), .mv (.t 5), none⟩,
  ⟨(some 7), .fa 1 (.t 1), (some (6, true))⟩,
  ⟨(some 8), .load1 (.t 7), (some (6, true))⟩,
  ⟨(some 9), .call F_impl_isDeepLog [(.t 8)], (some (6, true))⟩,
  ⟨(some 10), .pick (.t 6) (.t 9) (.c (.bool false)), none⟩,
  ⟨(some 11), .mv (.t 10), none⟩,
  ⟨(some 12), .fa 2 (.t 1), (some (11, true))⟩,
  ⟨(some 13), .load1 (.t 12), (some (11, true))⟩,
  ⟨(some 14), .call F_impl_within [(.t 13), (.c (.int .i64 0)), (.c (.int .i64 64))], (some (11, true))⟩,
  ⟨(some 15), .pick (.t 11) (.t 14) (.c (.bool false)), none⟩,
  ⟨(some 16), .mv (.t 15), none⟩,
  ⟨(some 17), .fa 3 (.t 1), (some (16, true))⟩,
  ⟨(some 18), .load1 (.t 17), (some (16, true))⟩,
  ⟨(some 19), .call F_impl_within [(.t 18), (.c (.int .i64 1)), (.c (.int .i64 64))], (some (16, true))⟩,
  ⟨(some 20), .pick (.t 16) (.t 19) (.c (.bool false)), none⟩,
  ⟨(some 2), .mv (.t 20), none⟩]) (.ret))
def A_impl_isConf : AFun := ⟨C_impl_isConf, 21, [.tmp 2]⟩
def C_impl_BookNew : ACode := .seq (.reg false [⟨(some 1), .box (.t 0), none⟩,
  ⟨(some 2), .new [(.int .i64 0), (.int .i64 0), (.int .i64 0), (.int .i64 0), (.slice none 0 0)], none⟩]) (.seq (.seq (.reg false [⟨(some 3), .loadn 4 (.t 1), none⟩,
  ⟨(some 4), .call F_impl_isConf [(.t 3)], none⟩,
  ⟨(some 5), .not (.t 4), none⟩]) (.cond (.t 5) (.seq (.reg false [⟨(some 6), .build [(.int .i64 0), (.int .i64 0), (.int .i64 0), (.int .i64 0), (.slice none 0 0)] [], none⟩,
  ⟨none, .store 5 (.t 2) (.t 6), none⟩]) (.ret)) (.skip))) (.seq (.reg false [⟨(some 7), .loadn 4 (.t 1), none⟩,
  ⟨(some 8), .build [(.int .i64 0), (.int .i64 0), (.int .i64 0), (.int .i64 0), (.slice none 0 0)] [(0, 4, (.t 7))], none⟩,
  ⟨none, .store 5 (.t 2) (.t 8), none⟩]) (.ret)))
def A_impl_BookNew : AFun := ⟨C_impl_BookNew, 9, [.celln 2 5]⟩
def C_laws_eqConf : ACode := .seq (.reg false [⟨(some 2), .box (.t 0), none⟩,
  ⟨(some 3), .box (.t 1), none⟩,
  ⟨(some 4), .mv (.c (.bool false)), none⟩]) (.seq (.seq (.reg false [⟨(some 5), .fa 0 (.t 2), none⟩,
  ⟨(some 6), .load1 (.t 5), none⟩,
  ⟨(some 7), .fa 0 (.t 3), none⟩,
  ⟨(some 8), .load1 (.t 7), none⟩,
  ⟨(some 9), .bin .neq (.t 6) (.t 8), none⟩]) (.cond (.t 9) (.seq (.reg false [⟨(some 4), .mv (.c (.bool false)), none⟩]) (.ret)) (.skip))) (.seq (.seq (.reg false [⟨(some 10), .fa 1 (.t 2), none⟩,
  ⟨(some 11), .load1 (.t 10), none⟩,
  ⟨(some 12), .fa 1 (.t 3), none⟩,
  ⟨(some 13), .load1 (.t 12), none⟩,
  ⟨(some 14), .bin .neq (.t 11) (.t 13), none⟩]) (.cond (.t 14) (.seq (.reg false [⟨(some 4), .mv (.c (.bool false)), none⟩]) (.ret)) (.skip))) (.seq (.seq (.reg false [⟨(some 15), .fa 2 (.t 2), none⟩,
  ⟨(some 16), .load1 (.t 15), none⟩,
  ⟨(some 17), .fa 2 (.t 3), none⟩,
  ⟨(some 18), .load1 (.t 17), none⟩,
  ⟨(some 19), .bin .neq (.t 16) (.t 18), none⟩]) (.cond (.t 19) (.seq (.reg false [⟨(some 4), .mv (.c (.bool false)), none⟩]) (.ret)) (.skip))) (.seq (.seq (.reg false [⟨(some 20), .fa 3 (.t 2), none⟩,
  ⟨(some 21), .load1 (.t 20), none⟩,
  ⟨(some 22), .fa 3 (.t 3), none⟩,
  ⟨(some 23), .load1 (.t 22), none⟩,
  ⟨(some 24), .bin .neq (.t 21) (.t 23), none⟩]) (.cond (.t 24) (.seq (.reg false [⟨(some 4), .mv (.c (.bool false)), none⟩]) (.ret)) (.skip))) (.seq (.reg false [⟨(some 4), .mv (.c (.bool true)), none⟩]) (.ret))))))
def A_laws_eqConf : AFun := ⟨C_laws_eqConf, 25, [.tmp 4]⟩
def C_laws_eqEntry : ACode := .seq (.reg false [⟨(some 2), .box (.t 0), none⟩,
  ⟨(some 3), .box (.t 1), none⟩,
  ⟨(some 4), .mv (.c (.bool false)), none⟩]) (.seq (.seq (.reg false [⟨(some 5), .fa 0 (.t 2), none⟩,
  ⟨(some 6), .load1 (.t 5), none⟩,
  ⟨(some 7), .fa 0 (.t 3), none⟩,
  ⟨(some 8), .load1 (.t 7), none⟩,
  ⟨(some 9), .bin .neq (.t 6) (.t 8), none⟩]) (.cond (.t 9) (.seq (.reg false [⟨(some 4), .mv (.c (.bool false)), none⟩]) (.ret)) (.skip))) (.seq (.seq (.reg false [⟨(some 10), .fa 1 (.t 2), none⟩,
  ⟨(some 11), .load1 (.t 10), none⟩,
  ⟨(some 12), .fa 1 (.t 3), none⟩,
  ⟨(some 13), .load1 (.t 12), none⟩,
  ⟨(some 14), .bin .neq (.t 11) (.t 13), none⟩]) (.cond (.t 14) (.seq (.reg false [⟨(some 4), .mv (.c (.bool false)), none⟩]) (.ret)) (.skip))) (.seq (.reg false [⟨(some 4), .mv (.c (.bool true)), none⟩]) (.ret))))
def A_laws_eqEntry : AFun := ⟨C_laws_eqEntry, 15, [.tmp 4]⟩
def K_laws_eqEntryS_0 : List Bool := [true, true, false, false, false, true, false, false, false, false, false, false, false, false, false, false, false, false, false, false, false, false, false, false, false, false, false]
def B_laws_eqEntryS_0 : ACode := .seq (.seq (.reg false [⟨(some 11), .mv (.t 5), none⟩,
  ⟨(some 12), .mv (.t 0), none⟩,
  ⟨(some 13), .len (.t 12), none⟩,
  ⟨(some 14), .bin .lss (.t 11) (.t 13), none⟩]) (.cond (.t 14) (.skip) (.exit 0))) (.seq (.block 1 (.seq (.reg true [⟨(some 17), .mv (.t 0), none⟩,
  ⟨(some 18), .mv (.t 5), none⟩,
  ⟨(some 19), .ia 2 (.t 17) (.t 18), none⟩,
  ⟨(some 20), .loadn 2 (.t 19), none⟩,
  ⟨(some 21), .mv (.t 1), none⟩,
  ⟨(some 22), .mv (.t 5), none⟩,
  ⟨(some 23), .ia 2 (.t 21) (.t 22), none⟩,
  ⟨(some 24), .loadn 2 (.t 23), none⟩,
  ⟨(some 25), .call F_laws_eqEntry [(.t 20), (.t 24)], none⟩,
  ⟨(some 26), .not (.t 25), none⟩]) (.cond (.t 26) (.seq (.reg false [⟨(some 4), .mv (.c (.bool false)), none⟩]) (.ret)) (.skip)))) (.reg false [⟨(some 15), .mv (.t 5), none⟩,
  ⟨(some 16), .bin .add (.t 15) (.c (.int .i64 1)), none⟩,
  ⟨(some 5), .mv (.t 16), none⟩]))
def L_laws_eqEntryS_0 : ACode := B_laws_eqEntryS_0
def C_laws_eqEntryS : ACode := .seq (.reg false [⟨(some 4), .mv (.c (.bool false)), none⟩]) (.seq (.seq (.reg false [⟨(some 6), .mv (.t 0), none⟩,
  ⟨(some 7), .len (.t 6), none⟩,
  ⟨(some 8), .mv (.t 1), none⟩,
  ⟨(some 9), .len (.t 8), none⟩,
  ⟨(some 10), .bin .neq (.t 7) (.t 9), none⟩]) (.cond (.t 10) (.seq (.reg false [⟨(some 4), .mv (.c (.bool false)), none⟩]) (.ret)) (.skip))) (.seq (.seq (.reg false [⟨(some 5), .mv (.c (.int .i64 0)), none⟩]) (.block 0 (.loop K_laws_eqEntryS_0 L_laws_eqEntryS_0))) (.seq (.reg false [⟨(some 4), .mv (.c (.bool true)), none⟩]) (.ret))))
def A_laws_eqEntryS : AFun := ⟨C_laws_eqEntryS, 27, [.tmp 4]⟩
def C_laws_eqBook : ACode := .seq (.reg false [⟨(some 2), .box (.t 0), none⟩,
  ⟨(some 3), .box (.t 1), none⟩,
  ⟨(some 4), .mv (.c (.bool false)), none⟩]) (.seq (.seq (.reg false [⟨(some 5), .fa 0 (.t 2), none⟩,
  ⟨(some 6), .loadn 4 (.t 5), none⟩,
  ⟨(some 7), .fa 0 (.t 3), none⟩,
  ⟨(some 8), .loadn 4 (.t 7), none⟩,
  ⟨(some 9), .call F_laws_eqConf [(.t 6), (.t 8)], none⟩,
  ⟨(some 10), .not (.t 9), none⟩]) (.cond (.t 10) (.seq (.reg false [⟨(some 4), .mv (.c (.bool false)), none⟩]) (.ret)) (.skip))) (.seq (.seq (.reg false [⟨(some 11), .fa 4 (.t 2), none⟩,
  ⟨(some 12), .load1 (.t 11), none⟩,
  ⟨(some 13), .fa 4 (.t 3), none⟩,
  ⟨(some 14), .load1 (.t 13), none⟩,
  ⟨(some 15), .call F_laws_eqEntryS [(.t 12), (.t 14)], none⟩,
  ⟨(some 16), .not (.t 15), none⟩]) (.cond (.t 16) (.seq (.reg false [⟨(some 4), .mv (.c (.bool false)), none⟩]) (.ret)) (.skip))) (.seq (.reg false [⟨(some 4), .mv (.c (.bool true)), none⟩]) (.ret))))
def A_laws_eqBook : AFun := ⟨C_laws_eqBook, 17, [.tmp 4]⟩
def K_laws_markText_0 : List Bool := [true, false, false, true, false, false, false, false, false, false, false, false, false, false, false, false, false, false, false, false]
def B_laws_markText_0 : ACode := .seq (.seq (.reg false [⟨(some 6), .mv (.t 0), none⟩,
  ⟨(some 7), .bin .gtr (.t 6) (.c (.int .i64 0)), none⟩]) (.cond (.t 7) (.skip) (.exit 0))) (.block 1 (.seq (.reg false [⟨(some 8), .mv (.t 0), none⟩,
  ⟨(some 9), .bin .rem (.t 8) (.c (.int .i64 10)), none⟩,
  ⟨(some 10), .bin .add (.c (.int .i64 48)) (.t 9), none⟩,
  ⟨(some 11), .conv .u8 (.t 10), none⟩,
  ⟨(some 12), .mkl 1 1 [(.int .u8 0)] [(0, 1, (.t 11))], none⟩,
  ⟨(some 13), .bts (.t 12), none⟩,
  ⟨(some 14), .mv (.t 3), none⟩,
  ⟨(some 15), .bin .add (.t 13) (.t 14), none⟩,
  ⟨(some 3), .mv (.t 15), none⟩]) (.reg false [⟨(some 16), .mv (.t 0), none⟩,
  ⟨(some 17), .bin .quo (.t 16) (.c (.int .i64 10)), none⟩,
  ⟨(some 0), .mv (.t 17), none⟩])))
def L_laws_markText_0 : ACode := B_laws_markText_0
def C_laws_markText : ACode := .seq (.reg false [⟨(some 2), .mv (.c (.string ⟨#[]⟩)), none⟩]) (.seq (.seq (.reg false [⟨(some 4), .mv (.t 0), none⟩,
  ⟨(some 5), .bin .leq (.t 4) (.c (.int .i64 0)), none⟩]) (.cond (.t 5) (.seq (.reg false [⟨(some 2), .mv (.c (.string ⟨#[109, 48]⟩)), none⟩]) (.ret)) (.skip))) (.seq (.reg false [⟨(some 3), .mv (.c (.string ⟨#[]⟩)), none⟩]) (.seq (.block 0 (.loop K_laws_markText_0 L_laws_markText_0)) (.seq (.reg false [⟨(some 18), .mv (.t 3), none⟩,
  ⟨(some 19), .bin .add (.c (.string ⟨#[109]⟩)) (.t 18), none⟩,
  ⟨(some 2), .mv (.t 19), none⟩]) (.ret)))))
def A_laws_markText : AFun := ⟨C_laws_markText, 20, [.tmp 2]⟩
def K_laws_markEntryS_0 : List Bool := [true, true, false, false, false, true, false, false, false, false, false, false, false, false, false, false, false, false, false, false, false, false, false, false, false, false, false, false]
def B_laws_markEntryS_0 : ACode := .seq (.seq (.reg false [⟨(some 6), .mv (.t 5), none⟩,
  ⟨(some 7), .mv (.t 0), none⟩,
  ⟨(some 8), .len (.t 7), none⟩,
  ⟨(some 9), .bin .lss (.t 6) (.t 8), none⟩]) (.cond (.t 9) (.skip) (.exit 0))) (.seq (.block 1 (.seq (.reg false [⟨(some 12), .mv (.t 0), none⟩,
  ⟨(some 13), .mv (.t 5), none⟩,
  ⟨(some 14), .mv (.t 1), none⟩,
  ⟨(some 15), .call F_laws_markText [(.t 14)], none⟩,
  ⟨(some 16), .ia 2 (.t 12) (.t 13), none⟩,
  ⟨(some 17), .fa 0 (.t 16), none⟩,
  ⟨none, .store 1 (.t 17) (.t 15), none⟩]) (.seq (.reg false [⟨(some 18), .mv (.t 1), none⟩,
  ⟨(some 19), .bin .add (.t 18) (.c (.int .i64 1)), none⟩,
  ⟨(some 1), .mv (.t 19), none⟩]) (.seq (.reg false [⟨(some 20), .mv (.t 0), none⟩,
  ⟨(some 21), .mv (.t 5), none⟩,
  ⟨(some 22), .mv (.t 1), none⟩,
  ⟨(some 23), .ia 2 (.t 20) (.t 21), none⟩,
  ⟨(some 24), .fa 1 (.t 23), none⟩,
  ⟨none, .store 1 (.t 24) (.t 22), none⟩]) (.reg false [⟨(some 25), .mv (.t 1), none⟩,
  ⟨(some 26), .bin .add (.t 25) (.c (.int .i64 1)), none⟩,
  ⟨(some 1), .mv (.t 26), none⟩]))))) (.reg false [⟨(some 10), .mv (.t 5), none⟩,
  ⟨(some 11), .bin .add (.t 10) (.c (.int .i64 1)), none⟩,
  ⟨(some 5), .mv (.t 11), none⟩]))
def L_laws_markEntryS_0 : ACode := B_laws_markEntryS_0
def C_laws_markEntryS : ACode := .seq (.reg false [⟨(some 4), .mv (.c (.int .i64 0)), none⟩]) (.seq (.seq (.reg false [⟨(some 5), .mv (.c (.int .i64 0)), none⟩]) (.block 0 (.loop K_laws_markEntryS_0 L_laws_markEntryS_0))) (.seq (.reg false [⟨(some 27), .mv (.t 1), none⟩,
  ⟨(some 4), .mv (.t 27), none⟩]) (.ret)))
def A_laws_markEntryS : AFun := ⟨C_laws_markEntryS, 28, [.tmp 4]⟩
def C_laws_markBook : ACode := .seq (.reg false [⟨(some 2), .box (.t 0), none⟩,
  ⟨(some 4), .mv (.c (.int .i64 0)), none⟩]) (.seq (.reg false [⟨(some 5), .fa 4 (.t 2), none⟩,
  ⟨(some 6), .load1 (.t 5), none⟩,
  ⟨(some 7), .mv (.t 1), none⟩,
  ⟨(some 8), .call F_laws_markEntryS [(.t 6), (.t 7)], none⟩,
  ⟨(some 1), .mv (.t 8), none⟩]) (.seq (.reg false [⟨(some 9), .mv (.t 1), none⟩,
  ⟨(some 4), .mv (.t 9), none⟩]) (.ret)))
def A_laws_markBook : AFun := ⟨C_laws_markBook, 10, [.tmp 4]⟩
def K_laws_heldEntryS_0 : List Bool := [true, true, false, false, false, true, false, false, false, false, false, false, false, false, false, false, false, false, false, false, false, false, false, false, false, false, false, false, false, false, false, false]
def B_laws_heldEntryS_0 : ACode := .seq (.seq (.reg false [⟨(some 6), .mv (.t 5), none⟩,
  ⟨(some 7), .mv (.t 0), none⟩,
  ⟨(some 8), .len (.t 7), none⟩,
  ⟨(some 9), .bin .lss (.t 6) (.t 8), none⟩]) (.cond (.t 9) (.skip) (.exit 0))) (.seq (.block 1 (.seq (.seq (.reg true [⟨(some 12), .mv (.t 0), none⟩,
  ⟨(some 13), .mv (.t 5), none⟩,
  ⟨(some 14), .ia 2 (.t 12) (.t 13), none⟩,
  ⟨(some 15), .fa 0 (.t 14), none⟩,
  ⟨(some 16), .load1 (.t 15), none⟩,
  ⟨(some 17), .mv (.t 1), none⟩,
  ⟨(some 18), .call F_laws_markText [(.t 17)], none⟩,
  ⟨(some 19), .bin .neq (.t 16) (.t 18), none⟩]) (.cond (.t 19) (.seq (.reg false [⟨(some 4), .mv (.c (.int .i64 (-1))), none⟩]) (.ret)) (.skip))) (.seq (.reg false [⟨(some 20), .mv (.t 1), none⟩,
  ⟨(some 21), .bin .add (.t 20) (.c (.int .i64 1)), none⟩,
  ⟨(some 1), .mv (.t 21), none⟩]) (.seq (.seq (.reg false [⟨(some 22), .mv (.t 0), none⟩,
  ⟨(some 23), .mv (.t 5), none⟩,
  ⟨(some 24), .ia 2 (.t 22) (.t 23), none⟩,
  ⟨(some 25), .fa 1 (.t 24), none⟩,
  ⟨(some 26), .load1 (.t 25), none⟩,
  ⟨(some 27), .mv (.t 1), none⟩,
  ⟨(some 28), .bin .neq (.t 26) (.t 27), none⟩]) (.cond (.t 28) (.seq (.reg false [⟨(some 4), .mv (.c (.int .i64 (-1))), none⟩]) (.ret)) (.skip))) (.reg false [⟨(some 29), .mv (.t 1), none⟩,
  ⟨(some 30), .bin .add (.t 29) (.c (.int .i64 1)), none⟩,
  ⟨(some 1), .mv (.t 30), none⟩]))))) (.reg false [⟨(some 10), .mv (.t 5), none⟩,
  ⟨(some 11), .bin .add (.t 10) (.c (.int .i64 1)), none⟩,
  ⟨(some 5), .mv (.t 11), none⟩]))
def L_laws_heldEntryS_0 : ACode := B_laws_heldEntryS_0
def C_laws_heldEntryS : ACode := .seq (.reg false [⟨(some 4), .mv (.c (.int .i64 0)), none⟩]) (.seq (.seq (.reg false [⟨(some 5), .mv (.c (.int .i64 0)), none⟩]) (.block 0 (.loop K_laws_heldEntryS_0 L_laws_heldEntryS_0))) (.seq (.reg false [⟨(some 31), .mv (.t 1), none⟩,
  ⟨(some 4), .mv (.t 31), none⟩]) (.ret)))
def A_laws_heldEntryS : AFun := ⟨C_laws_heldEntryS, 32, [.tmp 4]⟩
def C_laws_heldBook : ACode := .seq (.reg false [⟨(some 2), .box (.t 0), none⟩,
  ⟨(some 4), .mv (.c (.int .i64 0)), none⟩]) (.seq (.reg false [⟨(some 5), .fa 4 (.t 2), none⟩,
  ⟨(some 6), .load1 (.t 5), none⟩,
  ⟨(some 7), .mv (.t 1), none⟩,
  ⟨(some 8), .call F_laws_heldEntryS [(.t 6), (.t 7)], none⟩,
  ⟨(some 1), .mv (.t 8), none⟩]) (.seq (.seq (.reg false [⟨(some 9), .mv (.t 1), none⟩,
  ⟨(some 10), .bin .lss (.t 9) (.c (.int .i64 0)), none⟩]) (.cond (.t 10) (.seq (.reg false [⟨(some 4), .mv (.c (.int .i64 (-1))), none⟩]) (.ret)) (.skip))) (.seq (.reg false [⟨(some 11), .mv (.t 1), none⟩,
  ⟨(some 4), .mv (.t 11), none⟩]) (.ret))))
def A_laws_heldBook : AFun := ⟨C_laws_heldBook, 12, [.tmp 4]⟩
def C_laws_FnExactBookNew : ACode := .seq (.reg false [⟨(some 1), .box (.t 0), none⟩,
  ⟨(some 2), .mv (.c (.bool false)), none⟩]) (.seq (.reg false [⟨(some 8), .loadn 4 (.t 1), none⟩,
  ⟨(some 9), .call F_laws_toConf [(.t 8)], none⟩,
  ⟨(some 10), .call F_spec_BookNew [(.t 9)], none⟩,
  ⟨(some 3), .new [(.int .i64 0), (.int .i64 0), (.int .i64 0), (.int .i64 0), (.slice none 0 0)], none⟩,
  ⟨none, .store 5 (.t 3) (.t 10), none⟩]) (.seq (.reg false [⟨(some 11), .loadn 4 (.t 1), none⟩,
  ⟨(some 12), .call F_laws_toConf [(.t 11)], none⟩,
  ⟨(some 13), .call F_impl_BookNew [(.t 12)], none⟩,
  ⟨(some 4), .new [(.int .i64 0), (.int .i64 0), (.int .i64 0), (.int .i64 0), (.slice none 0 0)], none⟩,
  ⟨none, .store 5 (.t 4) (.t 13), none⟩]) (.seq (.seq (.reg false [⟨(some 14), .loadn 5 (.t 4), none⟩,
  ⟨(some 15), .loadn 5 (.t 3), none⟩,
  ⟨(some 16), .call F_laws_eqBook [(.t 14), (.t 15)], none⟩,
  ⟨(some 17), .not (.t 16), none⟩]) (.cond (.t 17) (.seq (.reg false [⟨(some 2), .mv (.c (.bool false)), none⟩]) (.ret)) (.skip))) (.seq (.reg false [⟨(some 5), .mv (.c (.int .i64 1)), none⟩]) (.seq (.reg false [⟨(some 18), .loadn 5 (.t 4), none⟩,
  ⟨(some 19), .mv (.t 5), none⟩,
  ⟨(some 20), .call F_laws_markBook [(.t 18), (.t 19)], none⟩,
  ⟨(some 5), .mv (.t 20), none⟩]) (.seq (.reg false [⟨(some 6), .mv (.c (.int .i64 1)), none⟩]) (.seq (.reg false [⟨(some 21), .loadn 5 (.t 4), none⟩,
  ⟨(some 22), .mv (.t 6), none⟩,
  ⟨(some 23), .call F_laws_heldBook [(.t 21), (.t 22)], none⟩,
  ⟨(some 6), .mv (.t 23), none⟩]) (.seq (.seq (.reg false [⟨(some 24), .mv (.t 6), none⟩,
  ⟨(some 25), .bin .lss (.t 24) (.c (.int .i64 0)), none⟩]) (.cond (.t 25) (.seq (.reg false [⟨(some 2), .mv (.c (.bool false)), none⟩]) (.ret)) (.skip))) (.seq (.seq (.reg false [⟨(some 26), .mv (.t 6), none⟩,
  ⟨(some 27), .mv (.t 5), none⟩,
  ⟨(some 28), .bin .neq (.t 26) (.t 27), none⟩]) (.cond (.t 28) (.seq (.reg false [⟨(some 2), .mv (.c (.bool false)), none⟩]) (.ret)) (.skip))) (.seq (.reg false [⟨(some 29), .loadn 4 (.t 1), none⟩,
  ⟨(some 30), .call F_laws_toConf [(.t 29)], none⟩,
  ⟨(some 31), .call F_impl_BookNew [(.t 30)], none⟩,
  ⟨(some 7), .new [(.int .i64 0), (.int .i64 0), (.int .i64 0), (.int .i64 0), (.slice none 0 0)], none⟩,
  ⟨none, .store 5 (.t 7) (.t 31), none⟩]) (.seq (.seq (.reg false [⟨(some 32), .loadn 5 (.t 7), none⟩,
  ⟨(some 33), .loadn 5 (.t 3), none⟩,
  ⟨(some 34), .call F_laws_eqBook [(.t 32), (.t 33)], none⟩,
  ⟨(some 35), .not (.t 34), none⟩]) (.cond (.t 35) (.seq (.reg false [⟨(some 2), .mv (.c (.bool false)), none⟩]) (.ret)) (.skip))) (.seq (.reg false [⟨(some 6), .mv (.c (.int .i64 1)), none⟩]) (.seq (.reg false [⟨(some 36), .loadn 5 (.t 4), none⟩,
  ⟨(some 37), .mv (.t 6), none⟩,
  ⟨(some 38), .call F_laws_heldBook [(.t 36), (.t 37)], none⟩,
  ⟨(some 6), .mv (.t 38), none⟩]) (.seq (.seq (.reg false [⟨(some 39), .mv (.t 6), none⟩,
  ⟨(some 40), .bin .lss (.t 39) (.c (.int .i64 0)), none⟩]) (.cond (.t 40) (.seq (.reg false [⟨(some 2), .mv (.c (.bool false)), none⟩]) (.ret)) (.skip))) (.seq (.seq (.reg false [⟨(some 41), .mv (.t 6), none⟩,
  ⟨(some 42), .mv (.t 5), none⟩,
  ⟨(some 43), .bin .neq (.t 41) (.t 42), none⟩]) (.cond (.t 43) (.seq (.reg false [⟨(some 2), .mv (.c (.bool false)), none⟩]) (.ret)) (.skip))) (.seq (.reg false [⟨(some 2), .mv (.c (.bool true)), none⟩]) (.ret)))))))))))))))))
def A_laws_FnExactBookNew : AFun := ⟨C_laws_FnExactBookNew, 44, [.tmp 2]⟩
end GoAm
