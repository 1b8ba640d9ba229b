/- The code that the law reaches, for the abstract machine: printed by a program. -/
import Derived.Test.YtdljidfkiopiiaaAmDef
set_option autoImplicit false
set_option linter.unusedVariables false
set_option linter.unusedSimpArgs false
namespace GoAm
open Go
def F_spec_l16Log : Go.FuncId := 52
def F_spec_l02Pow : Go.FuncId := 54
def F_spec_DeepDraws : Go.FuncId := 17
def F_impl_within : Go.FuncId := 62
def F_impl_isDeepLog : Go.FuncId := 55
def F_impl_DeepDraws : Go.FuncId := 18
def F_laws_FnExactDeepDraws : Go.FuncId := 4
def C_spec_l16Log : ACode := .seq (.reg false [⟨(some 2), .mv (.c (.bool false)), none⟩]) (.seq (.reg false [⟨(some 3), .mv (.t 0), none⟩,
  ⟨(some 4), .bin .geq (.t 3) (.c (.int .i64 2)), none⟩,
  ⟨(some 5), .mv (.t 4), none⟩,
  ⟨(some 6), .mv (.t 0), (some (5, true))⟩,
  ⟨(some 7), .bin .leq (.t 6) (.c (.int .i64 6)), (some (5, true))⟩,
  ⟨(some 8), .pick (.t 5) (.t 7) (.c (.bool false)), none⟩,
  ⟨(some 2), .mv (.t 8), none⟩]) (.ret))
def A_spec_l16Log : AFun := ⟨C_spec_l16Log, 9, [.tmp 2]⟩
def K_spec_l02Pow_0 : List Bool := [true, false, false, true, false, false, false, false, false, false, false]
def B_spec_l02Pow_0 : ACode := .seq (.seq (.reg false [⟨(some 4), .mv (.t 0), none⟩,
  ⟨(some 5), .bin .gtr (.t 4) (.c (.int .i64 0)), none⟩]) (.cond (.t 5) (.skip) (.exit 0))) (.seq (.block 1 (.reg false [⟨(some 8), .mv (.t 3), none⟩,
  ⟨(some 9), .bin .mul (.c (.int .i64 2)) (.t 8), none⟩,
  ⟨(some 3), .mv (.t 9), none⟩])) (.reg false [⟨(some 6), .mv (.t 0), none⟩,
  ⟨(some 7), .bin .sub (.t 6) (.c (.int .i64 1)), none⟩,
  ⟨(some 0), .mv (.t 7), none⟩]))
def L_spec_l02Pow_0 : ACode := B_spec_l02Pow_0
def C_spec_l02Pow : ACode := .seq (.reg false [⟨(some 2), .mv (.c (.int .i64 0)), none⟩]) (.seq (.reg false [⟨(some 3), .mv (.c (.int .i64 1)), none⟩]) (.seq (.block 0 (.loop K_spec_l02Pow_0 L_spec_l02Pow_0)) (.seq (.reg false [⟨(some 10), .mv (.t 3), none⟩,
  ⟨(some 2), .mv (.t 10), none⟩]) (.ret))))
def A_spec_l02Pow : AFun := ⟨C_spec_l02Pow, 11, [.tmp 2]⟩
def C_spec_DeepDraws : ACode := .seq (.reg false [⟨(some 2), .mv (.c (.int .i64 0)), none⟩]) (.seq (.seq (.reg false [⟨(some 3), .mv (.t 0), none⟩,
  ⟨(some 4), .call F_spec_l16Log [(.t 3)], none⟩,
  ⟨(some 5), .not (.t 4), none⟩]) (.cond (.t 5) (.seq (.reg false [⟨(some 2), .mv (.c (.int .i64 (-1))), none⟩]) (.ret)) (.skip))) (.seq (.reg false [⟨(some 6), .mv (.t 0), none⟩,
  ⟨(some 7), .bin .sub (.t 6) (.c (.int .i64 2)), none⟩,
  ⟨(some 8), .call F_spec_l02Pow [(.t 7)], none⟩,
  ⟨(some 9), .bin .mul (.c (.int .i64 6)) (.t 8), none⟩,
  ⟨(some 2), .mv (.t 9), none⟩]) (.ret)))
def A_spec_DeepDraws : AFun := ⟨C_spec_DeepDraws, 10, [.tmp 2]⟩
def C_impl_within : ACode := .seq (.reg false [⟨(some 6), .mv (.c (.bool false)), none⟩]) (.seq (.reg false [⟨(some 7), .mv (.t 0), none⟩,
  ⟨(some 8), .mv (.t 1), none⟩,
  ⟨(some 9), .bin .geq (.t 7) (.t 8), none⟩,
  ⟨(some 10), .mv (.t 9), none⟩,
  ⟨(some 11), .mv (.t 0), (some (10, true))⟩,
  ⟨(some 12), .mv (.t 2), (some (10, true))⟩,
  ⟨(some 13), .bin .leq (.t 11) (.t 12), (some (10, true))⟩,
  ⟨(some 14), .pick (.t 10) (.t 13) (.c (.bool false)), none⟩,
  ⟨(some 6), .mv (.t 14), none⟩]) (.ret))
def A_impl_within : AFun := ⟨C_impl_within, 15, [.tmp 6]⟩
def C_impl_isDeepLog : ACode := .seq (.reg false [⟨(some 2), .mv (.c (.bool false)), none⟩]) (.seq (.reg false [⟨(some 3), .mv (.t 0), none⟩,
  ⟨(some 4), .call F_impl_within [(.t 3), (.c (.int .i64 2)), (.c (.int .i64 6))], none⟩,
  ⟨(some 2), .mv (.t 4), none⟩]) (.ret))
def A_impl_isDeepLog : AFun := ⟨C_impl_isDeepLog, 5, [.tmp 2]⟩
def C_impl_DeepDraws : ACode := .seq (.reg false [⟨(some 2), .mv (.c (.int .i64 0)), none⟩]) (.seq (.seq (.reg false [⟨(some 3), .mv (.t 0), none⟩,
  ⟨(some 4), .call F_impl_isDeepLog [(.t 3)], none⟩,
  ⟨(some 5), .not (.t 4), none⟩]) (.cond (.t 5) (.seq (.reg false [⟨(some 2), .mv (.c (.int .i64 (-1))), none⟩]) (.ret)) (.skip))) (.seq (.reg false [⟨(some 6), .mv (.t 0), none⟩,
  ⟨(some 7), .bin .sub (.t 6) (.c (.int .i64 2)), none⟩,
  ⟨(some 8), .bin .shl (.c (.int .i64 6)) (.t 7), none⟩,
  ⟨(some 2), .mv (.t 8), none⟩]) (.ret)))
def A_impl_DeepDraws : AFun := ⟨C_impl_DeepDraws, 9, [.tmp 2]⟩
def C_laws_FnExactDeepDraws : ACode := .seq (.reg false [⟨(some 2), .mv (.c (.bool false)), none⟩]) (.seq (.reg false [⟨(some 5), .mv (.t 0), none⟩,
  ⟨(some 6), .call F_spec_DeepDraws [(.t 5)], none⟩,
  ⟨(some 3), .mv (.t 6), none⟩]) (.seq (.reg false [⟨(some 7), .mv (.t 0), none⟩,
  ⟨(some 8), .call F_impl_DeepDraws [(.t 7)], none⟩,
  ⟨(some 4), .mv (.t 8), none⟩]) (.seq (.seq (.reg false [⟨(some 9), .mv (.t 4), none⟩,
  ⟨(some 10), .mv (.t 3), none⟩,
  ⟨(some 11), .bin .neq (.t 9) (.t 10), none⟩]) (.cond (.t 11) (.seq (.reg false [⟨(some 2), .mv (.c (.bool false)), none⟩]) (.ret)) (.skip))) (.seq (.reg false [⟨(some 2), .mv (.c (.bool true)), none⟩]) (.ret)))))
def A_laws_FnExactDeepDraws : AFun := ⟨C_laws_FnExactDeepDraws, 12, [.tmp 2]⟩
end GoAm
