/- The code that the law reaches, for the abstract machine: printed by a program. -/
import Derived.Test.YtcikkbcneeakiaaAmDef
set_option autoImplicit false
set_option linter.unusedVariables false
set_option linter.unusedSimpArgs false
namespace GoAm
open Go
def F_laws_szEntry : Go.FuncId := 188
def F_laws_szEntryS : Go.FuncId := 111
def F_laws_szBook : Go.FuncId := 30
def F_laws_toConf : Go.FuncId := 115
def F_laws_toEntry : Go.FuncId := 191
def F_laws_toEntryS : Go.FuncId := 116
def F_laws_toBook : Go.FuncId := 32
def F_laws_eqConf : Go.FuncId := 118
def F_laws_eqEntry : Go.FuncId := 195
def F_laws_eqEntryS : Go.FuncId := 119
def F_laws_eqBook : Go.FuncId := 34
def F_spec_WordOk : Go.FuncId := 184
def F_spec_l17Full : Go.FuncId := 101
def F_spec_l16Log : Go.FuncId := 189
def F_spec_ConfOk : Go.FuncId := 112
def F_spec_WordCmp : Go.FuncId := 113
def F_spec_l11Log : Go.FuncId := 202
def F_spec_l02Pow : Go.FuncId := 203
def F_spec_Pad : Go.FuncId := 196
def F_spec_HashWord : Go.FuncId := 246
def F_spec_ShelfFor : Go.FuncId := 190
def F_spec_l19Shelf : Go.FuncId := 114
def F_spec_BookOk : Go.FuncId := 31
def F_spec_l19At : Go.FuncId := 134
def F_spec_BookFind : Go.FuncId := 48
def F_impl_within : Go.FuncId := 129
def F_impl_isWord : Go.FuncId := 109
def F_impl_isEntry : Go.FuncId := 105
def F_impl_isDeepLog : Go.FuncId := 247
def F_impl_isConf : Go.FuncId := 192
def F_impl_pad : Go.FuncId := 249
def F_impl_hashWord : Go.FuncId := 248
def F_impl_shelfFor : Go.FuncId := 193
def F_slices_Max_int_int : Go.FuncId := 194
def F_impl_isBook : Go.FuncId := 117
def F_slices_BinarySearchFunc_impl_Entry_impl_Entry_string : Go.FuncId := 212
def F_cmp_isNaN_string : Go.FuncId := 252
def F_cmp_Compare_string : Go.FuncId := 214
def F_impl_bookFind_1 : Go.FuncId := 213
def F_impl_bookFind : Go.FuncId := 135
def F_impl_BookFind : Go.FuncId := 49
def F_laws_FnExactBookFind : Go.FuncId := 8
def C_laws_szEntry : ACode := .seq (.reg false [⟨(some 2), .box (.t 0), none⟩,
  ⟨(some 4), .mv (.c (.int .i64 0)), none⟩]) (.seq (.reg false [⟨(some 5), .mv (.t 1), none⟩,
  ⟨(some 6), .fa 0 (.t 2), none⟩,
  ⟨(some 7), .load1 (.t 6), none⟩,
  ⟨(some 8), .slen (.t 7), none⟩,
  ⟨(some 9), .bin .sub (.t 5) (.t 8), none⟩,
  ⟨(some 1), .mv (.t 9), none⟩]) (.seq (.seq (.reg false [⟨(some 10), .mv (.t 1), none⟩,
  ⟨(some 11), .bin .lss (.t 10) (.c (.int .i64 0)), none⟩]) (.cond (.t 11) (.seq (.reg false [⟨(some 4), .mv (.c (.int .i64 (-1))), none⟩]) (.ret)) (.skip))) (.seq (.reg false [⟨(some 12), .mv (.t 1), none⟩,
  ⟨(some 4), .mv (.t 12), none⟩]) (.ret))))
def A_laws_szEntry : AFun := ⟨C_laws_szEntry, 13, [.tmp 4]⟩
def K_laws_szEntryS_0 : List Bool := [true, true, false, false, false, true, false, false, false, false, false, false, false, false, false, false, false, false, false, false, false, false, false, false, false, false, false]
def B_laws_szEntryS_0 : ACode := .seq (.seq (.reg false [⟨(some 12), .mv (.t 5), none⟩,
  ⟨(some 13), .mv (.t 0), none⟩,
  ⟨(some 14), .len (.t 13), none⟩,
  ⟨(some 15), .bin .lss (.t 12) (.t 14), none⟩]) (.cond (.t 15) (.skip) (.exit 0))) (.seq (.block 1 (.seq (.reg false [⟨(some 18), .mv (.t 0), none⟩,
  ⟨(some 19), .mv (.t 5), none⟩,
  ⟨(some 20), .ia 2 (.t 18) (.t 19), none⟩,
  ⟨(some 21), .loadn 2 (.t 20), none⟩,
  ⟨(some 22), .mv (.t 1), none⟩,
  ⟨(some 23), .call F_laws_szEntry [(.t 21), (.t 22)], none⟩,
  ⟨(some 1), .mv (.t 23), none⟩]) (.seq (.reg false [⟨(some 24), .mv (.t 1), none⟩,
  ⟨(some 25), .bin .lss (.t 24) (.c (.int .i64 0)), none⟩]) (.cond (.t 25) (.seq (.reg false [⟨(some 4), .mv (.c (.int .i64 (-1))), none⟩]) (.ret)) (.skip))))) (.reg false [⟨(some 16), .mv (.t 5), none⟩,
  ⟨(some 17), .bin .add (.t 16) (.c (.int .i64 1)), none⟩,
  ⟨(some 5), .mv (.t 17), none⟩]))
def L_laws_szEntryS_0 : ACode := B_laws_szEntryS_0
def C_laws_szEntryS : ACode := .seq (.reg false [⟨(some 4), .mv (.c (.int .i64 0)), none⟩]) (.seq (.reg false [⟨(some 6), .mv (.t 1), none⟩,
  ⟨(some 7), .mv (.t 0), none⟩,
  ⟨(some 8), .len (.t 7), none⟩,
  ⟨(some 9), .bin .sub (.t 6) (.t 8), none⟩,
  ⟨(some 1), .mv (.t 9), none⟩]) (.seq (.seq (.reg false [⟨(some 10), .mv (.t 1), none⟩,
  ⟨(some 11), .bin .lss (.t 10) (.c (.int .i64 0)), none⟩]) (.cond (.t 11) (.seq (.reg false [⟨(some 4), .mv (.c (.int .i64 (-1))), none⟩]) (.ret)) (.skip))) (.seq (.seq (.reg false [⟨(some 5), .mv (.c (.int .i64 0)), none⟩]) (.block 0 (.loop K_laws_szEntryS_0 L_laws_szEntryS_0))) (.seq (.reg false [⟨(some 26), .mv (.t 1), none⟩,
  ⟨(some 4), .mv (.t 26), none⟩]) (.ret)))))
def A_laws_szEntryS : AFun := ⟨C_laws_szEntryS, 27, [.tmp 4]⟩
def C_laws_szBook : ACode := .seq (.reg false [⟨(some 2), .box (.t 0), none⟩,
  ⟨(some 4), .mv (.c (.int .i64 0)), none⟩]) (.seq (.reg false [⟨(some 5), .fa 4 (.t 2), none⟩,
  ⟨(some 6), .load1 (.t 5), none⟩,
  ⟨(some 7), .mv (.t 1), none⟩,
  ⟨(some 8), .call F_laws_szEntryS [(.t 6), (.t 7)], none⟩,
  ⟨(some 1), .mv (.t 8), none⟩]) (.seq (.seq (.reg false [⟨(some 9), .mv (.t 1), none⟩,
  ⟨(some 10), .bin .lss (.t 9) (.c (.int .i64 0)), none⟩]) (.cond (.t 10) (.seq (.reg false [⟨(some 4), .mv (.c (.int .i64 (-1))), none⟩]) (.ret)) (.skip))) (.seq (.reg false [⟨(some 11), .mv (.t 1), none⟩,
  ⟨(some 4), .mv (.t 11), none⟩]) (.ret))))
def A_laws_szBook : AFun := ⟨C_laws_szBook, 12, [.tmp 4]⟩
def C_laws_toConf : ACode := .seq (.reg false [⟨(some 1), .box (.t 0), none⟩,
  ⟨(some 2), .new [(.int .i64 0), (.int .i64 0), (.int .i64 0), (.int .i64 0)], none⟩]) (.seq (.reg false [⟨(some 3), .new [(.int .i64 0), (.int .i64 0), (.int .i64 0), (.int .i64 0)], none⟩]) (.seq (.reg false [⟨(some 4), .fa 0 (.t 1), none⟩,
  ⟨(some 5), .load1 (.t 4), none⟩,
  ⟨(some 6), .fa 0 (.t 3), none⟩,
  ⟨none, .store 1 (.t 6) (.t 5), none⟩]) (.seq (.reg false [⟨(some 7), .fa 1 (.t 1), none⟩,
  ⟨(some 8), .load1 (.t 7), none⟩,
  ⟨(some 9), .fa 1 (.t 3), none⟩,
  ⟨none, .store 1 (.t 9) (.t 8), none⟩]) (.seq (.reg false [⟨(some 10), .fa 2 (.t 1), none⟩,
  ⟨(some 11), .load1 (.t 10), none⟩,
  ⟨(some 12), .fa 2 (.t 3), none⟩,
  ⟨none, .store 1 (.t 12) (.t 11), none⟩]) (.seq (.reg false [⟨(some 13), .fa 3 (.t 1), none⟩,
  ⟨(some 14), .load1 (.t 13), none⟩,
  ⟨(some 15), .fa 3 (.t 3), none⟩,
  ⟨none, .store 1 (.t 15) (.t 14), none⟩]) (.seq (.reg false [⟨(some 16), .loadn 4 (.t 3), none⟩,
  ⟨none, .store 4 (.t 2) (.t 16), none⟩]) (.ret)))))))
def A_laws_toConf : AFun := ⟨C_laws_toConf, 17, [.celln 2 4]⟩
def C_laws_toEntry : ACode := .seq (.reg false [⟨(some 1), .box (.t 0), none⟩,
  ⟨(some 2), .new [(.string ⟨#[]⟩), (.int .i64 0)], none⟩]) (.seq (.reg false [⟨(some 3), .new [(.string ⟨#[]⟩), (.int .i64 0)], none⟩]) (.seq (.reg false [⟨(some 4), .fa 0 (.t 1), none⟩,
  ⟨(some 5), .load1 (.t 4), none⟩,
  ⟨(some 6), .fa 0 (.t 3), none⟩,
  ⟨none, .store 1 (.t 6) (.t 5), none⟩]) (.seq (.reg false [⟨(some 7), .fa 1 (.t 1), none⟩,
  ⟨(some 8), .load1 (.t 7), none⟩,
  ⟨(some 9), .fa 1 (.t 3), none⟩,
  ⟨none, .store 1 (.t 9) (.t 8), none⟩]) (.seq (.reg false [⟨(some 10), .loadn 2 (.t 3), none⟩,
  ⟨none, .store 2 (.t 2) (.t 10), none⟩]) (.ret)))))
def A_laws_toEntry : AFun := ⟨C_laws_toEntry, 11, [.celln 2 2]⟩
def K_laws_toEntryS_0 : List Bool := [true, false, false, true, true, false, false, false, false, false, false, false, false, false, false, false, false, false, false, false, false, false, false]
def B_laws_toEntryS_0 : ACode := .seq (.seq (.reg false [⟨(some 8), .mv (.t 4), none⟩,
  ⟨(some 9), .mv (.t 0), none⟩,
  ⟨(some 10), .len (.t 9), none⟩,
  ⟨(some 11), .bin .lss (.t 8) (.t 10), none⟩]) (.cond (.t 11) (.skip) (.exit 0))) (.seq (.block 1 (.reg false [⟨(some 14), .mv (.t 3), none⟩,
  ⟨(some 15), .mv (.t 4), none⟩,
  ⟨(some 16), .mv (.t 0), none⟩,
  ⟨(some 17), .mv (.t 4), none⟩,
  ⟨(some 18), .ia 2 (.t 16) (.t 17), none⟩,
  ⟨(some 19), .loadn 2 (.t 18), none⟩,
  ⟨(some 20), .call F_laws_toEntry [(.t 19)], none⟩,
  ⟨(some 21), .ia 2 (.t 14) (.t 15), none⟩,
  ⟨none, .store 2 (.t 21) (.t 20), none⟩])) (.reg false [⟨(some 12), .mv (.t 4), none⟩,
  ⟨(some 13), .bin .add (.t 12) (.c (.int .i64 1)), none⟩,
  ⟨(some 4), .mv (.t 13), none⟩]))
def L_laws_toEntryS_0 : ACode := B_laws_toEntryS_0
def C_laws_toEntryS : ACode := .seq (.reg false [⟨(some 2), .mv (.c (.slice none 0 0)), none⟩]) (.seq (.reg false [⟨(some 5), .mv (.t 0), none⟩,
  ⟨(some 6), .len (.t 5), none⟩,
  ⟨(some 7), .make 2 24 [(.string ⟨#[]⟩), (.int .i64 0)] (.t 6), none⟩,
  ⟨(some 3), .mv (.t 7), none⟩]) (.seq (.seq (.reg false [⟨(some 4), .mv (.c (.int .i64 0)), none⟩]) (.block 0 (.loop K_laws_toEntryS_0 L_laws_toEntryS_0))) (.seq (.reg false [⟨(some 22), .mv (.t 3), none⟩,
  ⟨(some 2), .mv (.t 22), none⟩]) (.ret))))
def A_laws_toEntryS : AFun := ⟨C_laws_toEntryS, 23, [.tmp 2]⟩
def C_laws_toBook : ACode := .seq (.reg false [⟨(some 1), .box (.t 0), none⟩,
  ⟨(some 2), .new [(.int .i64 0), (.int .i64 0), (.int .i64 0), (.int .i64 0), (.slice none 0 0)], none⟩]) (.seq (.reg false [⟨(some 3), .new [(.int .i64 0), (.int .i64 0), (.int .i64 0), (.int .i64 0), (.slice none 0 0)], none⟩]) (.seq (.reg false [⟨(some 4), .fa 0 (.t 1), none⟩,
  ⟨(some 5), .loadn 4 (.t 4), none⟩,
  ⟨(some 6), .call F_laws_toConf [(.t 5)], none⟩,
  ⟨(some 7), .fa 0 (.t 3), none⟩,
  ⟨none, .store 4 (.t 7) (.t 6), none⟩]) (.seq (.reg false [⟨(some 8), .fa 4 (.t 1), none⟩,
  ⟨(some 9), .load1 (.t 8), none⟩,
  ⟨(some 10), .call F_laws_toEntryS [(.t 9)], none⟩,
  ⟨(some 11), .fa 4 (.t 3), none⟩,
  ⟨none, .store 1 (.t 11) (.t 10), none⟩]) (.seq (.reg false [⟨(some 12), .loadn 5 (.t 3), none⟩,
  ⟨none, .store 5 (.t 2) (.t 12), none⟩]) (.ret)))))
def A_laws_toBook : AFun := ⟨C_laws_toBook, 13, [.celln 2 5]⟩
def C_laws_eqConf : ACode := .seq (.reg false [⟨(some 2), .box (.t 0), none⟩,
  ⟨(some 3), .box (.t 1), none⟩,
  ⟨(some 4), .mv (.c (.bool false)), none⟩]) (.seq (.seq (.reg false [⟨(some 5), .fa 0 (.t 2), none⟩,
  ⟨(some 6), .load1 (.t 5), none⟩,
  ⟨(some 7), .fa 0 (.t 3), none⟩,
  ⟨(some 8), .load1 (.t 7), none⟩,
  ⟨(some 9), .bin .neq (.t 6) (.t 8), none⟩]) (.cond (.t 9) (.seq (.reg false [⟨(some 4), .mv (.c (.bool false)), none⟩]) (.ret)) (.skip))) (.seq (.seq (.reg false [⟨(some 10), .fa 1 (.t 2), none⟩,
  ⟨(some 11), .load1 (.t 10), none⟩,
  ⟨(some 12), .fa 1 (.t 3), none⟩,
  ⟨(some 13), .load1 (.t 12), none⟩,
  ⟨(some 14), .bin .neq (.t 11) (.t 13), none⟩]) (.cond (.t 14) (.seq (.reg false [⟨(some 4), .mv (.c (.bool false)), none⟩]) (.ret)) (.skip))) (.seq (.seq (.reg false [⟨(some 15), .fa 2 (.t 2), none⟩,
  ⟨(some 16), .load1 (.t 15), none⟩,
  ⟨(some 17), .fa 2 (.t 3), none⟩,
  ⟨(some 18), .load1 (.t 17), none⟩,
  ⟨(some 19), .bin .neq (.t 16) (.t 18), none⟩]) (.cond (.t 19) (.seq (.reg false [⟨(some 4), .mv (.c (.bool false)), none⟩]) (.ret)) (.skip))) (.seq (.seq (.reg false [⟨(some 20), .fa 3 (.t 2), none⟩,
  ⟨(some 21), .load1 (.t 20), none⟩,
  ⟨(some 22), .fa 3 (.t 3), none⟩,
  ⟨(some 23), .load1 (.t 22), none⟩,
  ⟨(some 24), .bin .neq (.t 21) (.t 23), none⟩]) (.cond (.t 24) (.seq (.reg false [⟨(some 4), .mv (.c (.bool false)), none⟩]) (.ret)) (.skip))) (.seq (.reg false [⟨(some 4), .mv (.c (.bool true)), none⟩]) (.ret))))))
def A_laws_eqConf : AFun := ⟨C_laws_eqConf, 25, [.tmp 4]⟩
def C_laws_eqEntry : ACode := .seq (.reg false [⟨(some 2), .box (.t 0), none⟩,
  ⟨(some 3), .box (.t 1), none⟩,
  ⟨(some 4), .mv (.c (.bool false)), none⟩]) (.seq (.seq (.reg false [⟨(some 5), .fa 0 (.t 2), none⟩,
  ⟨(some 6), .load1 (.t 5), none⟩,
  ⟨(some 7), .fa 0 (.t 3), none⟩,
  ⟨(some 8), .load1 (.t 7), none⟩,
  ⟨(some 9), .bin .neq (.t 6) (.t 8), none⟩]) (.cond (.t 9) (.seq (.reg false [⟨(some 4), .mv (.c (.bool false)), none⟩]) (.ret)) (.skip))) (.seq (.seq (.reg false [⟨(some 10), .fa 1 (.t 2), none⟩,
  ⟨(some 11), .load1 (.t 10), none⟩,
  ⟨(some 12), .fa 1 (.t 3), none⟩,
  ⟨(some 13), .load1 (.t 12), none⟩,
  ⟨(some 14), .bin .neq (.t 11) (.t 13), none⟩]) (.cond (.t 14) (.seq (.reg false [⟨(some 4), .mv (.c (.bool false)), none⟩]) (.ret)) (.skip))) (.seq (.reg false [⟨(some 4), .mv (.c (.bool true)), none⟩]) (.ret))))
def A_laws_eqEntry : AFun := ⟨C_laws_eqEntry, 15, [.tmp 4]⟩
def K_laws_eqEntryS_0 : List Bool := [true, true, false, false, false, true, false, false, false, false, false, false, false, false, false, false, false, false, false, false, false, false, false, false, false, false, false]
def B_laws_eqEntryS_0 : ACode := .seq (.seq (.reg false [⟨(some 11), .mv (.t 5), none⟩,
  ⟨(some 12), .mv (.t 0), none⟩,
  ⟨(some 13), .len (.t 12), none⟩,
  ⟨(some 14), .bin .lss (.t 11) (.t 13), none⟩]) (.cond (.t 14) (.skip) (.exit 0))) (.seq (.block 1 (.seq (.reg true [⟨(some 17), .mv (.t 0), none⟩,
  ⟨(some 18), .mv (.t 5), none⟩,
  ⟨(some 19), .ia 2 (.t 17) (.t 18), none⟩,
  ⟨(some 20), .loadn 2 (.t 19), none⟩,
  ⟨(some 21), .mv (.t 1), none⟩,
  ⟨(some 22), .mv (.t 5), none⟩,
  ⟨(some 23), .ia 2 (.t 21) (.t 22), none⟩,
  ⟨(some 24), .loadn 2 (.t 23), none⟩,
  ⟨(some 25), .call F_laws_eqEntry [(.t 20), (.t 24)], none⟩,
  ⟨(some 26), .not (.t 25), none⟩]) (.cond (.t 26) (.seq (.reg false [⟨(some 4), .mv (.c (.bool false)), none⟩]) (.ret)) (.skip)))) (.reg false [⟨(some 15), .mv (.t 5), none⟩,
  ⟨(some 16), .bin .add (.t 15) (.c (.int .i64 1)), none⟩,
  ⟨(some 5), .mv (.t 16), none⟩]))
def L_laws_eqEntryS_0 : ACode := B_laws_eqEntryS_0
def C_laws_eqEntryS : ACode := .seq (.reg false [⟨(some 4), .mv (.c (.bool false)), none⟩]) (.seq (.seq (.reg false [⟨(some 6), .mv (.t 0), none⟩,
  ⟨(some 7), .len (.t 6), none⟩,
  ⟨(some 8), .mv (.t 1), none⟩,
  ⟨(some 9), .len (.t 8), none⟩,
  ⟨(some 10), .bin .neq (.t 7) (.t 9), none⟩]) (.cond (.t 10) (.seq (.reg false [⟨(some 4), .mv (.c (.bool false)), none⟩]) (.ret)) (.skip))) (.seq (.seq (.reg false [⟨(some 5), .mv (.c (.int .i64 0)), none⟩]) (.block 0 (.loop K_laws_eqEntryS_0 L_laws_eqEntryS_0))) (.seq (.reg false [⟨(some 4), .mv (.c (.bool true)), none⟩]) (.ret))))
def A_laws_eqEntryS : AFun := ⟨C_laws_eqEntryS, 27, [.tmp 4]⟩
def C_laws_eqBook : ACode := .seq (.reg false [⟨(some 2), .box (.t 0), none⟩,
  ⟨(some 3), .box (.t 1), none⟩,
  ⟨(some 4), .mv (.c (.bool false)), none⟩]) (.seq (.seq (.reg false [⟨(some 5), .fa 0 (.t 2), none⟩,
  ⟨(some 6), .loadn 4 (.t 5), none⟩,
  ⟨(some 7), .fa 0 (.t 3), none⟩,
  ⟨(some 8), .loadn 4 (.t 7), none⟩,
  ⟨(some 9), .call F_laws_eqConf [(.t 6), (.t 8)], none⟩,
  ⟨(some 10), .not (.t 9), none⟩]) (.cond (.t 10) (.seq (.reg false [⟨(some 4), .mv (.c (.bool false)), none⟩]) (.ret)) (.skip))) (.seq (.seq (.reg false [⟨(some 11), .fa 4 (.t 2), none⟩,
  ⟨(some 12), .load1 (.t 11), none⟩,
  ⟨(some 13), .fa 4 (.t 3), none⟩,
  ⟨(some 14), .load1 (.t 13), none⟩,
  ⟨(some 15), .call F_laws_eqEntryS [(.t 12), (.t 14)], none⟩,
  ⟨(some 16), .not (.t 15), none⟩]) (.cond (.t 16) (.seq (.reg false [⟨(some 4), .mv (.c (.bool false)), none⟩]) (.ret)) (.skip))) (.seq (.reg false [⟨(some 4), .mv (.c (.bool true)), none⟩]) (.ret))))
def A_laws_eqBook : AFun := ⟨C_laws_eqBook, 17, [.tmp 4]⟩
def K_spec_WordOk_0 : List Bool := [true, false, false, true, false, false, false, false, false, false, false, false, false, false, false, false, false, false, false, false, false, false, false, false, false, false, false, false]
def B_spec_WordOk_0 : ACode := .seq (.seq (.reg false [⟨(some 12), .mv (.t 3), none⟩,
  ⟨(some 13), .mv (.t 0), none⟩,
  ⟨(some 14), .slen (.t 13), none⟩,
  ⟨(some 15), .bin .lss (.t 12) (.t 14), none⟩]) (.cond (.t 15) (.skip) (.exit 0))) (.seq (.block 1 (.seq (.reg false [⟨(some 18), .mv (.t 0), none⟩,
  ⟨(some 19), .mv (.t 3), none⟩,
  ⟨(some 20), .ix (.t 18) (.t 19), none⟩,
  ⟨(some 21), .bin .lss (.t 20) (.c (.int .u8 97)), none⟩,
  ⟨(some 22), .mv (.t 21), none⟩,
  ⟨(some 23), .mv (.t 0), (some (22, false))⟩,
  ⟨(some 24), .mv (.t 3), (some (22, false))⟩,
  ⟨(some 25), .ix (.t 23) (.t 24), (some (22, false))⟩,
  ⟨(some 26), .bin .gtr (.t 25) (.c (.int .u8 122)), (some (22, false))⟩,
  ⟨(some 27), .pick (.t 22) (.c (.bool true)) (.t 26), none⟩]) (.cond (.t 27) (.seq (.reg false [⟨(some 2), .mv (.c (.bool false)), none⟩]) (.ret)) (.skip)))) (.reg false [⟨(some 16), .mv (.t 3), none⟩,
  ⟨(some 17), .bin .add (.t 16) (.c (.int .i64 1)), none⟩,
  ⟨(some 3), .mv (.t 17), none⟩]))
def L_spec_WordOk_0 : ACode := B_spec_WordOk_0
def C_spec_WordOk : ACode := .seq (.reg false [⟨(some 2), .mv (.c (.bool false)), none⟩]) (.seq (.seq (.reg false [⟨(some 4), .mv (.t 0), none⟩,
  ⟨(some 5), .slen (.t 4), none⟩,
  ⟨(some 6), .bin .lss (.t 5) (.c (.int .i64 1)), none⟩,
  ⟨(some 7), .mv (.t 6), none⟩,
  ⟨(some 8), .mv (.t 0), (some (7, false))⟩,
  ⟨(some 9), .slen (.t 8), (some (7, false))⟩,
  ⟨(some 10), .bin .gtr (.t 9) (.c (.int .i64 32)), (some (7, false))⟩,
  ⟨(some 11), .pick (.t 7) (.c (.bool true)) (.t 10), none⟩]) (.cond (.t 11) (.seq (.reg false [⟨(some 2), .mv (.c (.bool false)), none⟩]) (.ret)) (.skip))) (.seq (.seq (.reg false [⟨(some 3), .mv (.c (.int .i64 0)), none⟩]) (.block 0 (.loop K_spec_WordOk_0 L_spec_WordOk_0))) (.seq (.reg false [⟨(some 2), .mv (.c (.bool true)), none⟩]) (.ret))))
def A_spec_WordOk : AFun := ⟨C_spec_WordOk, 28, [.tmp 2]⟩
def C_spec_l17Full : ACode := .seq (.reg false [⟨(some 1), .box (.t 0), none⟩,
  ⟨(some 2), .mv (.c (.bool false)), none⟩]) (.seq (.reg false [⟨(some 3), .fa 0 (.t 1), none⟩,
  ⟨(some 4), .load1 (.t 3), none⟩,
  ⟨(some 5), .call F_spec_WordOk [(.t 4)], none⟩,
  ⟨(some 6), .mv (.t 5), none⟩,
  ⟨(some 7), .fa 1 (.t 1), (some (6, true))⟩,
  ⟨(some 8), .load1 (.t 7), (some (6, true))⟩,
  ⟨(some 9), .bin .geq (.t 8) (.c (.int .i64 0)), (some (6, true))⟩,
  ⟨(some 10), .pick (.t 6) (.t 9) (.c (.bool false)), none⟩,
  ⟨(some 11), .mv (.t 10), none⟩,
  ⟨(some 12), .fa 1 (.t 1), (some (11, true))⟩,
  ⟨(some 13), .load1 (.t 12), (some (11, true))⟩,
  ⟨(some 14), .bin .leq (.t 13) (.c (.int .i64 65535)), (some (11, true))⟩,
  ⟨(some 15), .pick (.t 11) (.t 14) (.c (.bool false)), none⟩,
  ⟨(some 2), .mv (.t 15), none⟩]) (.ret))
def A_spec_l17Full : AFun := ⟨C_spec_l17Full, 16, [.tmp 2]⟩
def C_spec_l16Log : ACode := .seq (.reg false [⟨(some 2), .mv (.c (.bool false)), none⟩]) (.seq (.reg false [⟨(some 3), .mv (.t 0), none⟩,
  ⟨(some 4), .bin .geq (.t 3) (.c (.int .i64 2)), none⟩,
  ⟨(some 5), .mv (.t 4), none⟩,
  ⟨(some 6), .mv (.t 0), (some (5, true))⟩,
  ⟨(some 7), .bin .leq (.t 6) (.c (.int .i64 6)), (some (5, true))⟩,
  ⟨(some 8), .pick (.t 5) (.t 7) (.c (.bool false)), none⟩,
  ⟨(some 2), .mv (.t 8), none⟩]) (.ret))
def A_spec_l16Log : AFun := ⟨C_spec_l16Log, 9, [.tmp 2]⟩
def C_spec_ConfOk : ACode := .seq (.reg false [⟨(some 1), .box (.t 0), none⟩,
  ⟨(some 2), .mv (.c (.bool false)), none⟩]) (.seq (.reg false [⟨(some 3), .fa 0 (.t 1), none⟩,
  ⟨(some 4), .load1 (.t 3), none⟩,
  ⟨(some 5), .bin .geq (.t 4) (.c (.int .i64 0)), none⟩,
  ⟨(some 6), .mv (.t 5), none⟩,
  ⟨(some 7), .fa 0 (.t 1), (some (6, true))⟩,
  ⟨(some 8), .load1 (.t 7), (some (6, true))⟩,
  ⟨(some 9), .bin .leq (.t 8) (.c (.int .i64 4294967295)), (some (6, true))⟩,
  ⟨(some 10), .pick (.t 6) (.t 9) (.c (.bool false)), none⟩,
  ⟨(some 11), .mv (.t 10), none⟩,
  ⟨(some 12), .fa 1 (.t 1), (some (11, true))⟩,
  ⟨(some 13), .load1 (.t 12), (some (11, true))⟩,
  ⟨(some 14), .call F_spec_l16Log [(.t 13)], (some (11, true))⟩,
  ⟨(some 15), .pick (.t 11) (.t 14) (.c (.bool false)), none⟩,
  ⟨(some 16), .mv (.t 15), none⟩,
  ⟨(some 17), .fa 2 (.t 1), (some (16, true))⟩,
  ⟨(some 18), .load1 (.t 17), (some (16, true))⟩,
  ⟨(some 19), .bin .geq (.t 18) (.c (.int .i64 0)), (some (16, true))⟩,
  ⟨(some 20), .pick (.t 16) (.t 19) (.c (.bool false)), none⟩,
  ⟨(some 21), .mv (.t 20), none⟩,
  ⟨(some 22), .fa 2 (.t 1), (some (21, true))⟩,
  ⟨(some 23), .load1 (.t 22), (some (21, true))⟩,
  ⟨(some 24), .bin .leq (.t 23) (.c (.int .i64 64)), (some (21, true))⟩,
  ⟨(some 25), .pick (.t 21) (.t 24) (.c (.bool false)), none⟩,
  ⟨(some 26), .mv (.t 25), none⟩,
  ⟨(some 27), .fa 3 (.t 1), (some (26, true))⟩,
  ⟨(some 28), .load1 (.t 27), (some (26, true))⟩,
  ⟨(some 29), .bin .geq (.t 28) (.c (.int .i64 1)), (some (26, true))⟩,
  ⟨(some 30), .pick (.t 26) (.t 29) (.c (.bool false)), none⟩,
  ⟨(some 31), .mv (.t 30), none⟩,
  ⟨(some 32), .fa 3 (.t 1), (some (31, true))⟩,
  ⟨(some 33), .load1 (.t 32), (some (31, true))⟩,
  ⟨(some 34), .bin .leq (.t 33) (.c (.int .i64 64)), (some (31, true))⟩,
  ⟨(some 35), .pick (.t 31) (.t 34) (.c (.bool false)), none⟩,
  ⟨(some 2), .mv (.t 35), none⟩]) (.ret))
def A_spec_ConfOk : AFun := ⟨C_spec_ConfOk, 36, [.tmp 2]⟩
def K_spec_WordCmp_0 : List Bool := [true, true, false, false, false, true, false, false, false, false, false, false, false, false, false, false, false, false, false, false, false, false, false, false, false, false, false, false, false, false, false, false, false, false, false, false, false, false, false, false, false, false]
def B_spec_WordCmp_0 : ACode := .seq (.seq (.reg false [⟨(some 6), .mv (.t 5), none⟩,
  ⟨(some 7), .mv (.t 0), none⟩,
  ⟨(some 8), .slen (.t 7), none⟩,
  ⟨(some 9), .bin .lss (.t 6) (.t 8), none⟩,
  ⟨(some 10), .mv (.t 9), none⟩,
  ⟨(some 11), .mv (.t 5), (some (10, true))⟩,
  ⟨(some 12), .mv (.t 1), (some (10, true))⟩,
  ⟨(some 13), .slen (.t 12), (some (10, true))⟩,
  ⟨(some 14), .bin .lss (.t 11) (.t 13), (some (10, true))⟩,
  ⟨(some 15), .pick (.t 10) (.t 14) (.c (.bool false)), none⟩]) (.cond (.t 15) (.skip) (.exit 0))) (.seq (.block 1 (.seq (.seq (.reg true [⟨(some 18), .mv (.t 0), none⟩,
  ⟨(some 19), .mv (.t 5), none⟩,
  ⟨(some 20), .ix (.t 18) (.t 19), none⟩,
  ⟨(some 21), .mv (.t 1), none⟩,
  ⟨(some 22), .mv (.t 5), none⟩,
  ⟨(some 23), .ix (.t 21) (.t 22), none⟩,
  ⟨(some 24), .bin .lss (.t 20) (.t 23), none⟩]) (.cond (.t 24) (.seq (.reg false [⟨(some 4), .mv (.c (.int .i64 (-1))), none⟩]) (.ret)) (.skip))) (.seq (.reg true [⟨(some 25), .mv (.t 0), none⟩,
  ⟨(some 26), .mv (.t 5), none⟩,
  ⟨(some 27), .ix (.t 25) (.t 26), none⟩,
  ⟨(some 28), .mv (.t 1), none⟩,
  ⟨(some 29), .mv (.t 5), none⟩,
  ⟨(some 30), .ix (.t 28) (.t 29), none⟩,
  ⟨(some 31), .bin .gtr (.t 27) (.t 30), none⟩]) (.cond (.t 31) (.seq (.reg false [⟨(some 4), .mv (.c (.int .i64 1)), none⟩]) (.ret)) (.skip))))) (.reg false [⟨(some 16), .mv (.t 5), none⟩,
  ⟨(some 17), .bin .add (.t 16) (.c (.int .i64 1)), none⟩,
  ⟨(some 5), .mv (.t 17), none⟩]))
def L_spec_WordCmp_0 : ACode := B_spec_WordCmp_0
def C_spec_WordCmp : ACode := .seq (.reg false [⟨(some 4), .mv (.c (.int .i64 0)), none⟩]) (.seq (.seq (.reg false [⟨(some 5), .mv (.c (.int .i64 0)), none⟩]) (.block 0 (.loop K_spec_WordCmp_0 L_spec_WordCmp_0))) (.seq (.seq (.reg false [⟨(some 32), .mv (.t 0), none⟩,
  ⟨(some 33), .slen (.t 32), none⟩,
  ⟨(some 34), .mv (.t 1), none⟩,
  ⟨(some 35), .slen (.t 34), none⟩,
  ⟨(some 36), .bin .lss (.t 33) (.t 35), none⟩]) (.cond (.t 36) (.seq (.reg false [⟨(some 4), .mv (.c (.int .i64 (-1))), none⟩]) (.ret)) (.skip))) (.seq (.seq (.reg false [⟨(some 37), .mv (.t 0), none⟩,
  ⟨(some 38), .slen (.t 37), none⟩,
  ⟨(some 39), .mv (.t 1), none⟩,
  ⟨(some 40), .slen (.t 39), none⟩,
  ⟨(some 41), .bin .gtr (.t 38) (.t 40), none⟩]) (.cond (.t 41) (.seq (.reg false [⟨(some 4), .mv (.c (.int .i64 1)), none⟩]) (.ret)) (.skip))) (.seq (.reg false [⟨(some 4), .mv (.c (.int .i64 0)), none⟩]) (.ret)))))
def A_spec_WordCmp : AFun := ⟨C_spec_WordCmp, 42, [.tmp 4]⟩
def C_spec_l11Log : ACode := .seq (.reg false [⟨(some 2), .mv (.c (.bool false)), none⟩]) (.seq (.reg false [⟨(some 3), .mv (.t 0), none⟩,
  ⟨(some 4), .bin .geq (.t 3) (.c (.int .i64 0)), none⟩,
  ⟨(some 5), .mv (.t 4), none⟩,
  ⟨(some 6), .mv (.t 0), (some (5, true))⟩,
  ⟨(some 7), .bin .leq (.t 6) (.c (.int .i64 6)), (some (5, true))⟩,
  ⟨(some 8), .pick (.t 5) (.t 7) (.c (.bool false)), none⟩,
  ⟨(some 2), .mv (.t 8), none⟩]) (.ret))
def A_spec_l11Log : AFun := ⟨C_spec_l11Log, 9, [.tmp 2]⟩
def K_spec_l02Pow_0 : List Bool := [true, false, false, true, false, false, false, false, false, false, false]
def B_spec_l02Pow_0 : ACode := .seq (.seq (.reg false [⟨(some 4), .mv (.t 0), none⟩,
  ⟨(some 5), .bin .gtr (.t 4) (.c (.int .i64 0)), none⟩]) (.cond (.t 5) (.skip) (.exit 0))) (.seq (.block 1 (.reg false [⟨(some 8), .mv (.t 3), none⟩,
  ⟨(some 9), .bin .mul (.c (.int .i64 2)) (.t 8), none⟩,
  ⟨(some 3), .mv (.t 9), none⟩])) (.reg false [⟨(some 6), .mv (.t 0), none⟩,
  ⟨(some 7), .bin .sub (.t 6) (.c (.int .i64 1)), none⟩,
  ⟨(some 0), .mv (.t 7), none⟩]))
def L_spec_l02Pow_0 : ACode := B_spec_l02Pow_0
def C_spec_l02Pow : ACode := .seq (.reg false [⟨(some 2), .mv (.c (.int .i64 0)), none⟩]) (.seq (.reg false [⟨(some 3), .mv (.c (.int .i64 1)), none⟩]) (.seq (.block 0 (.loop K_spec_l02Pow_0 L_spec_l02Pow_0)) (.seq (.reg false [⟨(some 10), .mv (.t 3), none⟩,
  ⟨(some 2), .mv (.t 10), none⟩]) (.ret))))
def A_spec_l02Pow : AFun := ⟨C_spec_l02Pow, 11, [.tmp 2]⟩
def K_spec_Pad_0 : List Bool := [true, false, false, true, true, false, false, false, false, false, false, false, false, false, false, false, false, false, false, false, false, false, false, false, false, false, false, false, false]
def B_spec_Pad_0 : ACode := .seq (.seq (.reg false [⟨(some 15), .mv (.t 4), none⟩,
  ⟨(some 16), .mv (.t 0), none⟩,
  ⟨(some 17), .slen (.t 16), none⟩,
  ⟨(some 18), .bin .lss (.t 15) (.t 17), none⟩]) (.cond (.t 18) (.skip) (.exit 0))) (.seq (.block 1 (.reg false [⟨(some 21), .mv (.t 3), none⟩,
  ⟨(some 22), .mv (.t 4), none⟩,
  ⟨(some 23), .bin .add (.t 22) (.c (.int .i64 1)), none⟩,
  ⟨(some 24), .mv (.t 0), none⟩,
  ⟨(some 25), .mv (.t 4), none⟩,
  ⟨(some 26), .ix (.t 24) (.t 25), none⟩,
  ⟨(some 27), .ia 1 (.t 21) (.t 23), none⟩,
  ⟨none, .store 1 (.t 27) (.t 26), none⟩])) (.reg false [⟨(some 19), .mv (.t 4), none⟩,
  ⟨(some 20), .bin .add (.t 19) (.c (.int .i64 1)), none⟩,
  ⟨(some 4), .mv (.t 20), none⟩]))
def L_spec_Pad_0 : ACode := B_spec_Pad_0
def C_spec_Pad : ACode := .seq (.reg false [⟨(some 2), .mv (.c (.slice none 0 0)), none⟩]) (.seq (.reg false [⟨(some 5), .make 1 1 [(.int .u8 0)] (.c (.int .i64 33)), none⟩,
  ⟨(some 3), .mv (.t 5), none⟩]) (.seq (.seq (.reg false [⟨(some 6), .mv (.t 0), none⟩,
  ⟨(some 7), .call F_spec_WordOk [(.t 6)], none⟩,
  ⟨(some 8), .not (.t 7), none⟩]) (.cond (.t 8) (.seq (.reg false [⟨(some 9), .mv (.t 3), none⟩,
  ⟨(some 2), .mv (.t 9), none⟩]) (.ret)) (.skip))) (.seq (.reg false [⟨(some 10), .mv (.t 3), none⟩,
  ⟨(some 11), .mv (.t 0), none⟩,
  ⟨(some 12), .slen (.t 11), none⟩,
  ⟨(some 13), .conv .u8 (.t 12), none⟩,
  ⟨(some 14), .ia 1 (.t 10) (.c (.int .i64 0)), none⟩,
  ⟨none, .store 1 (.t 14) (.t 13), none⟩]) (.seq (.seq (.reg false [⟨(some 4), .mv (.c (.int .i64 0)), none⟩]) (.block 0 (.loop K_spec_Pad_0 L_spec_Pad_0))) (.seq (.reg false [⟨(some 28), .mv (.t 3), none⟩,
  ⟨(some 2), .mv (.t 28), none⟩]) (.ret))))))
def A_spec_Pad : AFun := ⟨C_spec_Pad, 29, [.tmp 2]⟩
def K_spec_HashWord_0 : List Bool := [false, false, false, false, false, true, true, true, false, false, false, false, false, false, false, false, false, false, false, false, false, false, false, false, false, false, false, false, false, false, false, false, false, false, false, false, false, false, false, false, false]
def B_spec_HashWord_0 : ACode := .seq (.seq (.reg false [⟨(some 22), .mv (.t 7), none⟩,
  ⟨(some 23), .mv (.t 6), none⟩,
  ⟨(some 24), .len (.t 23), none⟩,
  ⟨(some 25), .bin .lss (.t 22) (.t 24), none⟩]) (.cond (.t 25) (.skip) (.exit 0))) (.seq (.block 1 (.reg false [⟨(some 28), .mv (.t 5), none⟩,
  ⟨(some 29), .mv (.t 6), none⟩,
  ⟨(some 30), .mv (.t 7), none⟩,
  ⟨(some 31), .ia 1 (.t 29) (.t 30), none⟩,
  ⟨(some 32), .load1 (.t 31), none⟩,
  ⟨(some 33), .conv .i64 (.t 32), none⟩,
  ⟨(some 34), .bin .xor (.t 28) (.t 33), none⟩,
  ⟨(some 35), .bin .mul (.t 34) (.c (.int .i64 16777619)), none⟩,
  ⟨(some 36), .bin .rem (.t 35) (.c (.int .i64 4294967296)), none⟩,
  ⟨(some 5), .mv (.t 36), none⟩])) (.reg false [⟨(some 26), .mv (.t 7), none⟩,
  ⟨(some 27), .bin .add (.t 26) (.c (.int .i64 1)), none⟩,
  ⟨(some 7), .mv (.t 27), none⟩]))
def L_spec_HashWord_0 : ACode := B_spec_HashWord_0
def C_spec_HashWord : ACode := .seq (.reg false [⟨(some 4), .mv (.c (.int .i64 0)), none⟩]) (.seq (.seq (.reg false [⟨(some 8), .mv (.t 0), none⟩,
  ⟨(some 9), .bin .lss (.t 8) (.c (.int .i64 0)), none⟩,
  ⟨(some 10), .mv (.t 9), none⟩,
  ⟨(some 11), .mv (.t 0), (some (10, false))⟩,
  ⟨(some 12), .bin .gtr (.t 11) (.c (.int .i64 4294967295)), (some (10, false))⟩,
  ⟨(some 13), .pick (.t 10) (.c (.bool true)) (.t 12), none⟩,
  ⟨(some 14), .mv (.t 13), none⟩,
  ⟨(some 15), .mv (.t 1), (some (14, false))⟩,
  ⟨(some 16), .call F_spec_WordOk [(.t 15)], (some (14, false))⟩,
  ⟨(some 17), .not (.t 16), (some (14, false))⟩,
  ⟨(some 18), .pick (.t 14) (.c (.bool true)) (.t 17), none⟩]) (.cond (.t 18) (.seq (.reg false [⟨(some 4), .mv (.c (.int .i64 (-1))), none⟩]) (.ret)) (.skip))) (.seq (.reg false [⟨(some 19), .mv (.t 0), none⟩,
  ⟨(some 5), .mv (.t 19), none⟩]) (.seq (.reg false [⟨(some 20), .mv (.t 1), none⟩,
  ⟨(some 21), .call F_spec_Pad [(.t 20)], none⟩,
  ⟨(some 6), .mv (.t 21), none⟩]) (.seq (.seq (.reg false [⟨(some 7), .mv (.c (.int .i64 0)), none⟩]) (.block 0 (.loop K_spec_HashWord_0 L_spec_HashWord_0))) (.seq (.reg false [⟨(some 37), .mv (.t 5), none⟩,
  ⟨(some 38), .mv (.t 5), none⟩,
  ⟨(some 39), .bin .quo (.t 38) (.c (.int .i64 65536)), none⟩,
  ⟨(some 40), .bin .xor (.t 37) (.t 39), none⟩,
  ⟨(some 4), .mv (.t 40), none⟩]) (.ret))))))
def A_spec_HashWord : AFun := ⟨C_spec_HashWord, 41, [.tmp 4]⟩
def C_spec_ShelfFor : ACode := .seq (.reg false [⟨(some 6), .mv (.c (.int .i64 0)), none⟩]) (.seq (.reg false [⟨(some 8), .mv (.t 0), none⟩,
  ⟨(some 9), .mv (.t 1), none⟩,
  ⟨(some 10), .call F_spec_HashWord [(.t 8), (.t 9)], none⟩,
  ⟨(some 7), .mv (.t 10), none⟩]) (.seq (.seq (.reg false [⟨(some 11), .mv (.t 7), none⟩,
  ⟨(some 12), .bin .lss (.t 11) (.c (.int .i64 0)), none⟩,
  ⟨(some 13), .mv (.t 12), none⟩,
  ⟨(some 14), .mv (.t 2), (some (13, false))⟩,
  ⟨(some 15), .call F_spec_l11Log [(.t 14)], (some (13, false))⟩,
  ⟨(some 16), .not (.t 15), (some (13, false))⟩,
  ⟨(some 17), .pick (.t 13) (.c (.bool true)) (.t 16), none⟩]) (.cond (.t 17) (.seq (.reg false [⟨(some 6), .mv (.c (.int .i64 (-1))), none⟩]) (.ret)) (.skip))) (.seq (.reg false [⟨(some 18), .mv (.t 7), none⟩,
  ⟨(some 19), .mv (.t 2), none⟩,
  ⟨(some 20), .call F_spec_l02Pow [(.t 19)], none⟩,
  ⟨(some 21), .bin .rem (.t 18) (.t 20), none⟩,
  ⟨(some 6), .mv (.t 21), none⟩]) (.ret))))
def A_spec_ShelfFor : AFun := ⟨C_spec_ShelfFor, 22, [.tmp 6]⟩
def K_spec_l19Shelf_0 : List Bool := [false, true, true, false, false, true, true, false, false, false, false, false, false, false, false, false, false, false, false, false, false, false, false, false, false, false, false, false, false, false, false, false, false, false, false, false, false, false, false]
def B_spec_l19Shelf_0 : ACode := .seq (.seq (.reg false [⟨(some 7), .mv (.t 6), none⟩,
  ⟨(some 8), .fa 4 (.t 2), none⟩,
  ⟨(some 9), .load1 (.t 8), none⟩,
  ⟨(some 10), .len (.t 9), none⟩,
  ⟨(some 11), .bin .lss (.t 7) (.t 10), none⟩]) (.cond (.t 11) (.skip) (.exit 0))) (.seq (.block 1 (.seq (.reg true [⟨(some 14), .fa 0 (.t 2), none⟩,
  ⟨(some 15), .fa 0 (.t 14), none⟩,
  ⟨(some 16), .load1 (.t 15), none⟩,
  ⟨(some 17), .fa 4 (.t 2), none⟩,
  ⟨(some 18), .load1 (.t 17), none⟩,
  ⟨(some 19), .mv (.t 6), none⟩,
  ⟨(some 20), .ia 2 (.t 18) (.t 19), none⟩,
  ⟨(some 21), .fa 0 (.t 20), none⟩,
  ⟨(some 22), .load1 (.t 21), none⟩,
  ⟨(some 23), .fa 0 (.t 2), none⟩,
  ⟨(some 24), .fa 1 (.t 23), none⟩,
  ⟨(some 25), .load1 (.t 24), none⟩,
  ⟨(some 26), .call F_spec_ShelfFor [(.t 16), (.t 22), (.t 25)], none⟩,
  ⟨(some 27), .fa 0 (.t 2), none⟩,
  ⟨(some 28), .fa 0 (.t 27), none⟩,
  ⟨(some 29), .load1 (.t 28), none⟩,
  ⟨(some 30), .mv (.t 1), none⟩,
  ⟨(some 31), .fa 0 (.t 2), none⟩,
  ⟨(some 32), .fa 1 (.t 31), none⟩,
  ⟨(some 33), .load1 (.t 32), none⟩,
  ⟨(some 34), .call F_spec_ShelfFor [(.t 29), (.t 30), (.t 33)], none⟩,
  ⟨(some 35), .bin .eql (.t 26) (.t 34), none⟩]) (.cond (.t 35) (.reg false [⟨(some 36), .mv (.t 5), none⟩,
  ⟨(some 37), .bin .add (.t 36) (.c (.int .i64 1)), none⟩,
  ⟨(some 5), .mv (.t 37), none⟩]) (.skip)))) (.reg false [⟨(some 12), .mv (.t 6), none⟩,
  ⟨(some 13), .bin .add (.t 12) (.c (.int .i64 1)), none⟩,
  ⟨(some 6), .mv (.t 13), none⟩]))
def L_spec_l19Shelf_0 : ACode := B_spec_l19Shelf_0
def C_spec_l19Shelf : ACode := .seq (.reg false [⟨(some 2), .box (.t 0), none⟩,
  ⟨(some 4), .mv (.c (.int .i64 0)), none⟩]) (.seq (.reg false [⟨(some 5), .mv (.c (.int .i64 0)), none⟩]) (.seq (.seq (.reg false [⟨(some 6), .mv (.c (.int .i64 0)), none⟩]) (.block 0 (.loop K_spec_l19Shelf_0 L_spec_l19Shelf_0))) (.seq (.reg false [⟨(some 38), .mv (.t 5), none⟩,
  ⟨(some 4), .mv (.t 38), none⟩]) (.ret))))
def A_spec_l19Shelf : AFun := ⟨C_spec_l19Shelf, 39, [.tmp 4]⟩
def K_spec_BookOk_1 : List Bool := [false, true, false, false, true, false, false, false, false, false, false, false, false, false, false, false, false, false, false, false, false, false, false, false, false, false, false, false, false, false, false, false, false, false, false, false, false, false, false, false, false, false, false, false, false, false, false, false, false, false, false, false, false, false, false, false, false, false, false, false, false, false, false, false, false, false, false, false, false]
def B_spec_BookOk_1 : ACode := .seq (.seq (.reg false [⟨(some 53), .mv (.t 4), none⟩,
  ⟨(some 54), .fa 4 (.t 1), none⟩,
  ⟨(some 55), .load1 (.t 54), none⟩,
  ⟨(some 56), .len (.t 55), none⟩,
  ⟨(some 57), .bin .lss (.t 53) (.t 56), none⟩]) (.cond (.t 57) (.skip) (.exit 2))) (.seq (.block 3 (.seq (.reg true [⟨(some 60), .loadn 5 (.t 1), none⟩,
  ⟨(some 61), .fa 4 (.t 1), none⟩,
  ⟨(some 62), .load1 (.t 61), none⟩,
  ⟨(some 63), .mv (.t 4), none⟩,
  ⟨(some 64), .ia 2 (.t 62) (.t 63), none⟩,
  ⟨(some 65), .fa 0 (.t 64), none⟩,
  ⟨(some 66), .load1 (.t 65), none⟩,
  ⟨(some 67), .call F_spec_l19Shelf [(.t 60), (.t 66)], none⟩,
  ⟨(some 68), .bin .gtr (.t 67) (.c (.int .i64 4)), none⟩]) (.cond (.t 68) (.seq (.reg false [⟨(some 2), .mv (.c (.bool false)), none⟩]) (.ret)) (.skip)))) (.reg false [⟨(some 58), .mv (.t 4), none⟩,
  ⟨(some 59), .bin .add (.t 58) (.c (.int .i64 1)), none⟩,
  ⟨(some 4), .mv (.t 59), none⟩]))
def L_spec_BookOk_1 : ACode := B_spec_BookOk_1
def K_spec_BookOk_0 : List Bool := [false, true, false, true, false, false, false, false, false, false, false, false, false, false, false, false, false, false, false, false, false, false, false, false, false, false, false, false, false, false, false, false, false, false, false, false, false, false, false, false, false, false, false, false, false, false, false, false, false, false, false, false, false, false, false, false, false, false, false, false, false, false, false, false, false, false, false, false, false]
def B_spec_BookOk_0 : ACode := .seq (.seq (.reg false [⟨(some 18), .mv (.t 3), none⟩,
  ⟨(some 19), .fa 4 (.t 1), none⟩,
  ⟨(some 20), .load1 (.t 19), none⟩,
  ⟨(some 21), .len (.t 20), none⟩,
  ⟨(some 22), .bin .lss (.t 18) (.t 21), none⟩]) (.cond (.t 22) (.skip) (.exit 0))) (.seq (.block 1 (.seq (.reg true [⟨(some 25), .fa 4 (.t 1), none⟩,
  ⟨(some 26), .load1 (.t 25), none⟩,
  ⟨(some 27), .mv (.t 3), none⟩,
  ⟨(some 28), .ia 2 (.t 26) (.t 27), none⟩,
  ⟨(some 29), .loadn 2 (.t 28), none⟩,
  ⟨(some 30), .call F_spec_l17Full [(.t 29)], none⟩,
  ⟨(some 31), .not (.t 30), none⟩,
  ⟨(some 32), .mv (.t 31), none⟩,
  ⟨(some 33), .mv (.t 3), (some (32, false))⟩,
  ⟨(some 34), .bin .gtr (.t 33) (.c (.int .i64 0)), (some (32, false))⟩,
  ⟨(some 35), .mv (.t 34), (some (32, false))⟩,
  ⟨(some 36), .fa 4 (.t 1), (some (35, true))⟩,
  ⟨(some 37), .load1 (.t 36), (some (35, true))⟩,
  ⟨(some 38), .mv (.t 3), (some (35, true))⟩,
  ⟨(some 39), .bin .sub (.t 38) (.c (.int .i64 1)), (some (35, true))⟩,
  ⟨(some 40), .ia 2 (.t 37) (.t 39), (some (35, true))⟩,
  ⟨(some 41), .fa 0 (.t 40), (some (35, true))⟩,
  ⟨(some 42), .load1 (.t 41), (some (35, true))⟩,
  ⟨(some 43), .fa 4 (.t 1), (some (35, true))⟩,
  ⟨(some 44), .load1 (.t 43), (some (35, true))⟩,
  ⟨(some 45), .mv (.t 3), (some (35, true))⟩,
  ⟨(some 46), .ia 2 (.t 44) (.t 45), (some (35, true))⟩,
  ⟨(some 47), .fa 0 (.t 46), (some (35, true))⟩,
  ⟨(some 48), .load1 (.t 47), (some (35, true))⟩,
  ⟨(some 49), .call F_spec_WordCmp [(.t 42), (.t 48)], (some (35, true))⟩,
  ⟨(some 50), .bin .geq (.t 49) (.c (.int .i64 0)), (some (35, true))⟩,
  ⟨(some 51), .pick (.t 35) (.t 50) (.c (.bool false)), (some (32, false))⟩,
  ⟨(some 52), .pick (.t 32) (.c (.bool true)) (.t 51), none⟩]) (.cond (.t 52) (.seq (.reg false [⟨(some 2), .mv (.c (.bool false)), none⟩]) (.ret)) (.skip)))) (.reg false [⟨(some 23), .mv (.t 3), none⟩,
  ⟨(some 24), .bin .add (.t 23) (.c (.int .i64 1)), none⟩,
  ⟨(some 3), .mv (.t 24), none⟩]))
def L_spec_BookOk_0 : ACode := B_spec_BookOk_0
def C_spec_BookOk : ACode := .seq (.reg false [⟨(some 1), .box (.t 0), none⟩,
  ⟨(some 2), .mv (.c (.bool false)), none⟩]) (.seq (.seq (.reg false [⟨(some 5), .fa 0 (.t 1), none⟩,
  ⟨(some 6), .loadn 4 (.t 5), none⟩,
  ⟨(some 7), .call F_spec_ConfOk [(.t 6)], none⟩,
  ⟨(some 8), .not (.t 7), none⟩,
  ⟨(some 9), .mv (.t 8), none⟩,
  ⟨(some 10), .fa 4 (.t 1), (some (9, false))⟩,
  ⟨(some 11), .load1 (.t 10), (some (9, false))⟩,
  ⟨(some 12), .len (.t 11), (some (9, false))⟩,
  ⟨(some 13), .fa 0 (.t 1), (some (9, false))⟩,
  ⟨(some 14), .fa 3 (.t 13), (some (9, false))⟩,
  ⟨(some 15), .load1 (.t 14), (some (9, false))⟩,
  ⟨(some 16), .bin .gtr (.t 12) (.t 15), (some (9, false))⟩,
  ⟨(some 17), .pick (.t 9) (.c (.bool true)) (.t 16), none⟩]) (.cond (.t 17) (.seq (.reg false [⟨(some 2), .mv (.c (.bool false)), none⟩]) (.ret)) (.skip))) (.seq (.seq (.reg false [⟨(some 3), .mv (.c (.int .i64 0)), none⟩]) (.block 0 (.loop K_spec_BookOk_0 L_spec_BookOk_0))) (.seq (.seq (.reg false [⟨(some 4), .mv (.c (.int .i64 0)), none⟩]) (.block 2 (.loop K_spec_BookOk_1 L_spec_BookOk_1))) (.seq (.reg false [⟨(some 2), .mv (.c (.bool true)), none⟩]) (.ret)))))
def A_spec_BookOk : AFun := ⟨C_spec_BookOk, 69, [.tmp 2]⟩
def K_spec_l19At_0 : List Bool := [false, true, true, false, false, true, false, false, false, false, false, false, false, false, false, false, false, false, false, false, false, false]
def B_spec_l19At_0 : ACode := .seq (.seq (.reg false [⟨(some 6), .mv (.t 5), none⟩,
  ⟨(some 7), .fa 4 (.t 2), none⟩,
  ⟨(some 8), .load1 (.t 7), none⟩,
  ⟨(some 9), .len (.t 8), none⟩,
  ⟨(some 10), .bin .lss (.t 6) (.t 9), none⟩]) (.cond (.t 10) (.skip) (.exit 0))) (.seq (.block 1 (.seq (.reg false [⟨(some 13), .fa 4 (.t 2), none⟩,
  ⟨(some 14), .load1 (.t 13), none⟩,
  ⟨(some 15), .mv (.t 5), none⟩,
  ⟨(some 16), .ia 2 (.t 14) (.t 15), none⟩,
  ⟨(some 17), .fa 0 (.t 16), none⟩,
  ⟨(some 18), .load1 (.t 17), none⟩,
  ⟨(some 19), .mv (.t 1), none⟩,
  ⟨(some 20), .bin .eql (.t 18) (.t 19), none⟩]) (.cond (.t 20) (.seq (.reg false [⟨(some 21), .mv (.t 5), none⟩,
  ⟨(some 4), .mv (.t 21), none⟩]) (.ret)) (.skip)))) (.reg false [⟨(some 11), .mv (.t 5), none⟩,
  ⟨(some 12), .bin .add (.t 11) (.c (.int .i64 1)), none⟩,
  ⟨(some 5), .mv (.t 12), none⟩]))
def L_spec_l19At_0 : ACode := B_spec_l19At_0
def C_spec_l19At : ACode := .seq (.reg false [⟨(some 2), .box (.t 0), none⟩,
  ⟨(some 4), .mv (.c (.int .i64 0)), none⟩]) (.seq (.seq (.reg false [⟨(some 5), .mv (.c (.int .i64 0)), none⟩]) (.block 0 (.loop K_spec_l19At_0 L_spec_l19At_0))) (.seq (.reg false [⟨(some 4), .mv (.c (.int .i64 (-1))), none⟩]) (.ret)))
def A_spec_l19At : AFun := ⟨C_spec_l19At, 22, [.tmp 4]⟩
def C_spec_BookFind : ACode := .seq (.reg false [⟨(some 2), .box (.t 0), none⟩,
  ⟨(some 4), .mv (.c (.int .i64 0)), none⟩]) (.seq (.seq (.reg false [⟨(some 5), .loadn 5 (.t 2), none⟩,
  ⟨(some 6), .call F_spec_BookOk [(.t 5)], none⟩,
  ⟨(some 7), .not (.t 6), none⟩]) (.cond (.t 7) (.seq (.reg false [⟨(some 4), .mv (.c (.int .i64 (-1))), none⟩]) (.ret)) (.skip))) (.seq (.reg false [⟨(some 8), .loadn 5 (.t 2), none⟩,
  ⟨(some 9), .mv (.t 1), none⟩,
  ⟨(some 10), .call F_spec_l19At [(.t 8), (.t 9)], none⟩,
  ⟨(some 4), .mv (.t 10), none⟩]) (.ret)))
def A_spec_BookFind : AFun := ⟨C_spec_BookFind, 11, [.tmp 4]⟩
def C_impl_within : ACode := .seq (.reg false [⟨(some 6), .mv (.c (.bool false)), none⟩]) (.seq (.reg false [⟨(some 7), .mv (.t 0), none⟩,
  ⟨(some 8), .mv (.t 1), none⟩,
  ⟨(some 9), .bin .geq (.t 7) (.t 8), none⟩,
  ⟨(some 10), .mv (.t 9), none⟩,
  ⟨(some 11), .mv (.t 0), (some (10, true))⟩,
  ⟨(some 12), .mv (.t 2), (some (10, true))⟩,
  ⟨(some 13), .bin .leq (.t 11) (.t 12), (some (10, true))⟩,
  ⟨(some 14), .pick (.t 10) (.t 13) (.c (.bool false)), none⟩,
  ⟨(some 6), .mv (.t 14), none⟩]) (.ret))
def A_impl_within : AFun := ⟨C_impl_within, 15, [.tmp 6]⟩
def K_impl_isWord_0 : List Bool := [true, false, false, false, false, true, true, false, false, false, false, false, false, false, false, false, false, false, false, false, false, false, false]
def B_impl_isWord_0 : ACode := .seq (.reg false [⟨(some 7), .bin .lss (.t 6) (.t 5), none⟩]) (.seq (.cond (.t 7) (.skip) (.exit 0)) (.seq (.block 1 (.seq (.reg false [⟨(some 8), .mv (.t 6), none⟩,
  ⟨(some 3), .mv (.t 8), none⟩]) (.seq (.reg false [⟨(some 9), .mv (.t 0), none⟩,
  ⟨(some 10), .mv (.t 3), none⟩,
  ⟨(some 11), .ix (.t 9) (.t 10), none⟩,
  ⟨(some 12), .bin .lss (.t 11) (.c (.int .u8 97)), none⟩,
  ⟨(some 13), .mv (.t 12), none⟩,
  ⟨(some 14), .mv (.t 0), (some (13, false))⟩,
  ⟨(some 15), .mv (.t 3), (some (13, false))⟩,
  ⟨(some 16), .ix (.t 14) (.t 15), (some (13, false))⟩,
  ⟨(some 17), .bin .gtr (.t 16) (.c (.int .u8 122)), (some (13, false))⟩,
  ⟨(some 18), .pick (.t 13) (.c (.bool true)) (.t 17), none⟩]) (.cond (.t 18) (.seq (.reg false [⟨(some 2), .mv (.c (.bool false)), none⟩]) (.ret)) (.skip))))) (.reg false [⟨(some 19), .bin .add (.t 6) (.c (.int .i64 1)), none⟩,
  ⟨(some 6), .mv (.t 19), none⟩])))
def L_impl_isWord_0 : ACode := B_impl_isWord_0
def C_impl_isWord : ACode := .seq (.reg false [⟨(some 2), .mv (.c (.bool false)), none⟩]) (.seq (.seq (.reg false [⟨(some 4), .mv (.t 0), none⟩,
  ⟨(some 5), .slen (.t 4), none⟩,
  ⟨(some 6), .mv (.c (.int .i64 0)), none⟩]) (.block 0 (.loop K_impl_isWord_0 L_impl_isWord_0))) (.seq (.reg false [⟨(some 20), .mv (.t 0), none⟩,
  ⟨(some 21), .slen (.t 20), none⟩,
  ⟨(some 22), .call F_impl_within [(.t 21), (.c (.int .i64 1)), (.c (.int .i64 32))], none⟩,
  ⟨(some 2), .mv (.t 22), none⟩]) (.ret)))
def A_impl_isWord : AFun := ⟨C_impl_isWord, 23, [.tmp 2]⟩
def C_impl_isEntry : ACode := .seq (.reg false [⟨(some 1), .box (.t 0), none⟩,
  ⟨(some 2), .mv (.c (.bool false)), none⟩]) (.seq (.reg false [⟨(some 3), .fa 0 (.t 1), none⟩,
  ⟨(some 4), .load1 (.t 3), none⟩,
  ⟨(some 5), .call F_impl_isWord [(.t 4)], none⟩,
  ⟨(some 6), .mv (.t 5), none⟩,
  ⟨(some 7), .fa 1 (.t 1), (some (6, true))⟩,
  ⟨(some 8), .load1 (.t 7), (some (6, true))⟩,
  ⟨(some 9), .call F_impl_within [(.t 8), (.c (.int .i64 0)), (.c (.int .i64 65535))], (some (6, true))⟩,
  ⟨(some 10), .pick (.t 6) (.t 9) (.c (.bool false)), none⟩,
  ⟨(some 2), .mv (.t 10), none⟩]) (.ret))
def A_impl_isEntry : AFun := ⟨C_impl_isEntry, 11, [.tmp 2]⟩
def C_impl_isDeepLog : ACode := .seq (.reg false [⟨(some 2), .mv (.c (.bool false)), none⟩]) (.seq (.reg false [⟨(some 3), .mv (.t 0), none⟩,
  ⟨(some 4), .call F_impl_within [(.t 3), (.c (.int .i64 2)), (.c (.int .i64 6))], none⟩,
  ⟨(some 2), .mv (.t 4), none⟩]) (.ret))
def A_impl_isDeepLog : AFun := ⟨C_impl_isDeepLog, 5, [.tmp 2]⟩
def C_impl_isConf : ACode := .seq (.reg false [⟨(some 1), .box (.t 0), none⟩,
  ⟨(some 2), .mv (.c (.bool false)), none⟩]) (.seq (.reg false [⟨(some 3), .fa 0 (.t 1), none⟩,
  ⟨(some 4), .load1 (.t 3), none⟩,
  ⟨(some 5), .call F_impl_within [(.t 4), (.c (.int .i64 0)), (.c (.int .i64 4294967295))], none⟩,
  ⟨(some 6), .mv (.t 5), none⟩,
  ⟨(some 7), .fa 1 (.t 1), (some (6, true))⟩,
  ⟨(some 8), .load1 (.t 7), (some (6, true))⟩,
  ⟨(some 9), .call F_impl_isDeepLog [(.t 8)], (some (6, true))⟩,
  ⟨(some 10), .pick (.t 6) (.t 9) (.c (.bool false)), none⟩,
  ⟨(some 11), .mv (.t 10), none⟩,
  ⟨(some 12), .fa 2 (.t 1), (some (11, true))⟩,
  ⟨(some 13), .load1 (.t 12), (some (11, true))⟩,
  ⟨(some 14), .call F_impl_within [(.t 13), (.c (.int .i64 0)), (.c (.int .i64 64))], (some (11, true))⟩,
  ⟨(some 15), .pick (.t 11) (.t 14) (.c (.bool false)), none⟩,
  ⟨(some 16), .mv (.t 15), none⟩,
  ⟨(some 17), .fa 3 (.t 1), (some (16, true))⟩,
  ⟨(some 18), .load1 (.t 17), (some (16, true))⟩,
  ⟨(some 19), .call F_impl_within [(.t 18), (.c (.int .i64 1)), (.c (.int .i64 64))], (some (16, true))⟩,
  ⟨(some 20), .pick (.t 16) (.t 19) (.c (.bool false)), none⟩,
  ⟨(some 2), .mv (.t 20), none⟩]) (.ret))
def A_impl_isConf : AFun := ⟨C_impl_isConf, 21, [.tmp 2]⟩
def C_impl_pad : ACode := .seq (.reg false [⟨(some 2), .mv (.c (.slice none 0 0)), none⟩]) (.seq (.reg false [⟨(some 4), .make 1 1 [(.int .u8 0)] (.c (.int .i64 33)), none⟩,
  ⟨(some 3), .mv (.t 4), none⟩]) (.seq (.seq (.reg false [⟨(some 5), .mv (.t 0), none⟩,
  ⟨(some 6), .call F_impl_isWord [(.t 5)], none⟩]) (.cond (.t 6) (.seq (.reg false [⟨(some 7), .mv (.t 3), none⟩,
  ⟨(some 8), .mv (.t 0), none⟩,
  ⟨(some 9), .slen (.t 8), none⟩,
  ⟨(some 10), .conv .u8 (.t 9), none⟩,
  ⟨(some 11), .ia 1 (.t 7) (.c (.int .i64 0)), none⟩,
  ⟨none, .store 1 (.t 11) (.t 10), none⟩]) (.reg false [⟨(some 12), .mv (.t 3), none⟩,
  ⟨(some 13), .slc 1 (.t 12) (some (.c (.int .i64 1))) none, none⟩,
  ⟨(some 14), .mv (.t 0), none⟩,
  ⟨(some 15), .copys (.t 13) (.t 14), none⟩])) (.skip))) (.seq (.reg false [⟨(some 16), .mv (.t 3), none⟩,
  ⟨(some 2), .mv (.t 16), none⟩]) (.ret))))
def A_impl_pad : AFun := ⟨C_impl_pad, 17, [.tmp 2]⟩
def K_impl_hashWord_0 : List Bool := [false, false, false, false, false, true, false, false, false, false, false, true, true, true, false, false, false, false, false, false, false, false, false, false, false, false, false, false]
def B_impl_hashWord_0 : ACode := .seq (.reg false [⟨(some 14), .bin .lss (.t 13) (.t 12), none⟩]) (.seq (.cond (.t 14) (.skip) (.exit 0)) (.seq (.block 1 (.seq (.reg false [⟨(some 15), .ia 1 (.t 11) (.t 13), none⟩,
  ⟨(some 16), .load1 (.t 15), none⟩,
  ⟨(some 7), .mv (.t 16), none⟩]) (.reg false [⟨(some 17), .mv (.t 5), none⟩,
  ⟨(some 18), .mv (.t 7), none⟩,
  ⟨(some 19), .conv .u32 (.t 18), none⟩,
  ⟨(some 20), .bin .xor (.t 17) (.t 19), none⟩,
  ⟨(some 21), .bin .mul (.t 20) (.c (.int .u32 16777619)), none⟩,
  ⟨(some 5), .mv (.t 21), none⟩]))) (.reg false [⟨(some 22), .bin .add (.t 13) (.c (.int .i64 1)), none⟩,
  ⟨(some 13), .mv (.t 22), none⟩])))
def L_impl_hashWord_0 : ACode := B_impl_hashWord_0
def C_impl_hashWord : ACode := .seq (.reg false [⟨(some 4), .mv (.c (.int .i64 0)), none⟩]) (.seq (.reg false [⟨(some 8), .mv (.t 0), none⟩,
  ⟨(some 9), .conv .u32 (.t 8), none⟩,
  ⟨(some 5), .mv (.t 9), none⟩]) (.seq (.seq (.reg false [⟨(some 10), .mv (.t 1), none⟩,
  ⟨(some 11), .call F_impl_pad [(.t 10)], none⟩,
  ⟨(some 12), .len (.t 11), none⟩,
  ⟨(some 13), .mv (.c (.int .i64 0)), none⟩]) (.block 0 (.loop K_impl_hashWord_0 L_impl_hashWord_0))) (.seq (.reg false [⟨(some 23), .mv (.t 5), none⟩,
  ⟨(some 24), .mv (.t 5), none⟩,
  ⟨(some 25), .bin .shr (.t 24) (.c (.int .u64 16)), none⟩,
  ⟨(some 26), .bin .xor (.t 23) (.t 25), none⟩,
  ⟨(some 27), .conv .i64 (.t 26), none⟩,
  ⟨(some 4), .mv (.t 27), none⟩]) (.ret))))
def A_impl_hashWord : AFun := ⟨C_impl_hashWord, 28, [.tmp 4]⟩
def C_impl_shelfFor : ACode := .seq (.reg false [⟨(some 6), .mv (.c (.int .i64 0)), none⟩]) (.seq (.reg true [⟨(some 7), .mv (.t 0), none⟩,
  ⟨(some 8), .mv (.t 1), none⟩,
  ⟨(some 9), .call F_impl_hashWord [(.t 7), (.t 8)], none⟩,
  ⟨(some 10), .mv (.t 2), none⟩,
  ⟨(some 11), .bin .shl (.c (.int .i64 1)) (.t 10), none⟩,
  ⟨(some 12), .bin .sub (.t 11) (.c (.int .i64 1)), none⟩,
  ⟨(some 13), .bin .and (.t 9) (.t 12), none⟩,
  ⟨(some 6), .mv (.t 13), none⟩]) (.ret))
def A_impl_shelfFor : AFun := ⟨C_impl_shelfFor, 14, [.tmp 6]⟩
def K_slices_Max_int_int_0 : List Bool := [true, false, false, true, true, false, false, false, false, false, false, false, false, false, false, false, false, false, false, false, false, false, false, false, false]
def B_slices_Max_int_int_0 : ACode := .seq (.seq (.reg false [⟨(some 12), .mv (.t 4), none⟩,
  ⟨(some 13), .mv (.t 0), none⟩,
  ⟨(some 14), .len (.t 13), none⟩,
  ⟨(some 15), .bin .lss (.t 12) (.t 14), none⟩]) (.cond (.t 15) (.skip) (.exit 0))) (.seq (.block 1 (.reg false [⟨(some 18), .mv (.t 3), none⟩,
  ⟨(some 19), .mv (.t 0), none⟩,
  ⟨(some 20), .mv (.t 4), none⟩,
  ⟨(some 21), .ia 1 (.t 19) (.t 20), none⟩,
  ⟨(some 22), .load1 (.t 21), none⟩,
  ⟨(some 23), .maxs (.t 18) [(.t 22)], none⟩,
  ⟨(some 3), .mv (.t 23), none⟩])) (.reg false [⟨(some 16), .mv (.t 4), none⟩,
  ⟨(some 17), .bin .add (.t 16) (.c (.int .i64 1)), none⟩,
  ⟨(some 4), .mv (.t 17), none⟩]))
def L_slices_Max_int_int_0 : ACode := B_slices_Max_int_int_0
def C_slices_Max_int_int : ACode := .seq (.reg false [⟨(some 2), .mv (.c (.int .i64 0)), none⟩]) (.seq (.seq (.reg false [⟨(some 5), .mv (.t 0), none⟩,
  ⟨(some 6), .len (.t 5), none⟩,
  ⟨(some 7), .bin .lss (.t 6) (.c (.int .i64 1)), none⟩]) (.cond (.t 7) (.reg false [⟨(some 8), .bad, none⟩,
  ⟨none, .bad, none⟩]) (.skip))) (.seq (.reg false [⟨(some 9), .mv (.t 0), none⟩,
  ⟨(some 10), .ia 1 (.t 9) (.c (.int .i64 0)), none⟩,
  ⟨(some 11), .load1 (.t 10), none⟩,
  ⟨(some 3), .mv (.t 11), none⟩]) (.seq (.seq (.reg false [⟨(some 4), .mv (.c (.int .i64 1)), none⟩]) (.block 0 (.loop K_slices_Max_int_int_0 L_slices_Max_int_int_0))) (.seq (.reg false [⟨(some 24), .mv (.t 3), none⟩,
  ⟨(some 2), .mv (.t 24), none⟩]) (.ret)))))
def A_slices_Max_int_int : AFun := ⟨C_slices_Max_int_int, 25, [.tmp 2]⟩
def K_impl_isBook_0 : List Bool := [false, true, false, true, false, false, false, false, false, false, false, false, false, false, false, false, false, false, false, false, false, false, false, false, false, true, true, true, false, false, false, false, false, false, false, false, false, false, false, false, false, false, false, false, false, false, false, false, false, false, false, false, false, false, false, false, false, false, false, false, false, false, false, false, false, false, false, false, false]
def B_impl_isBook_0 : ACode := .seq (.reg false [⟨(some 28), .bin .lss (.t 27) (.t 26), none⟩]) (.seq (.cond (.t 28) (.skip) (.exit 0)) (.seq (.block 1 (.seq (.reg false [⟨(some 29), .mv (.t 27), none⟩,
  ⟨(some 30), .ia 2 (.t 25) (.t 27), none⟩,
  ⟨(some 31), .loadn 2 (.t 30), none⟩,
  ⟨(some 5), .new [(.string ⟨#[]⟩), (.int .i64 0)], none⟩,
  ⟨(some 4), .mv (.t 29), none⟩,
  ⟨none, .store 2 (.t 5) (.t 31), none⟩]) (.seq (.seq (.reg true [⟨(some 32), .loadn 2 (.t 5), none⟩,
  ⟨(some 33), .call F_impl_isEntry [(.t 32)], none⟩,
  ⟨(some 34), .not (.t 33), none⟩,
  ⟨(some 35), .mv (.t 34), none⟩,
  ⟨(some 36), .mv (.t 4), (some (35, false))⟩,
  ⟨(some 37), .bin .gtr (.t 36) (.c (.int .i64 0)), (some (35, false))⟩,
  ⟨(some 38), .mv (.t 37), (some (35, false))⟩,
  ⟨(some 39), .fa 4 (.t 1), (some (38, true))⟩,
  ⟨(some 40), .load1 (.t 39), (some (38, true))⟩,
  ⟨(some 41), .mv (.t 4), (some (38, true))⟩,
  ⟨(some 42), .bin .sub (.t 41) (.c (.int .i64 1)), (some (38, true))⟩,
  ⟨(some 43), .ia 2 (.t 40) (.t 42), (some (38, true))⟩,
  ⟨(some 44), .fa 0 (.t 43), (some (38, true))⟩,
  ⟨(some 45), .load1 (.t 44), (some (38, true))⟩,
  ⟨(some 46), .fa 0 (.t 5), (some (38, true))⟩,
  ⟨(some 47), .load1 (.t 46), (some (38, true))⟩,
  ⟨(some 48), .bin .geq (.t 45) (.t 47), (some (38, true))⟩,
  ⟨(some 49), .pick (.t 38) (.t 48) (.c (.bool false)), (some (35, false))⟩,
  ⟨(some 50), .pick (.t 35) (.c (.bool true)) (.t 49), none⟩]) (.cond (.t 50) (.seq (.reg false [⟨(some 2), .mv (.c (.bool false)), none⟩]) (.ret)) (.skip))) (.reg false [⟨(some 51), .mv (.t 3), none⟩,
  ⟨(some 52), .fa 0 (.t 1), none⟩,
  ⟨(some 53), .fa 0 (.t 52), none⟩,
  ⟨(some 54), .load1 (.t 53), none⟩,
  ⟨(some 55), .fa 0 (.t 5), none⟩,
  ⟨(some 56), .load1 (.t 55), none⟩,
  ⟨(some 57), .fa 0 (.t 1), none⟩,
  ⟨(some 58), .fa 1 (.t 57), none⟩,
  ⟨(some 59), .load1 (.t 58), none⟩,
  ⟨(some 60), .call F_impl_shelfFor [(.t 54), (.t 56), (.t 59)], none⟩,
  ⟨(some 61), .ia 1 (.t 51) (.t 60), none⟩,
  ⟨(some 62), .load1 (.t 61), none⟩,
  ⟨(some 63), .bin .add (.t 62) (.c (.int .i64 1)), none⟩,
  ⟨(some 64), .ia 1 (.t 51) (.t 60), none⟩,
  ⟨none, .store 1 (.t 64) (.t 63), none⟩])))) (.reg false [⟨(some 65), .bin .add (.t 27) (.c (.int .i64 1)), none⟩,
  ⟨(some 27), .mv (.t 65), none⟩])))
def L_impl_isBook_0 : ACode := B_impl_isBook_0
def C_impl_isBook : ACode := .seq (.reg false [⟨(some 1), .box (.t 0), none⟩,
  ⟨(some 2), .mv (.c (.bool false)), none⟩]) (.seq (.seq (.reg false [⟨(some 6), .fa 0 (.t 1), none⟩,
  ⟨(some 7), .loadn 4 (.t 6), none⟩,
  ⟨(some 8), .call F_impl_isConf [(.t 7)], none⟩,
  ⟨(some 9), .not (.t 8), none⟩,
  ⟨(some 10), .mv (.t 9), none⟩,
  ⟨(some 11), .fa 4 (.t 1), (some (10, false))⟩,
  ⟨(some 12), .load1 (.t 11), (some (10, false))⟩,
  ⟨(some 13), .len (.t 12), (some (10, false))⟩,
  ⟨(some 14), .fa 0 (.t 1), (some (10, false))⟩,
  ⟨(some 15), .fa 3 (.t 14), (some (10, false))⟩,
  ⟨(some 16), .load1 (.t 15), (some (10, false))⟩,
  ⟨(some 17), .bin .gtr (.t 13) (.t 16), (some (10, false))⟩,
  ⟨(some 18), .pick (.t 10) (.c (.bool true)) (.t 17), none⟩]) (.cond (.t 18) (.seq (.reg false [⟨(some 2), .mv (.c (.bool false)), none⟩]) (.ret)) (.skip))) (.seq (.reg false [⟨(some 19), .fa 0 (.t 1), none⟩,
  ⟨(some 20), .fa 1 (.t 19), none⟩,
  ⟨(some 21), .load1 (.t 20), none⟩,
  ⟨(some 22), .bin .shl (.c (.int .i64 1)) (.t 21), none⟩,
  ⟨(some 23), .make 1 8 [(.int .i64 0)] (.t 22), none⟩,
  ⟨(some 3), .mv (.t 23), none⟩]) (.seq (.seq (.reg false [⟨(some 24), .fa 4 (.t 1), none⟩,
  ⟨(some 25), .load1 (.t 24), none⟩,
  ⟨(some 26), .len (.t 25), none⟩,
  ⟨(some 27), .mv (.c (.int .i64 0)), none⟩]) (.block 0 (.loop K_impl_isBook_0 L_impl_isBook_0))) (.seq (.reg false [⟨(some 66), .mv (.t 3), none⟩,
  ⟨(some 67), .call F_slices_Max_int_int [(.t 66)], none⟩,
  ⟨(some 68), .bin .leq (.t 67) (.c (.int .i64 4)), none⟩,
  ⟨(some 2), .mv (.t 68), none⟩]) (.ret)))))
def A_impl_isBook : AFun := ⟨C_impl_isBook, 69, [.tmp 2]⟩
def K_slices_BinarySearchFunc_impl_Entry_impl_Entry_string_0 : List Bool := [true, true, true, false, false, false, false, false, true, true, true, false, false, false, false, false, false, false, false, false, false, false, false, false, false, false, false, false, false, false, false, false, false, false, false, false, false, false, false, false, false, false, false, false, false, false, false, false, false]
def B_slices_BinarySearchFunc_impl_Entry_impl_Entry_string_0 : ACode := .seq (.seq (.reg false [⟨(some 15), .mv (.t 9), none⟩,
  ⟨(some 16), .mv (.t 10), none⟩,
  ⟨(some 17), .bin .lss (.t 15) (.t 16), none⟩]) (.cond (.t 17) (.skip) (.exit 0))) (.block 1 (.seq (.reg false [⟨(some 18), .mv (.t 9), none⟩,
  ⟨(some 19), .mv (.t 10), none⟩,
  ⟨(some 20), .bin .add (.t 18) (.t 19), none⟩,
  ⟨(some 21), .conv .u64 (.t 20), none⟩,
  ⟨(some 22), .bin .shr (.t 21) (.c (.int .u64 1)), none⟩,
  ⟨(some 23), .conv .i64 (.t 22), none⟩,
  ⟨(some 11), .mv (.t 23), none⟩]) (.seq (.reg false [⟨(some 24), .mv (.t 2), none⟩,
  ⟨(some 25), .mv (.t 0), none⟩,
  ⟨(some 26), .mv (.t 11), none⟩,
  ⟨(some 27), .ia 2 (.t 25) (.t 26), none⟩,
  ⟨(some 28), .loadn 2 (.t 27), none⟩,
  ⟨(some 29), .mv (.t 1), none⟩,
  ⟨(some 30), .callv (.t 24) [(.t 28), (.t 29)], none⟩,
  ⟨(some 31), .bin .lss (.t 30) (.c (.int .i64 0)), none⟩]) (.cond (.t 31) (.reg false [⟨(some 32), .mv (.t 11), none⟩,
  ⟨(some 33), .bin .add (.t 32) (.c (.int .i64 1)), none⟩,
  ⟨(some 9), .mv (.t 33), none⟩]) (.reg false [⟨(some 34), .mv (.t 11), none⟩,
  ⟨(some 10), .mv (.t 34), none⟩])))))
def L_slices_BinarySearchFunc_impl_Entry_impl_Entry_string_0 : ACode := B_slices_BinarySearchFunc_impl_Entry_impl_Entry_string_0
def C_slices_BinarySearchFunc_impl_Entry_impl_Entry_string : ACode := .seq (.reg false [⟨(some 6), .mv (.c (.int .i64 0)), none⟩,
  ⟨(some 7), .mv (.c (.bool false)), none⟩]) (.seq (.reg false [⟨(some 12), .mv (.t 0), none⟩,
  ⟨(some 13), .len (.t 12), none⟩,
  ⟨(some 8), .mv (.t 13), none⟩]) (.seq (.reg false [⟨(some 14), .mv (.t 8), none⟩,
  ⟨(some 9), .mv (.c (.int .i64 0)), none⟩,
  ⟨(some 10), .mv (.t 14), none⟩]) (.seq (.block 0 (.loop K_slices_BinarySearchFunc_impl_Entry_impl_Entry_string_0 L_slices_BinarySearchFunc_impl_Entry_impl_Entry_string_0)) (.seq (.reg false [⟨(some 35), .mv (.t 9), none⟩,
  ⟨(some 36), .mv (.t 9), none⟩,
  ⟨(some 37), .mv (.t 8), none⟩,
  ⟨(some 38), .bin .lss (.t 36) (.t 37), none⟩,
  ⟨(some 39), .mv (.t 38), none⟩,
  ⟨(some 40), .mv (.t 2), (some (39, true))⟩,
  ⟨(some 41), .mv (.t 0), (some (39, true))⟩,
  ⟨(some 42), .mv (.t 9), (some (39, true))⟩,
  ⟨(some 43), .ia 2 (.t 41) (.t 42), (some (39, true))⟩,
  ⟨(some 44), .loadn 2 (.t 43), (some (39, true))⟩,
  ⟨(some 45), .mv (.t 1), (some (39, true))⟩,
  ⟨(some 46), .callv (.t 40) [(.t 44), (.t 45)], (some (39, true))⟩,
  ⟨(some 47), .bin .eql (.t 46) (.c (.int .i64 0)), (some (39, true))⟩,
  ⟨(some 48), .pick (.t 39) (.t 47) (.c (.bool false)), none⟩,
  ⟨(some 6), .mv (.t 35), none⟩,
  ⟨(some 7), .mv (.t 48), none⟩]) (.ret)))))
def A_slices_BinarySearchFunc_impl_Entry_impl_Entry_string : AFun := ⟨C_slices_BinarySearchFunc_impl_Entry_impl_Entry_string, 49, [.tmp 6, .tmp 7]⟩
def C_cmp_isNaN_string : ACode := .seq (.reg false [⟨(some 2), .mv (.c (.bool false)), none⟩]) (.seq (.reg false [⟨(some 3), .mv (.t 0), none⟩,
  ⟨(some 4), .mv (.t 0), none⟩,
  ⟨(some 5), .bin .neq (.t 3) (.t 4), none⟩,
  ⟨(some 2), .mv (.t 5), none⟩]) (.ret))
def A_cmp_isNaN_string : AFun := ⟨C_cmp_isNaN_string, 6, [.tmp 2]⟩
def C_cmp_Compare_string : ACode := .seq (.reg false [⟨(some 4), .mv (.c (.int .i64 0)), none⟩]) (.seq (.reg false [⟨(some 7), .mv (.t 0), none⟩,
  ⟨(some 8), .call F_cmp_isNaN_string [(.t 7)], none⟩,
  ⟨(some 5), .mv (.t 8), none⟩]) (.seq (.reg false [⟨(some 9), .mv (.t 1), none⟩,
  ⟨(some 10), .call F_cmp_isNaN_string [(.t 9)], none⟩,
  ⟨(some 6), .mv (.t 10), none⟩]) (.seq (.seq (.reg false [⟨(some 11), .mv (.t 5), none⟩]) (.cond (.t 11) (.seq (.seq (.reg false [⟨(some 12), .mv (.t 6), none⟩]) (.cond (.t 12) (.seq (.reg false [⟨(some 4), .mv (.c (.int .i64 0)), none⟩]) (.ret)) (.skip))) (.seq (.reg false [⟨(some 4), .mv (.c (.int .i64 (-1))), none⟩]) (.ret))) (.skip))) (.seq (.seq (.reg false [⟨(some 13), .mv (.t 6), none⟩]) (.cond (.t 13) (.seq (.reg false [⟨(some 4), .mv (.c (.int .i64 1)), none⟩]) (.ret)) (.skip))) (.seq (.seq (.reg false [⟨(some 14), .mv (.t 0), none⟩,
  ⟨(some 15), .mv (.t 1), none⟩,
  ⟨(some 16), .bin .lss (.t 14) (.t 15), none⟩]) (.cond (.t 16) (.seq (.reg false [⟨(some 4), .mv (.c (.int .i64 (-1))), none⟩]) (.ret)) (.skip))) (.seq (.seq (.reg false [⟨(some 17), .mv (.t 0), none⟩,
  ⟨(some 18), .mv (.t 1), none⟩,
  ⟨(some 19), .bin .gtr (.t 17) (.t 18), none⟩]) (.cond (.t 19) (.seq (.reg false [⟨(some 4), .mv (.c (.int .i64 1)), none⟩]) (.ret)) (.skip))) (.seq (.reg false [⟨(some 4), .mv (.c (.int .i64 0)), none⟩]) (.ret))))))))
def A_cmp_Compare_string : AFun := ⟨C_cmp_Compare_string, 20, [.tmp 4]⟩
def C_impl_bookFind_1 : ACode := .seq (.reg false [⟨(some 2), .box (.t 0), none⟩,
  ⟨(some 4), .mv (.c (.int .i64 0)), none⟩]) (.seq (.reg false [⟨(some 5), .fa 0 (.t 2), none⟩,
  ⟨(some 6), .load1 (.t 5), none⟩,
  ⟨(some 7), .mv (.t 1), none⟩,
  ⟨(some 8), .call F_cmp_Compare_string [(.t 6), (.t 7)], none⟩,
  ⟨(some 4), .mv (.t 8), none⟩]) (.ret))
def A_impl_bookFind_1 : AFun := ⟨C_impl_bookFind_1, 9, [.tmp 4]⟩
def C_impl_bookFind : ACode := .seq (.reg false [⟨(some 2), .box (.t 0), none⟩,
  ⟨(some 4), .mv (.c (.int .i64 0)), none⟩,
  ⟨(some 5), .mv (.c (.bool false)), none⟩]) (.seq (.reg false [⟨(some 6), .fa 4 (.t 2), none⟩,
  ⟨(some 7), .load1 (.t 6), none⟩,
  ⟨(some 8), .mv (.t 1), none⟩,
  ⟨(some 9), .call F_slices_BinarySearchFunc_impl_Entry_impl_Entry_string [(.t 7), (.t 8), (.c (.func (.func F_impl_bookFind_1) #[] #[]))], none⟩,
  ⟨(some 10), .ext (.t 9) 0, none⟩,
  ⟨(some 11), .ext (.t 9) 1, none⟩,
  ⟨(some 4), .mv (.t 10), none⟩,
  ⟨(some 5), .mv (.t 11), none⟩]) (.ret))
def A_impl_bookFind : AFun := ⟨C_impl_bookFind, 12, [.tmp 4, .tmp 5]⟩
def C_impl_BookFind : ACode := .seq (.reg false [⟨(some 2), .box (.t 0), none⟩,
  ⟨(some 4), .mv (.c (.int .i64 0)), none⟩]) (.seq (.reg false [⟨(some 8), .loadn 5 (.t 2), none⟩,
  ⟨(some 9), .mv (.t 1), none⟩,
  ⟨(some 10), .call F_impl_bookFind [(.t 8), (.t 9)], none⟩,
  ⟨(some 7), .mv (.t 10), none⟩,
  ⟨(some 11), .ext (.t 7) 0, none⟩,
  ⟨(some 12), .ext (.t 7) 1, none⟩,
  ⟨(some 5), .mv (.t 11), none⟩,
  ⟨(some 6), .mv (.t 12), none⟩]) (.seq (.seq (.reg false [⟨(some 13), .loadn 5 (.t 2), none⟩,
  ⟨(some 14), .call F_impl_isBook [(.t 13)], none⟩,
  ⟨(some 15), .not (.t 14), none⟩,
  ⟨(some 16), .mv (.t 15), none⟩,
  ⟨(some 17), .mv (.t 6), (some (16, false))⟩,
  ⟨(some 18), .not (.t 17), (some (16, false))⟩,
  ⟨(some 19), .pick (.t 16) (.c (.bool true)) (.t 18), none⟩]) (.cond (.t 19) (.seq (.reg false [⟨(some 4), .mv (.c (.int .i64 (-1))), none⟩]) (.ret)) (.skip))) (.seq (.reg false [⟨(some 20), .mv (.t 5), none⟩,
  ⟨(some 4), .mv (.t 20), none⟩]) (.ret))))
def A_impl_BookFind : AFun := ⟨C_impl_BookFind, 21, [.tmp 4]⟩
def C_laws_FnExactBookFind : ACode := .seq (.reg false [⟨(some 2), .box (.t 0), none⟩,
  ⟨(some 4), .mv (.c (.bool false)), none⟩]) (.seq (.seq (.reg false [⟨(some 9), .mv (.t 1), none⟩,
  ⟨(some 10), .slen (.t 9), none⟩,
  ⟨(some 11), .bin .gtr (.t 10) (.c (.int .i64 1048576)), none⟩]) (.cond (.t 11) (.seq (.reg false [⟨(some 4), .mv (.c (.bool true)), none⟩]) (.ret)) (.skip))) (.seq (.reg false [⟨(some 5), .mv (.c (.int .i64 1048576)), none⟩]) (.seq (.reg false [⟨(some 12), .loadn 5 (.t 2), none⟩,
  ⟨(some 13), .mv (.t 5), none⟩,
  ⟨(some 14), .call F_laws_szBook [(.t 12), (.t 13)], none⟩,
  ⟨(some 5), .mv (.t 14), none⟩]) (.seq (.seq (.reg false [⟨(some 15), .mv (.t 5), none⟩,
  ⟨(some 16), .bin .lss (.t 15) (.c (.int .i64 0)), none⟩]) (.cond (.t 16) (.seq (.reg false [⟨(some 4), .mv (.c (.bool true)), none⟩]) (.ret)) (.skip))) (.seq (.reg false [⟨(some 17), .loadn 5 (.t 2), none⟩,
  ⟨(some 18), .call F_laws_toBook [(.t 17)], none⟩,
  ⟨(some 19), .mv (.t 1), none⟩,
  ⟨(some 20), .call F_spec_BookFind [(.t 18), (.t 19)], none⟩,
  ⟨(some 6), .mv (.t 20), none⟩]) (.seq (.reg false [⟨(some 21), .loadn 5 (.t 2), none⟩,
  ⟨(some 22), .call F_laws_toBook [(.t 21)], none⟩,
  ⟨(some 7), .new [(.int .i64 0), (.int .i64 0), (.int .i64 0), (.int .i64 0), (.slice none 0 0)], none⟩,
  ⟨none, .store 5 (.t 7) (.t 22), none⟩]) (.seq (.reg false [⟨(some 23), .loadn 5 (.t 7), none⟩,
  ⟨(some 24), .mv (.t 1), none⟩,
  ⟨(some 25), .call F_impl_BookFind [(.t 23), (.t 24)], none⟩,
  ⟨(some 8), .mv (.t 25), none⟩]) (.seq (.seq (.reg false [⟨(some 26), .mv (.t 8), none⟩,
  ⟨(some 27), .mv (.t 6), none⟩,
  ⟨(some 28), .bin .neq (.t 26) (.t 27), none⟩]) (.cond (.t 28) (.seq (.reg false [⟨(some 4), .mv (.c (.bool false)), none⟩]) (.ret)) (.skip))) (.seq (.seq (.reg true [⟨(some 29), .loadn 5 (.t 7), none⟩,
  ⟨(some 30), .loadn 5 (.t 2), none⟩,
  ⟨(some 31), .call F_laws_toBook [(.t 30)], none⟩,
  ⟨(some 32), .call F_laws_eqBook [(.t 29), (.t 31)], none⟩,
  ⟨(some 33), .not (.t 32), none⟩]) (.cond (.t 33) (.seq (.reg false [⟨(some 4), .mv (.c (.bool false)), none⟩]) (.ret)) (.skip))) (.seq (.reg false [⟨(some 4), .mv (.c (.bool true)), none⟩]) (.ret)))))))))))
def A_laws_FnExactBookFind : AFun := ⟨C_laws_FnExactBookFind, 34, [.tmp 4]⟩
end GoAm
