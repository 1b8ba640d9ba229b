/- The code that the law reaches, for the abstract machine: printed by a program. -/
import Derived.Test.YtambjdldjgehkaaAmDef
set_option autoImplicit false
set_option linter.unusedVariables false
set_option linter.unusedSimpArgs false
namespace GoAm
open Go
def F_laws_szEntry : Go.FuncId := 45
def F_laws_szEntryS : Go.FuncId := 69
def F_laws_szShelf : Go.FuncId := 21
def F_laws_toEntry : Go.FuncId := 47
def F_laws_toEntryS : Go.FuncId := 72
def F_laws_toShelf : Go.FuncId := 23
def F_laws_eqEntry : Go.FuncId := 113
def F_laws_eqEntryS : Go.FuncId := 76
def F_laws_eqShelf : Go.FuncId := 25
def F_laws_markText : Go.FuncId := 125
def F_laws_markEntryS : Go.FuncId := 97
def F_laws_markShelf : Go.FuncId := 43
def F_slices_IndexFunc_impl_Entry_impl_Entry : Go.FuncId := 111
def F_impl_shelfFind_1 : Go.FuncId := 112
def F_impl_shelfFind : Go.FuncId := 75
def F_impl_within : Go.FuncId := 80
def F_impl_isWord : Go.FuncId := 74
def F_impl_isEntry : Go.FuncId := 100
def F_impl_isShelf : Go.FuncId := 73
def F_impl_pad : Go.FuncId := 128
def F_impl_shelfOf : Go.FuncId := 103
def F_impl_ShelfOf : Go.FuncId := 52
def F_spec_l17At : Go.FuncId := 71
def F_spec_WordOk : Go.FuncId := 70
def F_spec_l17Full : Go.FuncId := 99
def F_spec_l17None : Go.FuncId := 104
def F_spec_ShelfOk : Go.FuncId := 53
def F_spec_l09Two : Go.FuncId := 106
def F_spec_Pad : Go.FuncId := 107
def F_spec_ShelfOf : Go.FuncId := 57
def F_laws_eqByteS : Go.FuncId := 58
def F_laws_markByteS : Go.FuncId := 59
def F_laws_heldByteS : Go.FuncId := 60
def F_laws_FnExactShelfOf : Go.FuncId := 14
def C_laws_szEntry : ACode := .seq (.reg false [⟨(some 2), .box (.t 0), none⟩,
  ⟨(some 4), .mv (.c (.int .i64 0)), none⟩]) (.seq (.reg false [⟨(some 5), .mv (.t 1), none⟩,
  ⟨(some 6), .fa 0 (.t 2), none⟩,
  ⟨(some 7), .load1 (.t 6), none⟩,
  ⟨(some 8), .slen (.t 7), none⟩,
  ⟨(some 9), .bin .sub (.t 5) (.t 8), none⟩,
  ⟨(some 1), .mv (.t 9), none⟩]) (.seq (.seq (.reg false [⟨(some 10), .mv (.t 1), none⟩,
  ⟨(some 11), .bin .lss (.t 10) (.c (.int .i64 0)), none⟩]) (.cond (.t 11) (.seq (.reg false [⟨(some 4), .mv (.c (.int .i64 (-1))), none⟩]) (.ret)) (.skip))) (.seq (.reg false [⟨(some 12), .mv (.t 1), none⟩,
  ⟨(some 4), .mv (.t 12), none⟩]) (.ret))))
def A_laws_szEntry : AFun := ⟨C_laws_szEntry, 13, [.tmp 4]⟩
def K_laws_szEntryS_0 : List Bool := [true, true, false, false, false, true, false, false, false, false, false, false, false, false, false, false, false, false, false, false, false, false, false, false, false, false, false]
def B_laws_szEntryS_0 : ACode := .seq (.seq (.reg false [⟨(some 12), .mv (.t 5), none⟩,
  ⟨(some 13), .mv (.t 0), none⟩,
  ⟨(some 14), .len (.t 13), none⟩,
  ⟨(some 15), .bin .lss (.t 12) (.t 14), none⟩]) (.cond (.t 15) (.skip) (.exit 0))) (.seq (.block 1 (.seq (.reg false [⟨(some 18), .mv (.t 0), none⟩,
  ⟨(some 19), .mv (.t 5), none⟩,
  ⟨(some 20), .ia 2 (.t 18) (.t 19), none⟩,
  ⟨(some 21), .loadn 2 (.t 20), none⟩,
  ⟨(some 22), .mv (.t 1), none⟩,
  ⟨(some 23), .call F_laws_szEntry [(.t 21), (.t 22)], none⟩,
  ⟨(some 1), .mv (.t 23), none⟩]) (.seq (.reg false [⟨(some 24), .mv (.t 1), none⟩,
  ⟨(some 25), .bin .lss (.t 24) (.c (.int .i64 0)), none⟩]) (.cond (.t 25) (.seq (.reg false [⟨(some 4), .mv (.c (.int .i64 (-1))), none⟩]) (.ret)) (.skip))))) (.reg false [⟨(some 16), .mv (.t 5), none⟩,
  ⟨(some 17), .bin .add (.t 16) (.c (.int .i64 1)), none⟩,
  ⟨(some 5), .mv (.t 17), none⟩]))
def L_laws_szEntryS_0 : ACode := B_laws_szEntryS_0
def C_laws_szEntryS : ACode := .seq (.reg false [⟨(some 4), .mv (.c (.int .i64 0)), none⟩]) (.seq (.reg false [⟨(some 6), .mv (.t 1), none⟩,
  ⟨(some 7), .mv (.t 0), none⟩,
  ⟨(some 8), .len (.t 7), none⟩,
  ⟨(some 9), .bin .sub (.t 6) (.t 8), none⟩,
  ⟨(some 1), .mv (.t 9), none⟩]) (.seq (.seq (.reg false [⟨(some 10), .mv (.t 1), none⟩,
  ⟨(some 11), .bin .lss (.t 10) (.c (.int .i64 0)), none⟩]) (.cond (.t 11) (.seq (.reg false [⟨(some 4), .mv (.c (.int .i64 (-1))), none⟩]) (.ret)) (.skip))) (.seq (.seq (.reg false [⟨(some 5), .mv (.c (.int .i64 0)), none⟩]) (.block 0 (.loop K_laws_szEntryS_0 L_laws_szEntryS_0))) (.seq (.reg false [⟨(some 26), .mv (.t 1), none⟩,
  ⟨(some 4), .mv (.t 26), none⟩]) (.ret)))))
def A_laws_szEntryS : AFun := ⟨C_laws_szEntryS, 27, [.tmp 4]⟩
def C_laws_szShelf : ACode := .seq (.reg false [⟨(some 2), .box (.t 0), none⟩,
  ⟨(some 4), .mv (.c (.int .i64 0)), none⟩]) (.seq (.reg false [⟨(some 5), .fa 0 (.t 2), none⟩,
  ⟨(some 6), .load1 (.t 5), none⟩,
  ⟨(some 7), .mv (.t 1), none⟩,
  ⟨(some 8), .call F_laws_szEntryS [(.t 6), (.t 7)], none⟩,
  ⟨(some 1), .mv (.t 8), none⟩]) (.seq (.seq (.reg false [⟨(some 9), .mv (.t 1), none⟩,
  ⟨(some 10), .bin .lss (.t 9) (.c (.int .i64 0)), none⟩]) (.cond (.t 10) (.seq (.reg false [⟨(some 4), .mv (.c (.int .i64 (-1))), none⟩]) (.ret)) (.skip))) (.seq (.reg false [⟨(some 11), .mv (.t 1), none⟩,
  ⟨(some 4), .mv (.t 11), none⟩]) (.ret))))
def A_laws_szShelf : AFun := ⟨C_laws_szShelf, 12, [.tmp 4]⟩
def C_laws_toEntry : ACode := .seq (.reg false [⟨(some 1), .box (.t 0), none⟩,
  ⟨(some 2), .new [(.string ⟨#[]⟩), (.int .i64 0)], none⟩]) (.seq (.reg false [⟨(some 3), .new [(.string ⟨#[]⟩), (.int .i64 0)], none⟩]) (.seq (.reg false [⟨(some 4), .fa 0 (.t 1), none⟩,
  ⟨(some 5), .load1 (.t 4), none⟩,
  ⟨(some 6), .fa 0 (.t 3), none⟩,
  ⟨none, .store 1 (.t 6) (.t 5), none⟩]) (.seq (.reg false [⟨(some 7), .fa 1 (.t 1), none⟩,
  ⟨(some 8), .load1 (.t 7), none⟩,
  ⟨(some 9), .fa 1 (.t 3), none⟩,
  ⟨none, .store 1 (.t 9) (.t 8), none⟩]) (.seq (.reg false [⟨(some 10), .loadn 2 (.t 3), none⟩,
  ⟨none, .store 2 (.t 2) (.t 10), none⟩]) (.ret)))))
def A_laws_toEntry : AFun := ⟨C_laws_toEntry, 11, [.celln 2 2]⟩
def K_laws_toEntryS_0 : List Bool := [true, false, false, true, true, false, false, false, false, false, false, false, false, false, false, false, false, false, false, false, false, false, false]
def B_laws_toEntryS_0 : ACode := .seq (.seq (.reg false [⟨(some 8), .mv (.t 4), none⟩,
  ⟨(some 9), .mv (.t 0), none⟩,
  ⟨(some 10), .len (.t 9), none⟩,
  ⟨(some 11), .bin .lss (.t 8) (.t 10), none⟩]) (.cond (.t 11) (.skip) (.exit 0))) (.seq (.block 1 (.reg false [⟨(some 14), .mv (.t 3), none⟩,
  ⟨(some 15), .mv (.t 4), none⟩,
  ⟨(some 16), .mv (.t 0), none⟩,
  ⟨(some 17), .mv (.t 4), none⟩,
  ⟨(some 18), .ia 2 (.t 16) (.t 17), none⟩,
  ⟨(some 19), .loadn 2 (.t 18), none⟩,
  ⟨(some 20), .call F_laws_toEntry [(.t 19)], none⟩,
  ⟨(some 21), .ia 2 (.t 14) (.t 15), none⟩,
  ⟨none, .store 2 (.t 21) (.t 20), none⟩])) (.reg false [⟨(some 12), .mv (.t 4), none⟩,
  ⟨(some 13), .bin .add (.t 12) (.c (.int .i64 1)), none⟩,
  ⟨(some 4), .mv (.t 13), none⟩]))
def L_laws_toEntryS_0 : ACode := B_laws_toEntryS_0
def C_laws_toEntryS : ACode := .seq (.reg false [⟨(some 2), .mv (.c (.slice none 0 0)), none⟩]) (.seq (.reg false [⟨(some 5), .mv (.t 0), none⟩,
  ⟨(some 6), .len (.t 5), none⟩,
  ⟨(some 7), .make 2 24 [(.string ⟨#[]⟩), (.int .i64 0)] (.t 6), none⟩,
  ⟨(some 3), .mv (.t 7), none⟩]) (.seq (.seq (.reg false [⟨(some 4), .mv (.c (.int .i64 0)), none⟩]) (.block 0 (.loop K_laws_toEntryS_0 L_laws_toEntryS_0))) (.seq (.reg false [⟨(some 22), .mv (.t 3), none⟩,
  ⟨(some 2), .mv (.t 22), none⟩]) (.ret))))
def A_laws_toEntryS : AFun := ⟨C_laws_toEntryS, 23, [.tmp 2]⟩
def C_laws_toShelf : ACode := .seq (.reg false [⟨(some 1), .box (.t 0), none⟩,
  ⟨(some 2), .new [(.slice none 0 0)], none⟩]) (.seq (.reg false [⟨(some 3), .new [(.slice none 0 0)], none⟩]) (.seq (.reg false [⟨(some 4), .fa 0 (.t 1), none⟩,
  ⟨(some 5), .load1 (.t 4), none⟩,
  ⟨(some 6), .call F_laws_toEntryS [(.t 5)], none⟩,
  ⟨(some 7), .fa 0 (.t 3), none⟩,
  ⟨none, .store 1 (.t 7) (.t 6), none⟩]) (.seq (.reg false [⟨(some 8), .loadn 1 (.t 3), none⟩,
  ⟨none, .store 1 (.t 2) (.t 8), none⟩]) (.ret))))
def A_laws_toShelf : AFun := ⟨C_laws_toShelf, 9, [.celln 2 1]⟩
def C_laws_eqEntry : ACode := .seq (.reg false [⟨(some 2), .box (.t 0), none⟩,
  ⟨(some 3), .box (.t 1), none⟩,
  ⟨(some 4), .mv (.c (.bool false)), none⟩]) (.seq (.seq (.reg false [⟨(some 5), .fa 0 (.t 2), none⟩,
  ⟨(some 6), .load1 (.t 5), none⟩,
  ⟨(some 7), .fa 0 (.t 3), none⟩,
  ⟨(some 8), .load1 (.t 7), none⟩,
  ⟨(some 9), .bin .neq (.t 6) (.t 8), none⟩]) (.cond (.t 9) (.seq (.reg false [⟨(some 4), .mv (.c (.bool false)), none⟩]) (.ret)) (.skip))) (.seq (.seq (.reg false [⟨(some 10), .fa 1 (.t 2), none⟩,
  ⟨(some 11), .load1 (.t 10), none⟩,
  ⟨(some 12), .fa 1 (.t 3), none⟩,
  ⟨(some 13), .load1 (.t 12), none⟩,
  ⟨(some 14), .bin .neq (.t 11) (.t 13), none⟩]) (.cond (.t 14) (.seq (.reg false [⟨(some 4), .mv (.c (.bool false)), none⟩]) (.ret)) (.skip))) (.seq (.reg false [⟨(some 4), .mv (.c (.bool true)), none⟩]) (.ret))))
def A_laws_eqEntry : AFun := ⟨C_laws_eqEntry, 15, [.tmp 4]⟩
def K_laws_eqEntryS_0 : List Bool := [true, true, false, false, false, true, false, false, false, false, false, false, false, false, false, false, false, false, false, false, false, false, false, false, false, false, false]
def B_laws_eqEntryS_0 : ACode := .seq (.seq (.reg false [⟨(some 11), .mv (.t 5), none⟩,
  ⟨(some 12), .mv (.t 0), none⟩,
  ⟨(some 13), .len (.t 12), none⟩,
  ⟨(some 14), .bin .lss (.t 11) (.t 13), none⟩]) (.cond (.t 14) (.skip) (.exit 0))) (.seq (.block 1 (.seq (.reg true [⟨(some 17), .mv (.t 0), none⟩,
  ⟨(some 18), .mv (.t 5), none⟩,
  ⟨(some 19), .ia 2 (.t 17) (.t 18), none⟩,
  ⟨(some 20), .loadn 2 (.t 19), none⟩,
  ⟨(some 21), .mv (.t 1), none⟩,
  ⟨(some 22), .mv (.t 5), none⟩,
  ⟨(some 23), .ia 2 (.t 21) (.t 22), none⟩,
  ⟨(some 24), .loadn 2 (.t 23), none⟩,
  ⟨(some 25), .call F_laws_eqEntry [(.t 20), (.t 24)], none⟩,
  ⟨(some 26), .not (.t 25), none⟩]) (.cond (.t 26) (.seq (.reg false [⟨(some 4), .mv (.c (.bool false)), none⟩]) (.ret)) (.skip)))) (.reg false [⟨(some 15), .mv (.t 5), none⟩,
  ⟨(some 16), .bin .add (.t 15) (.c (.int .i64 1)), none⟩,
  ⟨(some 5), .mv (.t 16), none⟩]))
def L_laws_eqEntryS_0 : ACode := B_laws_eqEntryS_0
def C_laws_eqEntryS : ACode := .seq (.reg false [⟨(some 4), .mv (.c (.bool false)), none⟩]) (.seq (.seq (.reg false [⟨(some 6), .mv (.t 0), none⟩,
  ⟨(some 7), .len (.t 6), none⟩,
  ⟨(some 8), .mv (.t 1), none⟩,
  ⟨(some 9), .len (.t 8), none⟩,
  ⟨(some 10), .bin .neq (.t 7) (.t 9), none⟩]) (.cond (.t 10) (.seq (.reg false [⟨(some 4), .mv (.c (.bool false)), none⟩]) (.ret)) (.skip))) (.seq (.seq (.reg false [⟨(some 5), .mv (.c (.int .i64 0)), none⟩]) (.block 0 (.loop K_laws_eqEntryS_0 L_laws_eqEntryS_0))) (.seq (.reg false [⟨(some 4), .mv (.c (.bool true)), none⟩]) (.ret))))
def A_laws_eqEntryS : AFun := ⟨C_laws_eqEntryS, 27, [.tmp 4]⟩
def C_laws_eqShelf : ACode := .seq (.reg false [⟨(some 2), .box (.t 0), none⟩,
  ⟨(some 3), .box (.t 1), none⟩,
  ⟨(some 4), .mv (.c (.bool false)), none⟩]) (.seq (.seq (.reg false [⟨(some 5), .fa 0 (.t 2), none⟩,
  ⟨(some 6), .load1 (.t 5), none⟩,
  ⟨(some 7), .fa 0 (.t 3), none⟩,
  ⟨(some 8), .load1 (.t 7), none⟩,
  ⟨(some 9), .call F_laws_eqEntryS [(.t 6), (.t 8)], none⟩,
  ⟨(some 10), .not (.t 9), none⟩]) (.cond (.t 10) (.seq (.reg false [⟨(some 4), .mv (.c (.bool false)), none⟩]) (.ret)) (.skip))) (.seq (.reg false [⟨(some 4), .mv (.c (.bool true)), none⟩]) (.ret)))
def A_laws_eqShelf : AFun := ⟨C_laws_eqShelf, 11, [.tmp 4]⟩
def K_laws_markText_0 : List Bool := [true, false, false, true, false, false, false, false, false, false, false, false, false, false, false, false, false, false, false, false]
def B_laws_markText_0 : ACode := .seq (.seq (.reg false [⟨(some 6), .mv (.t 0), none⟩,
  ⟨(some 7), .bin .gtr (.t 6) (.c (.int .i64 0)), none⟩]) (.cond (.t 7) (.skip) (.exit 0))) (.block 1 (.seq (.reg false [⟨(some 8), .mv (.t 0), none⟩,
  ⟨(some 9), .bin .rem (.t 8) (.c (.int .i64 10)), none⟩,
  ⟨(some 10), .bin .add (.c (.int .i64 48)) (.t 9), none⟩,
  ⟨(some 11), .conv .u8 (.t 10), none⟩,
  ⟨(some 12), .mkl 1 1 [(.int .u8 0)] [(0, 1, (.t 11))], none⟩,
  ⟨(some 13), .bts (.t 12), none⟩,
  ⟨(some 14), .mv (.t 3), none⟩,
  ⟨(some 15), .bin .add (.t 13) (.t 14), none⟩,
  ⟨(some 3), .mv (.t 15), none⟩]) (.reg false [⟨(some 16), .mv (.t 0), none⟩,
  ⟨(some 17), .bin .quo (.t 16) (.c (.int .i64 10)), none⟩,
  ⟨(some 0), .mv (.t 17), none⟩])))
def L_laws_markText_0 : ACode := B_laws_markText_0
def C_laws_markText : ACode := .seq (.reg false [⟨(some 2), .mv (.c (.string ⟨#[]⟩)), none⟩]) (.seq (.seq (.reg false [⟨(some 4), .mv (.t 0), none⟩,
  ⟨(some 5), .bin .leq (.t 4) (.c (.int .i64 0)), none⟩]) (.cond (.t 5) (.seq (.reg false [⟨(some 2), .mv (.c (.string ⟨#[109, 48]⟩)), none⟩]) (.ret)) (.skip))) (.seq (.reg false [⟨(some 3), .mv (.c (.string ⟨#[]⟩)), none⟩]) (.seq (.block 0 (.loop K_laws_markText_0 L_laws_markText_0)) (.seq (.reg false [⟨(some 18), .mv (.t 3), none⟩,
  ⟨(some 19), .bin .add (.c (.string ⟨#[109]⟩)) (.t 18), none⟩,
  ⟨(some 2), .mv (.t 19), none⟩]) (.ret)))))
def A_laws_markText : AFun := ⟨C_laws_markText, 20, [.tmp 2]⟩
def K_laws_markEntryS_0 : List Bool := [true, true, false, false, false, true, false, false, false, false, false, false, false, false, false, false, false, false, false, false, false, false, false, false, false, false, false, false]
def B_laws_markEntryS_0 : ACode := .seq (.seq (.reg false [⟨(some 6), .mv (.t 5), none⟩,
  ⟨(some 7), .mv (.t 0), none⟩,
  ⟨(some 8), .len (.t 7), none⟩,
  ⟨(some 9), .bin .lss (.t 6) (.t 8), none⟩]) (.cond (.t 9) (.skip) (.exit 0))) (.seq (.block 1 (.seq (.reg false [⟨(some 12), .mv (.t 0), none⟩,
  ⟨(some 13), .mv (.t 5), none⟩,
  ⟨(some 14), .mv (.t 1), none⟩,
  ⟨(some 15), .call F_laws_markText [(.t 14)], none⟩,
  ⟨(some 16), .ia 2 (.t 12) (.t 13), none⟩,
  ⟨(some 17), .fa 0 (.t 16), none⟩,
  ⟨none, .store 1 (.t 17) (.t 15), none⟩]) (.seq (.reg false [⟨(some 18), .mv (.t 1), none⟩,
  ⟨(some 19), .bin .add (.t 18) (.c (.int .i64 1)), none⟩,
  ⟨(some 1), .mv (.t 19), none⟩]) (.seq (.reg false [⟨(some 20), .mv (.t 0), none⟩,
  ⟨(some 21), .mv (.t 5), none⟩,
  ⟨(some 22), .mv (.t 1), none⟩,
  ⟨(some 23), .ia 2 (.t 20) (.t 21), none⟩,
  ⟨(some 24), .fa 1 (.t 23), none⟩,
  ⟨none, .store 1 (.t 24) (.t 22), none⟩]) (.reg false [⟨(some 25), .mv (.t 1), none⟩,
  ⟨(some 26), .bin .add (.t 25) (.c (.int .i64 1)), none⟩,
  ⟨(some 1), .mv (.t 26), none⟩]))))) (.reg false [⟨(some 10), .mv (.t 5), none⟩,
  ⟨(some 11), .bin .add (.t 10) (.c (.int .i64 1)), none⟩,
  ⟨(some 5), .mv (.t 11), none⟩]))
def L_laws_markEntryS_0 : ACode := B_laws_markEntryS_0
def C_laws_markEntryS : ACode := .seq (.reg false [⟨(some 4), .mv (.c (.int .i64 0)), none⟩]) (.seq (.seq (.reg false [⟨(some 5), .mv (.c (.int .i64 0)), none⟩]) (.block 0 (.loop K_laws_markEntryS_0 L_laws_markEntryS_0))) (.seq (.reg false [⟨(some 27), .mv (.t 1), none⟩,
  ⟨(some 4), .mv (.t 27), none⟩]) (.ret)))
def A_laws_markEntryS : AFun := ⟨C_laws_markEntryS, 28, [.tmp 4]⟩
def C_laws_markShelf : ACode := .seq (.reg false [⟨(some 2), .box (.t 0), none⟩,
  ⟨(some 4), .mv (.c (.int .i64 0)), none⟩]) (.seq (.reg false [⟨(some 5), .fa 0 (.t 2), none⟩,
  ⟨(some 6), .load1 (.t 5), none⟩,
  ⟨(some 7), .mv (.t 1), none⟩,
  ⟨(some 8), .call F_laws_markEntryS [(.t 6), (.t 7)], none⟩,
  ⟨(some 1), .mv (.t 8), none⟩]) (.seq (.reg false [⟨(some 9), .mv (.t 1), none⟩,
  ⟨(some 4), .mv (.t 9), none⟩]) (.ret)))
def A_laws_markShelf : AFun := ⟨C_laws_markShelf, 10, [.tmp 4]⟩
def K_slices_IndexFunc_impl_Entry_impl_Entry_0 : List Bool := [true, true, false, false, false, false, false, true, true, false, false, false, false, false, false, false, false, false, false]
def B_slices_IndexFunc_impl_Entry_impl_Entry_0 : ACode := .seq (.reg false [⟨(some 9), .bin .lss (.t 8) (.t 7), none⟩]) (.seq (.cond (.t 9) (.skip) (.exit 0)) (.seq (.block 1 (.seq (.reg false [⟨(some 10), .mv (.t 8), none⟩,
  ⟨(some 5), .mv (.t 10), none⟩]) (.seq (.reg false [⟨(some 11), .mv (.t 1), none⟩,
  ⟨(some 12), .mv (.t 0), none⟩,
  ⟨(some 13), .mv (.t 5), none⟩,
  ⟨(some 14), .ia 2 (.t 12) (.t 13), none⟩,
  ⟨(some 15), .loadn 2 (.t 14), none⟩,
  ⟨(some 16), .callv (.t 11) [(.t 15)], none⟩]) (.cond (.t 16) (.seq (.reg false [⟨(some 17), .mv (.t 5), none⟩,
  ⟨(some 4), .mv (.t 17), none⟩]) (.ret)) (.skip))))) (.reg false [⟨(some 18), .bin .add (.t 8) (.c (.int .i64 1)), none⟩,
  ⟨(some 8), .mv (.t 18), none⟩])))
def L_slices_IndexFunc_impl_Entry_impl_Entry_0 : ACode := B_slices_IndexFunc_impl_Entry_impl_Entry_0
def C_slices_IndexFunc_impl_Entry_impl_Entry : ACode := .seq (.reg false [⟨(some 4), .mv (.c (.int .i64 0)), none⟩]) (.seq (.seq (.reg false [⟨(some 6), .mv (.t 0), none⟩,
  ⟨(some 7), .len (.t 6), none⟩,
  ⟨(some 8), .mv (.c (.int .i64 0)), none⟩]) (.block 0 (.loop K_slices_IndexFunc_impl_Entry_impl_Entry_0 L_slices_IndexFunc_impl_Entry_impl_Entry_0))) (.seq (.reg false [⟨(some 4), .mv (.c (.int .i64 (-1))), none⟩]) (.ret)))
def A_slices_IndexFunc_impl_Entry_impl_Entry : AFun := ⟨C_slices_IndexFunc_impl_Entry_impl_Entry, 19, [.tmp 4]⟩
def C_impl_shelfFind_1 : ACode := .seq (.reg false [⟨(some 2), .box (.t 0), none⟩,
  ⟨(some 3), .mv (.c (.bool false)), none⟩]) (.seq (.reg false [⟨(some 4), .fa 0 (.t 2), none⟩,
  ⟨(some 5), .load1 (.t 4), none⟩,
  ⟨(some 6), .load1 (.t 1), none⟩,
  ⟨(some 7), .bin .eql (.t 5) (.t 6), none⟩,
  ⟨(some 3), .mv (.t 7), none⟩]) (.ret))
def A_impl_shelfFind_1 : AFun := ⟨C_impl_shelfFind_1, 8, [.tmp 3]⟩
def C_impl_shelfFind : ACode := .seq (.reg false [⟨(some 2), .box (.t 0), none⟩,
  ⟨(some 3), .box (.t 1), none⟩,
  ⟨(some 4), .mv (.c (.int .i64 0)), none⟩]) (.seq (.reg false [⟨(some 5), .fa 0 (.t 2), none⟩,
  ⟨(some 6), .load1 (.t 5), none⟩,
  ⟨(some 7), .fn F_impl_shelfFind_1 [(.t 3)], none⟩,
  ⟨(some 8), .call F_slices_IndexFunc_impl_Entry_impl_Entry [(.t 6), (.t 7)], none⟩,
  ⟨(some 4), .mv (.t 8), none⟩]) (.ret))
def A_impl_shelfFind : AFun := ⟨C_impl_shelfFind, 9, [.tmp 4]⟩
def C_impl_within : ACode := .seq (.reg false [⟨(some 6), .mv (.c (.bool false)), none⟩]) (.seq (.reg false [⟨(some 7), .mv (.t 0), none⟩,
  ⟨(some 8), .mv (.t 1), none⟩,
  ⟨(some 9), .bin .geq (.t 7) (.t 8), none⟩,
  ⟨(some 10), .mv (.t 9), none⟩,
  ⟨(some 11), .mv (.t 0), (some (10, true))⟩,
  ⟨(some 12), .mv (.t 2), (some (10, true))⟩,
  ⟨(some 13), .bin .leq (.t 11) (.t 12), (some (10, true))⟩,
  ⟨(some 14), .pick (.t 10) (.t 13) (.c (.bool false)), none⟩,
  ⟨(some 6), .mv (.t 14), none⟩]) (.ret))
def A_impl_within : AFun := ⟨C_impl_within, 15, [.tmp 6]⟩
def K_impl_isWord_0 : List Bool := [true, false, false, false, false, true, true, false, false, false, false, false, false, false, false, false, false, false, false, false, false, false, false]
def B_impl_isWord_0 : ACode := .seq (.reg false [⟨(some 7), .bin .lss (.t 6) (.t 5), none⟩]) (.seq (.cond (.t 7) (.skip) (.exit 0)) (.seq (.block 1 (.seq (.reg false [⟨(some 8), .mv (.t 6), none⟩,
  ⟨(some 3), .mv (.t 8), none⟩]) (.seq (.reg false [⟨(some 9), .mv (.t 0), none⟩,
  ⟨(some 10), .mv (.t 3), none⟩,
  ⟨(some 11), .ix (.t 9) (.t 10), none⟩,
  ⟨(some 12), .bin .lss (.t 11) (.c (.int .u8 97)), none⟩,
  ⟨(some 13), .mv (.t 12), none⟩,
  ⟨(some 14), .mv (.t 0), (some (13, false))⟩,
  ⟨(some 15), .mv (.t 3), (some (13, false))⟩,
  ⟨(some 16), .ix (.t 14) (.t 15), (some (13, false))⟩,
  ⟨(some 17), .bin .gtr (.t 16) (.c (.int .u8 122)), (some (13, false))⟩,
  ⟨(some 18), .pick (.t 13) (.c (.bool true)) (.t 17), none⟩]) (.cond (.t 18) (.seq (.reg false [⟨(some 2), .mv (.c (.bool false)), none⟩]) (.ret)) (.skip))))) (.reg false [⟨(some 19), .bin .add (.t 6) (.c (.int .i64 1)), none⟩,
  ⟨(some 6), .mv (.t 19), none⟩])))
def L_impl_isWord_0 : ACode := B_impl_isWord_0
def C_impl_isWord : ACode := .seq (.reg false [⟨(some 2), .mv (.c (.bool false)), none⟩]) (.seq (.seq (.reg false [⟨(some 4), .mv (.t 0), none⟩,
  ⟨(some 5), .slen (.t 4), none⟩,
  ⟨(some 6), .mv (.c (.int .i64 0)), none⟩]) (.block 0 (.loop K_impl_isWord_0 L_impl_isWord_0))) (.seq (.reg false [⟨(some 20), .mv (.t 0), none⟩,
  ⟨(some 21), .slen (.t 20), none⟩,
  ⟨(some 22), .call F_impl_within [(.t 21), (.c (.int .i64 1)), (.c (.int .i64 32))], none⟩,
  ⟨(some 2), .mv (.t 22), none⟩]) (.ret)))
def A_impl_isWord : AFun := ⟨C_impl_isWord, 23, [.tmp 2]⟩
def C_impl_isEntry : ACode := .seq (.reg false [⟨(some 1), .box (.t 0), none⟩,
  ⟨(some 2), .mv (.c (.bool false)), none⟩]) (.seq (.reg false [⟨(some 3), .fa 0 (.t 1), none⟩,
  ⟨(some 4), .load1 (.t 3), none⟩,
  ⟨(some 5), .call F_impl_isWord [(.t 4)], none⟩,
  ⟨(some 6), .mv (.t 5), none⟩,
  ⟨(some 7), .fa 1 (.t 1), (some (6, true))⟩,
  ⟨(some 8), .load1 (.t 7), (some (6, true))⟩,
  ⟨(some 9), .call F_impl_within [(.t 8), (.c (.int .i64 0)), (.c (.int .i64 65535))], (some (6, true))⟩,
  ⟨(some 10), .pick (.t 6) (.t 9) (.c (.bool false)), none⟩,
  ⟨(some 2), .mv (.t 10), none⟩]) (.ret))
def A_impl_isEntry : AFun := ⟨C_impl_isEntry, 11, [.tmp 2]⟩
def K_impl_isShelf_0 : List Bool := [false, true, false, false, false, false, true, true, true, false, false, false, false, false, false, false, false, false, false, false, false, false, false, false, false, false, false, false, false, false, false, false]
def B_impl_isShelf_0 : ACode := .seq (.reg false [⟨(some 9), .bin .lss (.t 8) (.t 7), none⟩]) (.seq (.cond (.t 9) (.skip) (.exit 0)) (.seq (.block 1 (.seq (.reg false [⟨(some 10), .mv (.t 8), none⟩,
  ⟨(some 11), .ia 2 (.t 6) (.t 8), none⟩,
  ⟨(some 12), .loadn 2 (.t 11), none⟩,
  ⟨(some 4), .new [(.string ⟨#[]⟩), (.int .i64 0)], none⟩,
  ⟨(some 3), .mv (.t 10), none⟩,
  ⟨none, .store 2 (.t 4) (.t 12), none⟩]) (.seq (.seq (.reg false [⟨(some 13), .loadn 2 (.t 4), none⟩,
  ⟨(some 14), .build [(.string ⟨#[]⟩), (.int .i64 0)] [], none⟩,
  ⟨(some 15), .eqs false [2, 1] (.t 13) (.t 14), none⟩]) (.cond (.t 15) (.exit 1) (.skip))) (.seq (.reg false [⟨(some 16), .loadn 2 (.t 4), none⟩,
  ⟨(some 17), .call F_impl_isEntry [(.t 16)], none⟩,
  ⟨(some 18), .not (.t 17), none⟩,
  ⟨(some 19), .mv (.t 18), none⟩,
  ⟨(some 20), .loadn 1 (.t 1), (some (19, false))⟩,
  ⟨(some 21), .fa 0 (.t 4), (some (19, false))⟩,
  ⟨(some 22), .load1 (.t 21), (some (19, false))⟩,
  ⟨(some 23), .call F_impl_shelfFind [(.t 20), (.t 22)], (some (19, false))⟩,
  ⟨(some 24), .mv (.t 3), (some (19, false))⟩,
  ⟨(some 25), .bin .lss (.t 23) (.t 24), (some (19, false))⟩,
  ⟨(some 26), .pick (.t 19) (.c (.bool true)) (.t 25), none⟩]) (.cond (.t 26) (.seq (.reg false [⟨(some 2), .mv (.c (.bool false)), none⟩]) (.ret)) (.skip)))))) (.reg false [⟨(some 27), .bin .add (.t 8) (.c (.int .i64 1)), none⟩,
  ⟨(some 8), .mv (.t 27), none⟩])))
def L_impl_isShelf_0 : ACode := B_impl_isShelf_0
def C_impl_isShelf : ACode := .seq (.reg false [⟨(some 1), .box (.t 0), none⟩,
  ⟨(some 2), .mv (.c (.bool false)), none⟩]) (.seq (.seq (.reg false [⟨(some 5), .fa 0 (.t 1), none⟩,
  ⟨(some 6), .load1 (.t 5), none⟩,
  ⟨(some 7), .len (.t 6), none⟩,
  ⟨(some 8), .mv (.c (.int .i64 0)), none⟩]) (.block 0 (.loop K_impl_isShelf_0 L_impl_isShelf_0))) (.seq (.reg false [⟨(some 28), .fa 0 (.t 1), none⟩,
  ⟨(some 29), .load1 (.t 28), none⟩,
  ⟨(some 30), .len (.t 29), none⟩,
  ⟨(some 31), .bin .eql (.t 30) (.c (.int .i64 4)), none⟩,
  ⟨(some 2), .mv (.t 31), none⟩]) (.ret)))
def A_impl_isShelf : AFun := ⟨C_impl_isShelf, 32, [.tmp 2]⟩
def C_impl_pad : ACode := .seq (.reg false [⟨(some 2), .mv (.c (.slice none 0 0)), none⟩]) (.seq (.reg false [⟨(some 4), .make 1 1 [(.int .u8 0)] (.c (.int .i64 33)), none⟩,
  ⟨(some 3), .mv (.t 4), none⟩]) (.seq (.seq (.reg false [⟨(some 5), .mv (.t 0), none⟩,
  ⟨(some 6), .call F_impl_isWord [(.t 5)], none⟩]) (.cond (.t 6) (.seq (.reg false [⟨(some 7), .mv (.t 3), none⟩,
  ⟨(some 8), .mv (.t 0), none⟩,
  ⟨(some 9), .slen (.t 8), none⟩,
  ⟨(some 10), .conv .u8 (.t 9), none⟩,
  ⟨(some 11), .ia 1 (.t 7) (.c (.int .i64 0)), none⟩,
  ⟨none, .store 1 (.t 11) (.t 10), none⟩]) (.reg false [⟨(some 12), .mv (.t 3), none⟩,
  ⟨(some 13), .slc 1 (.t 12) (some (.c (.int .i64 1))) none, none⟩,
  ⟨(some 14), .mv (.t 0), none⟩,
  ⟨(some 15), .copys (.t 13) (.t 14), none⟩])) (.skip))) (.seq (.reg false [⟨(some 16), .mv (.t 3), none⟩,
  ⟨(some 2), .mv (.t 16), none⟩]) (.ret))))
def A_impl_pad : AFun := ⟨C_impl_pad, 17, [.tmp 2]⟩
def K_impl_shelfOf_0 : List Bool := [false, false, false, true, false, false, false, false, true, true, true, false, false, false, false, false, false, false, false, false, false, false, false, false, false, false, false, false, false, false, false, false, false, false]
def B_impl_shelfOf_0 : ACode := .seq (.reg false [⟨(some 11), .bin .lss (.t 10) (.t 9), none⟩]) (.seq (.cond (.t 11) (.skip) (.exit 0)) (.seq (.block 1 (.seq (.reg false [⟨(some 12), .ia 2 (.t 8) (.t 10), none⟩,
  ⟨(some 13), .loadn 2 (.t 12), none⟩,
  ⟨(some 5), .new [(.string ⟨#[]⟩), (.int .i64 0)], none⟩,
  ⟨none, .store 2 (.t 5) (.t 13), none⟩]) (.seq (.reg false [⟨(some 6), .mv (.c (.int .u8 0)), none⟩]) (.seq (.seq (.reg false [⟨(some 14), .fa 0 (.t 5), none⟩,
  ⟨(some 15), .load1 (.t 14), none⟩,
  ⟨(some 16), .bin .neq (.t 15) (.c (.string ⟨#[]⟩)), none⟩]) (.cond (.t 16) (.reg false [⟨(some 6), .mv (.c (.int .u8 1)), none⟩]) (.skip))) (.reg true [⟨(some 17), .mv (.t 3), none⟩,
  ⟨(some 18), .mv (.t 6), none⟩,
  ⟨(some 19), .fa 1 (.t 5), none⟩,
  ⟨(some 20), .load1 (.t 19), none⟩,
  ⟨(some 21), .bin .shr (.t 20) (.c (.int .u64 8)), none⟩,
  ⟨(some 22), .conv .u8 (.t 21), none⟩,
  ⟨(some 23), .fa 1 (.t 5), none⟩,
  ⟨(some 24), .load1 (.t 23), none⟩,
  ⟨(some 25), .conv .u8 (.t 24), none⟩,
  ⟨(some 26), .mkl 1 3 [(.int .u8 0)] [(0, 1, (.t 18)), (1, 1, (.t 22)), (2, 1, (.t 25))], none⟩,
  ⟨(some 27), .app 1 1 (.t 17) (.t 26), none⟩,
  ⟨(some 28), .fa 0 (.t 5), none⟩,
  ⟨(some 29), .load1 (.t 28), none⟩,
  ⟨(some 30), .call F_impl_pad [(.t 29)], none⟩,
  ⟨(some 31), .app 1 1 (.t 27) (.t 30), none⟩,
  ⟨(some 3), .mv (.t 31), none⟩]))))) (.reg false [⟨(some 32), .bin .add (.t 10) (.c (.int .i64 1)), none⟩,
  ⟨(some 10), .mv (.t 32), none⟩])))
def L_impl_shelfOf_0 : ACode := B_impl_shelfOf_0
def C_impl_shelfOf : ACode := .seq (.reg false [⟨(some 1), .box (.t 0), none⟩,
  ⟨(some 2), .mv (.c (.slice none 0 0)), none⟩]) (.seq (.reg false [⟨(some 3), .mv (.c (.slice none 0 0)), none⟩]) (.seq (.seq (.reg false [⟨(some 7), .fa 0 (.t 1), none⟩,
  ⟨(some 8), .load1 (.t 7), none⟩,
  ⟨(some 9), .len (.t 8), none⟩,
  ⟨(some 10), .mv (.c (.int .i64 0)), none⟩]) (.block 0 (.loop K_impl_shelfOf_0 L_impl_shelfOf_0))) (.seq (.reg false [⟨(some 33), .mv (.t 3), none⟩,
  ⟨(some 2), .mv (.t 33), none⟩]) (.ret))))
def A_impl_shelfOf : AFun := ⟨C_impl_shelfOf, 34, [.tmp 2]⟩
def C_impl_ShelfOf : ACode := .seq (.reg false [⟨(some 1), .box (.t 0), none⟩,
  ⟨(some 2), .mv (.c (.slice none 0 0)), none⟩]) (.seq (.seq (.reg false [⟨(some 3), .loadn 1 (.t 1), none⟩,
  ⟨(some 4), .call F_impl_isShelf [(.t 3)], none⟩,
  ⟨(some 5), .not (.t 4), none⟩]) (.cond (.t 5) (.seq (.reg false [⟨(some 2), .mv (.c (.slice none 0 0)), none⟩]) (.ret)) (.skip))) (.seq (.reg false [⟨(some 6), .loadn 1 (.t 1), none⟩,
  ⟨(some 7), .call F_impl_shelfOf [(.t 6)], none⟩,
  ⟨(some 2), .mv (.t 7), none⟩]) (.ret)))
def A_impl_ShelfOf : AFun := ⟨C_impl_ShelfOf, 8, [.tmp 2]⟩
def K_spec_l17At_0 : List Bool := [false, true, true, false, false, true, false, false, false, false, false, false, false, false, false, false, false, false, false, false, false, false]
def B_spec_l17At_0 : ACode := .seq (.seq (.reg false [⟨(some 6), .mv (.t 5), none⟩,
  ⟨(some 7), .fa 0 (.t 2), none⟩,
  ⟨(some 8), .load1 (.t 7), none⟩,
  ⟨(some 9), .len (.t 8), none⟩,
  ⟨(some 10), .bin .lss (.t 6) (.t 9), none⟩]) (.cond (.t 10) (.skip) (.exit 0))) (.seq (.block 1 (.seq (.reg false [⟨(some 13), .fa 0 (.t 2), none⟩,
  ⟨(some 14), .load1 (.t 13), none⟩,
  ⟨(some 15), .mv (.t 5), none⟩,
  ⟨(some 16), .ia 2 (.t 14) (.t 15), none⟩,
  ⟨(some 17), .fa 0 (.t 16), none⟩,
  ⟨(some 18), .load1 (.t 17), none⟩,
  ⟨(some 19), .mv (.t 1), none⟩,
  ⟨(some 20), .bin .eql (.t 18) (.t 19), none⟩]) (.cond (.t 20) (.seq (.reg false [⟨(some 21), .mv (.t 5), none⟩,
  ⟨(some 4), .mv (.t 21), none⟩]) (.ret)) (.skip)))) (.reg false [⟨(some 11), .mv (.t 5), none⟩,
  ⟨(some 12), .bin .add (.t 11) (.c (.int .i64 1)), none⟩,
  ⟨(some 5), .mv (.t 12), none⟩]))
def L_spec_l17At_0 : ACode := B_spec_l17At_0
def C_spec_l17At : ACode := .seq (.reg false [⟨(some 2), .box (.t 0), none⟩,
  ⟨(some 4), .mv (.c (.int .i64 0)), none⟩]) (.seq (.seq (.reg false [⟨(some 5), .mv (.c (.int .i64 0)), none⟩]) (.block 0 (.loop K_spec_l17At_0 L_spec_l17At_0))) (.seq (.reg false [⟨(some 4), .mv (.c (.int .i64 (-1))), none⟩]) (.ret)))
def A_spec_l17At : AFun := ⟨C_spec_l17At, 22, [.tmp 4]⟩
def K_spec_WordOk_0 : List Bool := [true, false, false, true, false, false, false, false, false, false, false, false, false, false, false, false, false, false, false, false, false, false, false, false, false, false, false, false]
def B_spec_WordOk_0 : ACode := .seq (.seq (.reg false [⟨(some 12), .mv (.t 3), none⟩,
  ⟨(some 13), .mv (.t 0), none⟩,
  ⟨(some 14), .slen (.t 13), none⟩,
  ⟨(some 15), .bin .lss (.t 12) (.t 14), none⟩]) (.cond (.t 15) (.skip) (.exit 0))) (.seq (.block 1 (.seq (.reg false [⟨(some 18), .mv (.t 0), none⟩,
  ⟨(some 19), .mv (.t 3), none⟩,
  ⟨(some 20), .ix (.t 18) (.t 19), none⟩,
  ⟨(some 21), .bin .lss (.t 20) (.c (.int .u8 97)), none⟩,
  ⟨(some 22), .mv (.t 21), none⟩,
  ⟨(some 23), .mv (.t 0), (some (22, false))⟩,
  ⟨(some 24), .mv (.t 3), (some (22, false))⟩,
  ⟨(some 25), .ix (.t 23) (.t 24), (some (22, false))⟩,
  ⟨(some 26), .bin .gtr (.t 25) (.c (.int .u8 122)), (some (22, false))⟩,
  ⟨(some 27), .pick (.t 22) (.c (.bool true)) (.t 26), none⟩]) (.cond (.t 27) (.seq (.reg false [⟨(some 2), .mv (.c (.bool false)), none⟩]) (.ret)) (.skip)))) (.reg false [⟨(some 16), .mv (.t 3), none⟩,
  ⟨(some 17), .bin .add (.t 16) (.c (.int .i64 1)), none⟩,
  ⟨(some 3), .mv (.t 17), none⟩]))
def L_spec_WordOk_0 : ACode := B_spec_WordOk_0
def C_spec_WordOk : ACode := .seq (.reg false [⟨(some 2), .mv (.c (.bool false)), none⟩]) (.seq (.seq (.reg false [⟨(some 4), .mv (.t 0), none⟩,
  ⟨(some 5), .slen (.t 4), none⟩,
  ⟨(some 6), .bin .lss (.t 5) (.c (.int .i64 1)), none⟩,
  ⟨(some 7), .mv (.t 6), none⟩,
  ⟨(some 8), .mv (.t 0), (some (7, false))⟩,
  ⟨(some 9), .slen (.t 8), (some (7, false))⟩,
  ⟨(some 10), .bin .gtr (.t 9) (.c (.int .i64 32)), (some (7, false))⟩,
  ⟨(some 11), .pick (.t 7) (.c (.bool true)) (.t 10), none⟩]) (.cond (.t 11) (.seq (.reg false [⟨(some 2), .mv (.c (.bool false)), none⟩]) (.ret)) (.skip))) (.seq (.seq (.reg false [⟨(some 3), .mv (.c (.int .i64 0)), none⟩]) (.block 0 (.loop K_spec_WordOk_0 L_spec_WordOk_0))) (.seq (.reg false [⟨(some 2), .mv (.c (.bool true)), none⟩]) (.ret))))
def A_spec_WordOk : AFun := ⟨C_spec_WordOk, 28, [.tmp 2]⟩
def C_spec_l17Full : ACode := .seq (.reg false [⟨(some 1), .box (.t 0), none⟩,
  ⟨(some 2), .mv (.c (.bool false)), none⟩]) (.seq (.reg false [⟨(some 3), .fa 0 (.t 1), none⟩,
  ⟨(some 4), .load1 (.t 3), none⟩,
  ⟨(some 5), .call F_spec_WordOk [(.t 4)], none⟩,
  ⟨(some 6), .mv (.t 5), none⟩,
  ⟨(some 7), .fa 1 (.t 1), (some (6, true))⟩,
  ⟨(some 8), .load1 (.t 7), (some (6, true))⟩,
  ⟨(some 9), .bin .geq (.t 8) (.c (.int .i64 0)), (some (6, true))⟩,
  ⟨(some 10), .pick (.t 6) (.t 9) (.c (.bool false)), none⟩,
  ⟨(some 11), .mv (.t 10), none⟩,
  ⟨(some 12), .fa 1 (.t 1), (some (11, true))⟩,
  ⟨(some 13), .load1 (.t 12), (some (11, true))⟩,
  ⟨(some 14), .bin .leq (.t 13) (.c (.int .i64 65535)), (some (11, true))⟩,
  ⟨(some 15), .pick (.t 11) (.t 14) (.c (.bool false)), none⟩,
  ⟨(some 2), .mv (.t 15), none⟩]) (.ret))
def A_spec_l17Full : AFun := ⟨C_spec_l17Full, 16, [.tmp 2]⟩
def C_spec_l17None : ACode := .seq (.reg false [⟨(some 1), .box (.t 0), none⟩,
  ⟨(some 2), .mv (.c (.bool false)), none⟩]) (.seq (.reg false [⟨(some 3), .loadn 2 (.t 1), none⟩,
  ⟨(some 4), .build [(.string ⟨#[]⟩), (.int .i64 0)] [], none⟩,
  ⟨(some 5), .eqs false [2, 1] (.t 3) (.t 4), none⟩,
  ⟨(some 2), .mv (.t 5), none⟩]) (.ret))
def A_spec_l17None : AFun := ⟨C_spec_l17None, 6, [.tmp 2]⟩
def K_spec_ShelfOk_0 : List Bool := [false, true, false, true, false, false, false, false, false, false, false, false, false, false, false, false, false, false, false, false, false, false, false, false, false, false, false, false, false, false, false, false, false, false, false, false, false, false, false, false, false, false, false]
def B_spec_ShelfOk_0 : ACode := .seq (.seq (.reg false [⟨(some 8), .mv (.t 3), none⟩,
  ⟨(some 9), .fa 0 (.t 1), none⟩,
  ⟨(some 10), .load1 (.t 9), none⟩,
  ⟨(some 11), .len (.t 10), none⟩,
  ⟨(some 12), .bin .lss (.t 8) (.t 11), none⟩]) (.cond (.t 12) (.skip) (.exit 0))) (.seq (.block 1 (.seq (.reg true [⟨(some 15), .fa 0 (.t 1), none⟩,
  ⟨(some 16), .load1 (.t 15), none⟩,
  ⟨(some 17), .mv (.t 3), none⟩,
  ⟨(some 18), .ia 2 (.t 16) (.t 17), none⟩,
  ⟨(some 19), .loadn 2 (.t 18), none⟩,
  ⟨(some 20), .call F_spec_l17None [(.t 19)], none⟩,
  ⟨(some 21), .not (.t 20), none⟩,
  ⟨(some 22), .mv (.t 21), none⟩,
  ⟨(some 23), .fa 0 (.t 1), (some (22, true))⟩,
  ⟨(some 24), .load1 (.t 23), (some (22, true))⟩,
  ⟨(some 25), .mv (.t 3), (some (22, true))⟩,
  ⟨(some 26), .ia 2 (.t 24) (.t 25), (some (22, true))⟩,
  ⟨(some 27), .loadn 2 (.t 26), (some (22, true))⟩,
  ⟨(some 28), .call F_spec_l17Full [(.t 27)], (some (22, true))⟩,
  ⟨(some 29), .not (.t 28), (some (22, true))⟩,
  ⟨(some 30), .mv (.t 29), (some (22, true))⟩,
  ⟨(some 31), .loadn 1 (.t 1), (some (30, false))⟩,
  ⟨(some 32), .fa 0 (.t 1), (some (30, false))⟩,
  ⟨(some 33), .load1 (.t 32), (some (30, false))⟩,
  ⟨(some 34), .mv (.t 3), (some (30, false))⟩,
  ⟨(some 35), .ia 2 (.t 33) (.t 34), (some (30, false))⟩,
  ⟨(some 36), .fa 0 (.t 35), (some (30, false))⟩,
  ⟨(some 37), .load1 (.t 36), (some (30, false))⟩,
  ⟨(some 38), .call F_spec_l17At [(.t 31), (.t 37)], (some (30, false))⟩,
  ⟨(some 39), .mv (.t 3), (some (30, false))⟩,
  ⟨(some 40), .bin .neq (.t 38) (.t 39), (some (30, false))⟩,
  ⟨(some 41), .pick (.t 30) (.c (.bool true)) (.t 40), (some (22, true))⟩,
  ⟨(some 42), .pick (.t 22) (.t 41) (.c (.bool false)), none⟩]) (.cond (.t 42) (.seq (.reg false [⟨(some 2), .mv (.c (.bool false)), none⟩]) (.ret)) (.skip)))) (.reg false [⟨(some 13), .mv (.t 3), none⟩,
  ⟨(some 14), .bin .add (.t 13) (.c (.int .i64 1)), none⟩,
  ⟨(some 3), .mv (.t 14), none⟩]))
def L_spec_ShelfOk_0 : ACode := B_spec_ShelfOk_0
def C_spec_ShelfOk : ACode := .seq (.reg false [⟨(some 1), .box (.t 0), none⟩,
  ⟨(some 2), .mv (.c (.bool false)), none⟩]) (.seq (.seq (.reg false [⟨(some 4), .fa 0 (.t 1), none⟩,
  ⟨(some 5), .load1 (.t 4), none⟩,
  ⟨(some 6), .len (.t 5), none⟩,
  ⟨(some 7), .bin .neq (.t 6) (.c (.int .i64 4)), none⟩]) (.cond (.t 7) (.seq (.reg false [⟨(some 2), .mv (.c (.bool false)), none⟩]) (.ret)) (.skip))) (.seq (.seq (.reg false [⟨(some 3), .mv (.c (.int .i64 0)), none⟩]) (.block 0 (.loop K_spec_ShelfOk_0 L_spec_ShelfOk_0))) (.seq (.reg false [⟨(some 2), .mv (.c (.bool true)), none⟩]) (.ret))))
def A_spec_ShelfOk : AFun := ⟨C_spec_ShelfOk, 43, [.tmp 2]⟩
def C_spec_l09Two : ACode := .seq (.reg false [⟨(some 2), .mv (.c (.slice none 0 0)), none⟩]) (.seq (.reg false [⟨(some 3), .mv (.t 0), none⟩,
  ⟨(some 4), .bin .quo (.t 3) (.c (.int .i64 256)), none⟩,
  ⟨(some 5), .conv .u8 (.t 4), none⟩,
  ⟨(some 6), .mv (.t 0), none⟩,
  ⟨(some 7), .bin .rem (.t 6) (.c (.int .i64 256)), none⟩,
  ⟨(some 8), .conv .u8 (.t 7), none⟩,
  ⟨(some 9), .mkl 1 2 [(.int .u8 0)] [(0, 1, (.t 5)), (1, 1, (.t 8))], none⟩,
  ⟨(some 2), .mv (.t 9), none⟩]) (.ret))
def A_spec_l09Two : AFun := ⟨C_spec_l09Two, 10, [.tmp 2]⟩
def K_spec_Pad_0 : List Bool := [true, false, false, true, true, false, false, false, false, false, false, false, false, false, false, false, false, false, false, false, false, false, false, false, false, false, false, false, false]
def B_spec_Pad_0 : ACode := .seq (.seq (.reg false [⟨(some 15), .mv (.t 4), none⟩,
  ⟨(some 16), .mv (.t 0), none⟩,
  ⟨(some 17), .slen (.t 16), none⟩,
  ⟨(some 18), .bin .lss (.t 15) (.t 17), none⟩]) (.cond (.t 18) (.skip) (.exit 0))) (.seq (.block 1 (.reg false [⟨(some 21), .mv (.t 3), none⟩,
  ⟨(some 22), .mv (.t 4), none⟩,
  ⟨(some 23), .bin .add (.t 22) (.c (.int .i64 1)), none⟩,
  ⟨(some 24), .mv (.t 0), none⟩,
  ⟨(some 25), .mv (.t 4), none⟩,
  ⟨(some 26), .ix (.t 24) (.t 25), none⟩,
  ⟨(some 27), .ia 1 (.t 21) (.t 23), none⟩,
  ⟨none, .store 1 (.t 27) (.t 26), none⟩])) (.reg false [⟨(some 19), .mv (.t 4), none⟩,
  ⟨(some 20), .bin .add (.t 19) (.c (.int .i64 1)), none⟩,
  ⟨(some 4), .mv (.t 20), none⟩]))
def L_spec_Pad_0 : ACode := B_spec_Pad_0
def C_spec_Pad : ACode := .seq (.reg false [⟨(some 2), .mv (.c (.slice none 0 0)), none⟩]) (.seq (.reg false [⟨(some 5), .make 1 1 [(.int .u8 0)] (.c (.int .i64 33)), none⟩,
  ⟨(some 3), .mv (.t 5), none⟩]) (.seq (.seq (.reg false [⟨(some 6), .mv (.t 0), none⟩,
  ⟨(some 7), .call F_spec_WordOk [(.t 6)], none⟩,
  ⟨(some 8), .not (.t 7), none⟩]) (.cond (.t 8) (.seq (.reg false [⟨(some 9), .mv (.t 3), none⟩,
  ⟨(some 2), .mv (.t 9), none⟩]) (.ret)) (.skip))) (.seq (.reg false [⟨(some 10), .mv (.t 3), none⟩,
  ⟨(some 11), .mv (.t 0), none⟩,
  ⟨(some 12), .slen (.t 11), none⟩,
  ⟨(some 13), .conv .u8 (.t 12), none⟩,
  ⟨(some 14), .ia 1 (.t 10) (.c (.int .i64 0)), none⟩,
  ⟨none, .store 1 (.t 14) (.t 13), none⟩]) (.seq (.seq (.reg false [⟨(some 4), .mv (.c (.int .i64 0)), none⟩]) (.block 0 (.loop K_spec_Pad_0 L_spec_Pad_0))) (.seq (.reg false [⟨(some 28), .mv (.t 3), none⟩,
  ⟨(some 2), .mv (.t 28), none⟩]) (.ret))))))
def A_spec_Pad : AFun := ⟨C_spec_Pad, 29, [.tmp 2]⟩
def K_spec_ShelfOf_0 : List Bool := [false, true, false, true, true, false, false, false, false, false, false, false, false, false, false, false, false, false, false, false, false, false, false, false, false, false, false, false, false, false, false, false, false, false, false, false, false, false, false, false, false, false, false, false, false]
def B_spec_ShelfOf_0 : ACode := .seq (.seq (.reg false [⟨(some 10), .mv (.t 4), none⟩,
  ⟨(some 11), .fa 0 (.t 1), none⟩,
  ⟨(some 12), .load1 (.t 11), none⟩,
  ⟨(some 13), .len (.t 12), none⟩,
  ⟨(some 14), .bin .lss (.t 10) (.t 13), none⟩]) (.cond (.t 14) (.skip) (.exit 0))) (.seq (.block 1 (.seq (.reg false [⟨(some 5), .mv (.c (.int .u8 1)), none⟩]) (.seq (.seq (.reg false [⟨(some 17), .fa 0 (.t 1), none⟩,
  ⟨(some 18), .load1 (.t 17), none⟩,
  ⟨(some 19), .mv (.t 4), none⟩,
  ⟨(some 20), .ia 2 (.t 18) (.t 19), none⟩,
  ⟨(some 21), .loadn 2 (.t 20), none⟩,
  ⟨(some 22), .call F_spec_l17None [(.t 21)], none⟩]) (.cond (.t 22) (.reg false [⟨(some 5), .mv (.c (.int .u8 0)), none⟩]) (.skip))) (.seq (.reg true [⟨(some 23), .mv (.t 3), none⟩,
  ⟨(some 24), .mv (.t 5), none⟩,
  ⟨(some 25), .mkl 1 1 [(.int .u8 0)] [(0, 1, (.t 24))], none⟩,
  ⟨(some 26), .app 1 1 (.t 23) (.t 25), none⟩,
  ⟨(some 27), .fa 0 (.t 1), none⟩,
  ⟨(some 28), .load1 (.t 27), none⟩,
  ⟨(some 29), .mv (.t 4), none⟩,
  ⟨(some 30), .ia 2 (.t 28) (.t 29), none⟩,
  ⟨(some 31), .fa 1 (.t 30), none⟩,
  ⟨(some 32), .load1 (.t 31), none⟩,
  ⟨(some 33), .call F_spec_l09Two [(.t 32)], none⟩,
  ⟨(some 34), .app 1 1 (.t 26) (.t 33), none⟩,
  ⟨(some 3), .mv (.t 34), none⟩]) (.reg false [⟨(some 35), .mv (.t 3), none⟩,
  ⟨(some 36), .fa 0 (.t 1), none⟩,
  ⟨(some 37), .load1 (.t 36), none⟩,
  ⟨(some 38), .mv (.t 4), none⟩,
  ⟨(some 39), .ia 2 (.t 37) (.t 38), none⟩,
  ⟨(some 40), .fa 0 (.t 39), none⟩,
  ⟨(some 41), .load1 (.t 40), none⟩,
  ⟨(some 42), .call F_spec_Pad [(.t 41)], none⟩,
  ⟨(some 43), .app 1 1 (.t 35) (.t 42), none⟩,
  ⟨(some 3), .mv (.t 43), none⟩]))))) (.reg false [⟨(some 15), .mv (.t 4), none⟩,
  ⟨(some 16), .bin .add (.t 15) (.c (.int .i64 1)), none⟩,
  ⟨(some 4), .mv (.t 16), none⟩]))
def L_spec_ShelfOf_0 : ACode := B_spec_ShelfOf_0
def C_spec_ShelfOf : ACode := .seq (.reg false [⟨(some 1), .box (.t 0), none⟩,
  ⟨(some 2), .mv (.c (.slice none 0 0)), none⟩]) (.seq (.seq (.reg false [⟨(some 6), .loadn 1 (.t 1), none⟩,
  ⟨(some 7), .call F_spec_ShelfOk [(.t 6)], none⟩,
  ⟨(some 8), .not (.t 7), none⟩]) (.cond (.t 8) (.seq (.reg false [⟨(some 2), .mv (.c (.slice none 0 0)), none⟩]) (.ret)) (.skip))) (.seq (.reg false [⟨(some 9), .mkl 1 0 [] [], none⟩,
  ⟨(some 3), .mv (.t 9), none⟩]) (.seq (.seq (.reg false [⟨(some 4), .mv (.c (.int .i64 0)), none⟩]) (.block 0 (.loop K_spec_ShelfOf_0 L_spec_ShelfOf_0))) (.seq (.reg false [⟨(some 44), .mv (.t 3), none⟩,
  ⟨(some 2), .mv (.t 44), none⟩]) (.ret)))))
def A_spec_ShelfOf : AFun := ⟨C_spec_ShelfOf, 45, [.tmp 2]⟩
def K_laws_eqByteS_0 : List Bool := [true, true, false, false, false, true, false, false, false, false, false, false, false, false, false, false, false, false, false, false, false, false, false, false, false, false]
def B_laws_eqByteS_0 : ACode := .seq (.seq (.reg false [⟨(some 11), .mv (.t 5), none⟩,
  ⟨(some 12), .mv (.t 0), none⟩,
  ⟨(some 13), .len (.t 12), none⟩,
  ⟨(some 14), .bin .lss (.t 11) (.t 13), none⟩]) (.cond (.t 14) (.skip) (.exit 0))) (.seq (.block 1 (.seq (.reg true [⟨(some 17), .mv (.t 0), none⟩,
  ⟨(some 18), .mv (.t 5), none⟩,
  ⟨(some 19), .ia 1 (.t 17) (.t 18), none⟩,
  ⟨(some 20), .load1 (.t 19), none⟩,
  ⟨(some 21), .mv (.t 1), none⟩,
  ⟨(some 22), .mv (.t 5), none⟩,
  ⟨(some 23), .ia 1 (.t 21) (.t 22), none⟩,
  ⟨(some 24), .load1 (.t 23), none⟩,
  ⟨(some 25), .bin .neq (.t 20) (.t 24), none⟩]) (.cond (.t 25) (.seq (.reg false [⟨(some 4), .mv (.c (.bool false)), none⟩]) (.ret)) (.skip)))) (.reg false [⟨(some 15), .mv (.t 5), none⟩,
  ⟨(some 16), .bin .add (.t 15) (.c (.int .i64 1)), none⟩,
  ⟨(some 5), .mv (.t 16), none⟩]))
def L_laws_eqByteS_0 : ACode := B_laws_eqByteS_0
def C_laws_eqByteS : ACode := .seq (.reg false [⟨(some 4), .mv (.c (.bool false)), none⟩]) (.seq (.seq (.reg false [⟨(some 6), .mv (.t 0), none⟩,
  ⟨(some 7), .len (.t 6), none⟩,
  ⟨(some 8), .mv (.t 1), none⟩,
  ⟨(some 9), .len (.t 8), none⟩,
  ⟨(some 10), .bin .neq (.t 7) (.t 9), none⟩]) (.cond (.t 10) (.seq (.reg false [⟨(some 4), .mv (.c (.bool false)), none⟩]) (.ret)) (.skip))) (.seq (.seq (.reg false [⟨(some 5), .mv (.c (.int .i64 0)), none⟩]) (.block 0 (.loop K_laws_eqByteS_0 L_laws_eqByteS_0))) (.seq (.reg false [⟨(some 4), .mv (.c (.bool true)), none⟩]) (.ret))))
def A_laws_eqByteS : AFun := ⟨C_laws_eqByteS, 26, [.tmp 4]⟩
def K_laws_markByteS_0 : List Bool := [true, true, false, false, false, true, false, false, false, false, false, false, false, false, false, false, false, false, false, false]
def B_laws_markByteS_0 : ACode := .seq (.seq (.reg false [⟨(some 6), .mv (.t 5), none⟩,
  ⟨(some 7), .mv (.t 0), none⟩,
  ⟨(some 8), .len (.t 7), none⟩,
  ⟨(some 9), .bin .lss (.t 6) (.t 8), none⟩]) (.cond (.t 9) (.skip) (.exit 0))) (.seq (.block 1 (.seq (.reg false [⟨(some 12), .mv (.t 0), none⟩,
  ⟨(some 13), .mv (.t 5), none⟩,
  ⟨(some 14), .mv (.t 1), none⟩,
  ⟨(some 15), .conv .u8 (.t 14), none⟩,
  ⟨(some 16), .ia 1 (.t 12) (.t 13), none⟩,
  ⟨none, .store 1 (.t 16) (.t 15), none⟩]) (.reg false [⟨(some 17), .mv (.t 1), none⟩,
  ⟨(some 18), .bin .add (.t 17) (.c (.int .i64 1)), none⟩,
  ⟨(some 1), .mv (.t 18), none⟩]))) (.reg false [⟨(some 10), .mv (.t 5), none⟩,
  ⟨(some 11), .bin .add (.t 10) (.c (.int .i64 1)), none⟩,
  ⟨(some 5), .mv (.t 11), none⟩]))
def L_laws_markByteS_0 : ACode := B_laws_markByteS_0
def C_laws_markByteS : ACode := .seq (.reg false [⟨(some 4), .mv (.c (.int .i64 0)), none⟩]) (.seq (.seq (.reg false [⟨(some 5), .mv (.c (.int .i64 0)), none⟩]) (.block 0 (.loop K_laws_markByteS_0 L_laws_markByteS_0))) (.seq (.reg false [⟨(some 19), .mv (.t 1), none⟩,
  ⟨(some 4), .mv (.t 19), none⟩]) (.ret)))
def A_laws_markByteS : AFun := ⟨C_laws_markByteS, 20, [.tmp 4]⟩
def K_laws_heldByteS_0 : List Bool := [true, true, false, false, false, true, false, false, false, false, false, false, false, false, false, false, false, false, false, false, false, false]
def B_laws_heldByteS_0 : ACode := .seq (.seq (.reg false [⟨(some 6), .mv (.t 5), none⟩,
  ⟨(some 7), .mv (.t 0), none⟩,
  ⟨(some 8), .len (.t 7), none⟩,
  ⟨(some 9), .bin .lss (.t 6) (.t 8), none⟩]) (.cond (.t 9) (.skip) (.exit 0))) (.seq (.block 1 (.seq (.seq (.reg false [⟨(some 12), .mv (.t 0), none⟩,
  ⟨(some 13), .mv (.t 5), none⟩,
  ⟨(some 14), .ia 1 (.t 12) (.t 13), none⟩,
  ⟨(some 15), .load1 (.t 14), none⟩,
  ⟨(some 16), .mv (.t 1), none⟩,
  ⟨(some 17), .conv .u8 (.t 16), none⟩,
  ⟨(some 18), .bin .neq (.t 15) (.t 17), none⟩]) (.cond (.t 18) (.seq (.reg false [⟨(some 4), .mv (.c (.int .i64 (-1))), none⟩]) (.ret)) (.skip))) (.reg false [⟨(some 19), .mv (.t 1), none⟩,
  ⟨(some 20), .bin .add (.t 19) (.c (.int .i64 1)), none⟩,
  ⟨(some 1), .mv (.t 20), none⟩]))) (.reg false [⟨(some 10), .mv (.t 5), none⟩,
  ⟨(some 11), .bin .add (.t 10) (.c (.int .i64 1)), none⟩,
  ⟨(some 5), .mv (.t 11), none⟩]))
def L_laws_heldByteS_0 : ACode := B_laws_heldByteS_0
def C_laws_heldByteS : ACode := .seq (.reg false [⟨(some 4), .mv (.c (.int .i64 0)), none⟩]) (.seq (.seq (.reg false [⟨(some 5), .mv (.c (.int .i64 0)), none⟩]) (.block 0 (.loop K_laws_heldByteS_0 L_laws_heldByteS_0))) (.seq (.reg false [⟨(some 21), .mv (.t 1), none⟩,
  ⟨(some 4), .mv (.t 21), none⟩]) (.ret)))
def A_laws_heldByteS : AFun := ⟨C_laws_heldByteS, 22, [.tmp 4]⟩
def C_laws_FnExactShelfOf : ACode := .seq (.reg false [⟨(some 1), .box (.t 0), none⟩,
  ⟨(some 2), .mv (.c (.bool false)), none⟩]) (.seq (.reg false [⟨(some 3), .mv (.c (.int .i64 1048576)), none⟩]) (.seq (.reg false [⟨(some 11), .loadn 1 (.t 1), none⟩,
  ⟨(some 12), .mv (.t 3), none⟩,
  ⟨(some 13), .call F_laws_szShelf [(.t 11), (.t 12)], none⟩,
  ⟨(some 3), .mv (.t 13), none⟩]) (.seq (.seq (.reg false [⟨(some 14), .mv (.t 3), none⟩,
  ⟨(some 15), .bin .lss (.t 14) (.c (.int .i64 0)), none⟩]) (.cond (.t 15) (.seq (.reg false [⟨(some 2), .mv (.c (.bool true)), none⟩]) (.ret)) (.skip))) (.seq (.reg false [⟨(some 16), .loadn 1 (.t 1), none⟩,
  ⟨(some 17), .call F_laws_toShelf [(.t 16)], none⟩,
  ⟨(some 18), .call F_spec_ShelfOf [(.t 17)], none⟩,
  ⟨(some 4), .mv (.t 18), none⟩]) (.seq (.reg false [⟨(some 19), .loadn 1 (.t 1), none⟩,
  ⟨(some 20), .call F_laws_toShelf [(.t 19)], none⟩,
  ⟨(some 5), .new [(.slice none 0 0)], none⟩,
  ⟨none, .store 1 (.t 5) (.t 20), none⟩]) (.seq (.reg false [⟨(some 21), .loadn 1 (.t 5), none⟩,
  ⟨(some 22), .call F_impl_ShelfOf [(.t 21)], none⟩,
  ⟨(some 6), .mv (.t 22), none⟩]) (.seq (.seq (.reg false [⟨(some 23), .mv (.t 6), none⟩,
  ⟨(some 24), .mv (.t 4), none⟩,
  ⟨(some 25), .call F_laws_eqByteS [(.t 23), (.t 24)], none⟩,
  ⟨(some 26), .not (.t 25), none⟩]) (.cond (.t 26) (.seq (.reg false [⟨(some 2), .mv (.c (.bool false)), none⟩]) (.ret)) (.skip))) (.seq (.seq (.reg true [⟨(some 27), .loadn 1 (.t 5), none⟩,
  ⟨(some 28), .loadn 1 (.t 1), none⟩,
  ⟨(some 29), .call F_laws_toShelf [(.t 28)], none⟩,
  ⟨(some 30), .call F_laws_eqShelf [(.t 27), (.t 29)], none⟩,
  ⟨(some 31), .not (.t 30), none⟩]) (.cond (.t 31) (.seq (.reg false [⟨(some 2), .mv (.c (.bool false)), none⟩]) (.ret)) (.skip))) (.seq (.reg false [⟨(some 7), .mv (.c (.int .i64 1)), none⟩]) (.seq (.reg false [⟨(some 32), .loadn 1 (.t 5), none⟩,
  ⟨(some 33), .mv (.t 7), none⟩,
  ⟨(some 34), .call F_laws_markShelf [(.t 32), (.t 33)], none⟩,
  ⟨(some 7), .mv (.t 34), none⟩]) (.seq (.seq (.reg false [⟨(some 35), .mv (.t 7), none⟩,
  ⟨(some 36), .bin .lss (.t 35) (.c (.int .i64 0)), none⟩,
  ⟨(some 37), .mv (.t 36), none⟩,
  ⟨(some 38), .mv (.t 6), (some (37, false))⟩,
  ⟨(some 39), .mv (.t 4), (some (37, false))⟩,
  ⟨(some 40), .call F_laws_eqByteS [(.t 38), (.t 39)], (some (37, false))⟩,
  ⟨(some 41), .not (.t 40), (some (37, false))⟩,
  ⟨(some 42), .pick (.t 37) (.c (.bool true)) (.t 41), none⟩]) (.cond (.t 42) (.seq (.reg false [⟨(some 2), .mv (.c (.bool false)), none⟩]) (.ret)) (.skip))) (.seq (.reg false [⟨(some 8), .mv (.c (.int .i64 1)), none⟩]) (.seq (.reg false [⟨(some 43), .mv (.t 6), none⟩,
  ⟨(some 44), .mv (.t 8), none⟩,
  ⟨(some 45), .call F_laws_markByteS [(.t 43), (.t 44)], none⟩,
  ⟨(some 8), .mv (.t 45), none⟩]) (.seq (.reg false [⟨(some 9), .mv (.c (.int .i64 1)), none⟩]) (.seq (.reg false [⟨(some 46), .mv (.t 6), none⟩,
  ⟨(some 47), .mv (.t 9), none⟩,
  ⟨(some 48), .call F_laws_heldByteS [(.t 46), (.t 47)], none⟩,
  ⟨(some 9), .mv (.t 48), none⟩]) (.seq (.seq (.reg false [⟨(some 49), .mv (.t 9), none⟩,
  ⟨(some 50), .bin .lss (.t 49) (.c (.int .i64 0)), none⟩]) (.cond (.t 50) (.seq (.reg false [⟨(some 2), .mv (.c (.bool false)), none⟩]) (.ret)) (.skip))) (.seq (.seq (.reg false [⟨(some 51), .mv (.t 9), none⟩,
  ⟨(some 52), .mv (.t 8), none⟩,
  ⟨(some 53), .bin .neq (.t 51) (.t 52), none⟩]) (.cond (.t 53) (.seq (.reg false [⟨(some 2), .mv (.c (.bool false)), none⟩]) (.ret)) (.skip))) (.seq (.reg false [⟨(some 54), .loadn 1 (.t 1), none⟩,
  ⟨(some 55), .call F_laws_toShelf [(.t 54)], none⟩,
  ⟨(some 56), .call F_impl_ShelfOf [(.t 55)], none⟩,
  ⟨(some 10), .mv (.t 56), none⟩]) (.seq (.seq (.reg false [⟨(some 57), .mv (.t 10), none⟩,
  ⟨(some 58), .mv (.t 4), none⟩,
  ⟨(some 59), .call F_laws_eqByteS [(.t 57), (.t 58)], none⟩,
  ⟨(some 60), .not (.t 59), none⟩]) (.cond (.t 60) (.seq (.reg false [⟨(some 2), .mv (.c (.bool false)), none⟩]) (.ret)) (.skip))) (.seq (.reg false [⟨(some 9), .mv (.c (.int .i64 1)), none⟩]) (.seq (.reg false [⟨(some 61), .mv (.t 6), none⟩,
  ⟨(some 62), .mv (.t 9), none⟩,
  ⟨(some 63), .call F_laws_heldByteS [(.t 61), (.t 62)], none⟩,
  ⟨(some 9), .mv (.t 63), none⟩]) (.seq (.seq (.reg false [⟨(some 64), .mv (.t 9), none⟩,
  ⟨(some 65), .bin .lss (.t 64) (.c (.int .i64 0)), none⟩]) (.cond (.t 65) (.seq (.reg false [⟨(some 2), .mv (.c (.bool false)), none⟩]) (.ret)) (.skip))) (.seq (.seq (.reg false [⟨(some 66), .mv (.t 9), none⟩,
  ⟨(some 67), .mv (.t 8), none⟩,
  ⟨(some 68), .bin .neq (.t 66) (.t 67), none⟩]) (.cond (.t 68) (.seq (.reg false [⟨(some 2), .mv (.c (.bool false)), none⟩]) (.ret)) (.skip))) (.seq (.reg false [⟨(some 2), .mv (.c (.bool true)), none⟩]) (.ret)))))))))))))))))))))))))
def A_laws_FnExactShelfOf : AFun := ⟨C_laws_FnExactShelfOf, 69, [.tmp 2]⟩
end GoAm
