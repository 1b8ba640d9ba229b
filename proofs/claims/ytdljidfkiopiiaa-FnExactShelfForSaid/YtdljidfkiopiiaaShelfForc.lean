/- The code that the law reaches, for the abstract machine: printed by a program. -/
import Derived.Test.YtdljidfkiopiiaaAmDef
set_option autoImplicit false
set_option linter.unusedVariables false
set_option linter.unusedSimpArgs false
namespace GoAm
open Go
def F_spec_WordOk : Go.FuncId := 60
def F_spec_Pad : Go.FuncId := 61
def F_spec_HashWord : Go.FuncId := 25
def F_spec_l02Pow : Go.FuncId := 54
def F_spec_l11Log : Go.FuncId := 65
def F_spec_ShelfFor : Go.FuncId := 27
def F_impl_within : Go.FuncId := 62
def F_impl_isWord : Go.FuncId := 63
def F_impl_isLog : Go.FuncId := 66
def F_impl_pad : Go.FuncId := 88
def F_impl_hashWord : Go.FuncId := 64
def F_impl_shelfFor : Go.FuncId := 67
def F_impl_ShelfFor : Go.FuncId := 28
def F_laws_FnExactShelfFor : Go.FuncId := 8
def K_spec_WordOk_0 : List Bool := [true, false, false, true, false, false, false, false, false, false, false, false, false, false, false, false, false, false, false, false, false, false, false, false, false, false, false, false]
def B_spec_WordOk_0 : ACode := .seq (.seq (.reg false [⟨(some 12), .mv (.t 3), none⟩,
  ⟨(some 13), .mv (.t 0), none⟩,
  ⟨(some 14), .slen (.t 13), none⟩,
  ⟨(some 15), .bin .lss (.t 12) (.t 14), none⟩]) (.cond (.t 15) (.skip) (.exit 0))) (.seq (.block 1 (.seq (.reg false [⟨(some 18), .mv (.t 0), none⟩,
  ⟨(some 19), .mv (.t 3), none⟩,
  ⟨(some 20), .ix (.t 18) (.t 19), none⟩,
  ⟨(some 21), .bin .lss (.t 20) (.c (.int .u8 97)), none⟩,
  ⟨(some 22), .mv (.t 21), none⟩,
  ⟨(some 23), .mv (.t 0), (some (22, false))⟩,
  ⟨(some 24), .mv (.t 3), (some (22, false))⟩,
  ⟨(some 25), .ix (.t 23) (.t 24), (some (22, false))⟩,
  ⟨(some 26), .bin .gtr (.t 25) (.c (.int .u8 122)), (some (22, false))⟩,
  ⟨(some 27), .pick (.t 22) (.c (.bool true)) (.t 26), none⟩]) (.cond (.t 27) (.seq (.reg false [⟨(some 2), .mv (.c (.bool false)), none⟩]) (.ret)) (.skip)))) (.reg false [⟨(some 16), .mv (.t 3), none⟩,
  ⟨(some 17), .bin .add (.t 16) (.c (.int .i64 1)), none⟩,
  ⟨(some 3), .mv (.t 17), none⟩]))
def L_spec_WordOk_0 : ACode := B_spec_WordOk_0
def C_spec_WordOk : ACode := .seq (.reg false [⟨(some 2), .mv (.c (.bool false)), none⟩]) (.seq (.seq (.reg false [⟨(some 4), .mv (.t 0), none⟩,
  ⟨(some 5), .slen (.t 4), none⟩,
  ⟨(some 6), .bin .lss (.t 5) (.c (.int .i64 1)), none⟩,
  ⟨(some 7), .mv (.t 6), none⟩,
  ⟨(some 8), .mv (.t 0), (some (7, false))⟩,
  ⟨(some 9), .slen (.t 8), (some (7, false))⟩,
  ⟨(some 10), .bin .gtr (.t 9) (.c (.int .i64 32)), (some (7, false))⟩,
  ⟨(some 11), .pick (.t 7) (.c (.bool true)) (.t 10), none⟩]) (.cond (.t 11) (.seq (.reg false [⟨(some 2), .mv (.c (.bool false)), none⟩]) (.ret)) (.skip))) (.seq (.seq (.reg false [⟨(some 3), .mv (.c (.int .i64 0)), none⟩]) (.block 0 (.loop K_spec_WordOk_0 L_spec_WordOk_0))) (.seq (.reg false [⟨(some 2), .mv (.c (.bool true)), none⟩]) (.ret))))
def A_spec_WordOk : AFun := ⟨C_spec_WordOk, 28, [.tmp 2]⟩
def K_spec_Pad_0 : List Bool := [true, false, false, true, true, false, false, false, false, false, false, false, false, false, false, false, false, false, false, false, false, false, false, false, false, false, false, false, false]
def B_spec_Pad_0 : ACode := .seq (.seq (.reg false [⟨(some 15), .mv (.t 4), none⟩,
  ⟨(some 16), .mv (.t 0), none⟩,
  ⟨(some 17), .slen (.t 16), none⟩,
  ⟨(some 18), .bin .lss (.t 15) (.t 17), none⟩]) (.cond (.t 18) (.skip) (.exit 0))) (.seq (.block 1 (.reg false [⟨(some 21), .mv (.t 3), none⟩,
  ⟨(some 22), .mv (.t 4), none⟩,
  ⟨(some 23), .bin .add (.t 22) (.c (.int .i64 1)), none⟩,
  ⟨(some 24), .mv (.t 0), none⟩,
  ⟨(some 25), .mv (.t 4), none⟩,
  ⟨(some 26), .ix (.t 24) (.t 25), none⟩,
  ⟨(some 27), .ia 1 (.t 21) (.t 23), none⟩,
  ⟨none, .store 1 (.t 27) (.t 26), none⟩])) (.reg false [⟨(some 19), .mv (.t 4), none⟩,
  ⟨(some 20), .bin .add (.t 19) (.c (.int .i64 1)), none⟩,
  ⟨(some 4), .mv (.t 20), none⟩]))
def L_spec_Pad_0 : ACode := B_spec_Pad_0
def C_spec_Pad : ACode := .seq (.reg false [⟨(some 2), .mv (.c (.slice none 0 0)), none⟩]) (.seq (.reg false [⟨(some 5), .make 1 1 [(.int .u8 0)] (.c (.int .i64 33)), none⟩,
  ⟨(some 3), .mv (.t 5), none⟩]) (.seq (.seq (.reg false [⟨(some 6), .mv (.t 0), none⟩,
  ⟨(some 7), .call F_spec_WordOk [(.t 6)], none⟩,
  ⟨(some 8), .not (.t 7), none⟩]) (.cond (.t 8) (.seq (.reg false [⟨(some 9), .mv (.t 3), none⟩,
  ⟨(some 2), .mv (.t 9), none⟩]) (.ret)) (.skip))) (.seq (.reg false [⟨(some 10), .mv (.t 3), none⟩,
  ⟨(some 11), .mv (.t 0), none⟩,
  ⟨(some 12), .slen (.t 11), none⟩,
  ⟨(some 13), .conv .u8 (.t 12), none⟩,
  ⟨(some 14), .ia 1 (.t 10) (.c (.int .i64 0)), none⟩,
  ⟨none, .store 1 (.t 14) (.t 13), none⟩]) (.seq (.seq (.reg false [⟨(some 4), .mv (.c (.int .i64 0)), none⟩]) (.block 0 (.loop K_spec_Pad_0 L_spec_Pad_0))) (.seq (.reg false [⟨(some 28), .mv (.t 3), none⟩,
  ⟨(some 2), .mv (.t 28), none⟩]) (.ret))))))
def A_spec_Pad : AFun := ⟨C_spec_Pad, 29, [.tmp 2]⟩
def K_spec_HashWord_0 : List Bool := [false, false, false, false, false, true, true, true, false, false, false, false, false, false, false, false, false, false, false, false, false, false, false, false, false, false, false, false, false, false, false, false, false, false, false, false, false, false, false, false, false]
def B_spec_HashWord_0 : ACode := .seq (.seq (.reg false [⟨(some 22), .mv (.t 7), none⟩,
  ⟨(some 23), .mv (.t 6), none⟩,
  ⟨(some 24), .len (.t 23), none⟩,
  ⟨(some 25), .bin .lss (.t 22) (.t 24), none⟩]) (.cond (.t 25) (.skip) (.exit 0))) (.seq (.block 1 (.reg false [⟨(some 28), .mv (.t 5), none⟩,
  ⟨(some 29), .mv (.t 6), none⟩,
  ⟨(some 30), .mv (.t 7), none⟩,
  ⟨(some 31), .ia 1 (.t 29) (.t 30), none⟩,
  ⟨(some 32), .load1 (.t 31), none⟩,
  ⟨(some 33), .conv .i64 (.t 32), none⟩,
  ⟨(some 34), .bin .xor (.t 28) (.t 33), none⟩,
  ⟨(some 35), .bin .mul (.t 34) (.c (.int .i64 16777619)), none⟩,
  ⟨(some 36), .bin .rem (.t 35) (.c (.int .i64 4294967296)), none⟩,
  ⟨(some 5), .mv (.t 36), none⟩])) (.reg false [⟨(some 26), .mv (.t 7), none⟩,
  ⟨(some 27), .bin .add (.t 26) (.c (.int .i64 1)), none⟩,
  ⟨(some 7), .mv (.t 27), none⟩]))
def L_spec_HashWord_0 : ACode := B_spec_HashWord_0
def C_spec_HashWord : ACode := .seq (.reg false [⟨(some 4), .mv (.c (.int .i64 0)), none⟩]) (.seq (.seq (.reg false [⟨(some 8), .mv (.t 0), none⟩,
  ⟨(some 9), .bin .lss (.t 8) (.c (.int .i64 0)), none⟩,
  ⟨(some 10), .mv (.t 9), none⟩,
  ⟨(some 11), .mv (.t 0), (some (10, false))⟩,
  ⟨(some 12), .bin .gtr (.t 11) (.c (.int .i64 4294967295)), (some (10, false))⟩,
  ⟨(some 13), .pick (.t 10) (.c (.bool true)) (.t 12), none⟩,
  ⟨(some 14), .mv (.t 13), none⟩,
  ⟨(some 15), .mv (.t 1), (some (14, false))⟩,
  ⟨(some 16), .call F_spec_WordOk [(.t 15)], (some (14, false))⟩,
  ⟨(some 17), .not (.t 16), (some (14, false))⟩,
  ⟨(some 18), .pick (.t 14) (.c (.bool true)) (.t 17), none⟩]) (.cond (.t 18) (.seq (.reg false [⟨(some 4), .mv (.c (.int .i64 (-1))), none⟩]) (.ret)) (.skip))) (.seq (.reg false [⟨(some 19), .mv (.t 0), none⟩,
  ⟨(some 5), .mv (.t 19), none⟩]) (.seq (.reg false [⟨(some 20), .mv (.t 1), none⟩,
  ⟨(some 21), .call F_spec_Pad [(.t 20)], none⟩,
  ⟨(some 6), .mv (.t 21), none⟩]) (.seq (.seq (.reg false [⟨(some 7), .mv (.c (.int .i64 0)), none⟩]) (.block 0 (.loop K_spec_HashWord_0 L_spec_HashWord_0))) (.seq (.reg false [⟨(some 37), .mv (.t 5), none⟩,
  ⟨(some 38), .mv (.t 5), none⟩,
  ⟨(some 39), .bin .quo (.t 38) (.c (.int .i64 65536)), none⟩,
  ⟨(some 40), .bin .xor (.t 37) (.t 39), none⟩,
  ⟨(some 4), .mv (.t 40), none⟩]) (.ret))))))
def A_spec_HashWord : AFun := ⟨C_spec_HashWord, 41, [.tmp 4]⟩
def K_spec_l02Pow_0 : List Bool := [true, false, false, true, false, false, false, false, false, false, false]
def B_spec_l02Pow_0 : ACode := .seq (.seq (.reg false [⟨(some 4), .mv (.t 0), none⟩,
  ⟨(some 5), .bin .gtr (.t 4) (.c (.int .i64 0)), none⟩]) (.cond (.t 5) (.skip) (.exit 0))) (.seq (.block 1 (.reg false [⟨(some 8), .mv (.t 3), none⟩,
  ⟨(some 9), .bin .mul (.c (.int .i64 2)) (.t 8), none⟩,
  ⟨(some 3), .mv (.t 9), none⟩])) (.reg false [⟨(some 6), .mv (.t 0), none⟩,
  ⟨(some 7), .bin .sub (.t 6) (.c (.int .i64 1)), none⟩,
  ⟨(some 0), .mv (.t 7), none⟩]))
def L_spec_l02Pow_0 : ACode := B_spec_l02Pow_0
def C_spec_l02Pow : ACode := .seq (.reg false [⟨(some 2), .mv (.c (.int .i64 0)), none⟩]) (.seq (.reg false [⟨(some 3), .mv (.c (.int .i64 1)), none⟩]) (.seq (.block 0 (.loop K_spec_l02Pow_0 L_spec_l02Pow_0)) (.seq (.reg false [⟨(some 10), .mv (.t 3), none⟩,
  ⟨(some 2), .mv (.t 10), none⟩]) (.ret))))
def A_spec_l02Pow : AFun := ⟨C_spec_l02Pow, 11, [.tmp 2]⟩
def C_spec_l11Log : ACode := .seq (.reg false [⟨(some 2), .mv (.c (.bool false)), none⟩]) (.seq (.reg false [⟨(some 3), .mv (.t 0), none⟩,
  ⟨(some 4), .bin .geq (.t 3) (.c (.int .i64 0)), none⟩,
  ⟨(some 5), .mv (.t 4), none⟩,
  ⟨(some 6), .mv (.t 0), (some (5, true))⟩,
  ⟨(some 7), .bin .leq (.t 6) (.c (.int .i64 6)), (some (5, true))⟩,
  ⟨(some 8), .pick (.t 5) (.t 7) (.c (.bool false)), none⟩,
  ⟨(some 2), .mv (.t 8), none⟩]) (.ret))
def A_spec_l11Log : AFun := ⟨C_spec_l11Log, 9, [.tmp 2]⟩
def C_spec_ShelfFor : ACode := .seq (.reg false [⟨(some 6), .mv (.c (.int .i64 0)), none⟩]) (.seq (.reg false [⟨(some 8), .mv (.t 0), none⟩,
  ⟨(some 9), .mv (.t 1), none⟩,
  ⟨(some 10), .call F_spec_HashWord [(.t 8), (.t 9)], none⟩,
  ⟨(some 7), .mv (.t 10), none⟩]) (.seq (.seq (.reg false [⟨(some 11), .mv (.t 7), none⟩,
  ⟨(some 12), .bin .lss (.t 11) (.c (.int .i64 0)), none⟩,
  ⟨(some 13), .mv (.t 12), none⟩,
  ⟨(some 14), .mv (.t 2), (some (13, false))⟩,
  ⟨(some 15), .call F_spec_l11Log [(.t 14)], (some (13, false))⟩,
  ⟨(some 16), .not (.t 15), (some (13, false))⟩,
  ⟨(some 17), .pick (.t 13) (.c (.bool true)) (.t 16), none⟩]) (.cond (.t 17) (.seq (.reg false [⟨(some 6), .mv (.c (.int .i64 (-1))), none⟩]) (.ret)) (.skip))) (.seq (.reg false [⟨(some 18), .mv (.t 7), none⟩,
  ⟨(some 19), .mv (.t 2), none⟩,
  ⟨(some 20), .call F_spec_l02Pow [(.t 19)], none⟩,
  ⟨(some 21), .bin .rem (.t 18) (.t 20), none⟩,
  ⟨(some 6), .mv (.t 21), none⟩]) (.ret))))
def A_spec_ShelfFor : AFun := ⟨C_spec_ShelfFor, 22, [.tmp 6]⟩
def C_impl_within : ACode := .seq (.reg false [⟨(some 6), .mv (.c (.bool false)), none⟩]) (.seq (.reg false [⟨(some 7), .mv (.t 0), none⟩,
  ⟨(some 8), .mv (.t 1), none⟩,
  ⟨(some 9), .bin .geq (.t 7) (.t 8), none⟩,
  ⟨(some 10), .mv (.t 9), none⟩,
  ⟨(some 11), .mv (.t 0), (some (10, true))⟩,
  ⟨(some 12), .mv (.t 2), (some (10, true))⟩,
  ⟨(some 13), .bin .leq (.t 11) (.t 12), (some (10, true))⟩,
  ⟨(some 14), .pick (.t 10) (.t 13) (.c (.bool false)), none⟩,
  ⟨(some 6), .mv (.t 14), none⟩]) (.ret))
def A_impl_within : AFun := ⟨C_impl_within, 15, [.tmp 6]⟩
def K_impl_isWord_0 : List Bool := [true, false, false, false, false, true, true, false, false, false, false, false, false, false, false, false, false, false, false, false, false, false, false]
def B_impl_isWord_0 : ACode := .seq (.reg false [⟨(some 7), .bin .lss (.t 6) (.t 5), none⟩]) (.seq (.cond (.t 7) (.skip) (.exit 0)) (.seq (.block 1 (.seq (.reg false [⟨(some 8), .mv (.t 6), none⟩,
  ⟨(some 3), .mv (.t 8), none⟩]) (.seq (.reg false [⟨(some 9), .mv (.t 0), none⟩,
  ⟨(some 10), .mv (.t 3), none⟩,
  ⟨(some 11), .ix (.t 9) (.t 10), none⟩,
  ⟨(some 12), .bin .lss (.t 11) (.c (.int .u8 97)), none⟩,
  ⟨(some 13), .mv (.t 12), none⟩,
  ⟨(some 14), .mv (.t 0), (some (13, false))⟩,
  ⟨(some 15), .mv (.t 3), (some (13, false))⟩,
  ⟨(some 16), .ix (.t 14) (.t 15), (some (13, false))⟩,
  ⟨(some 17), .bin .gtr (.t 16) (.c (.int .u8 122)), (some (13, false))⟩,
  ⟨(some 18), .pick (.t 13) (.c (.bool true)) (.t 17), none⟩]) (.cond (.t 18) (.seq (.reg false [⟨(some 2), .mv (.c (.bool false)), none⟩]) (.ret)) (.skip))))) (.reg false [⟨(some 19), .bin .add (.t 6) (.c (.int .i64 1)), none⟩,
  ⟨(some 6), .mv (.t 19), none⟩])))
def L_impl_isWord_0 : ACode := B_impl_isWord_0
def C_impl_isWord : ACode := .seq (.reg false [⟨(some 2), .mv (.c (.bool false)), none⟩]) (.seq (.seq (.reg false [⟨(some 4), .mv (.t 0), none⟩,
  ⟨(some 5), .slen (.t 4), none⟩,
  ⟨(some 6), .mv (.c (.int .i64 0)), none⟩]) (.block 0 (.loop K_impl_isWord_0 L_impl_isWord_0))) (.seq (.reg false [⟨(some 20), .mv (.t 0), none⟩,
  ⟨(some 21), .slen (.t 20), none⟩,
  ⟨(some 22), .call F_impl_within [(.t 21), (.c (.int .i64 1)), (.c (.int .i64 32))], none⟩,
  ⟨(some 2), .mv (.t 22), none⟩]) (.ret)))
def A_impl_isWord : AFun := ⟨C_impl_isWord, 23, [.tmp 2]⟩
def C_impl_isLog : ACode := .seq (.reg false [⟨(some 2), .mv (.c (.bool false)), none⟩]) (.seq (.reg false [⟨(some 3), .mv (.t 0), none⟩,
  ⟨(some 4), .call F_impl_within [(.t 3), (.c (.int .i64 0)), (.c (.int .i64 6))], none⟩,
  ⟨(some 2), .mv (.t 4), none⟩]) (.ret))
def A_impl_isLog : AFun := ⟨C_impl_isLog, 5, [.tmp 2]⟩
def C_impl_pad : ACode := .seq (.reg false [⟨(some 2), .mv (.c (.slice none 0 0)), none⟩]) (.seq (.reg false [⟨(some 4), .make 1 1 [(.int .u8 0)] (.c (.int .i64 33)), none⟩,
  ⟨(some 3), .mv (.t 4), none⟩]) (.seq (.seq (.reg false [⟨(some 5), .mv (.t 0), none⟩,
  ⟨(some 6), .call F_impl_isWord [(.t 5)], none⟩]) (.cond (.t 6) (.seq (.reg false [⟨(some 7), .mv (.t 3), none⟩,
  ⟨(some 8), .mv (.t 0), none⟩,
  ⟨(some 9), .slen (.t 8), none⟩,
  ⟨(some 10), .conv .u8 (.t 9), none⟩,
  ⟨(some 11), .ia 1 (.t 7) (.c (.int .i64 0)), none⟩,
  ⟨none, .store 1 (.t 11) (.t 10), none⟩]) (.reg false [⟨(some 12), .mv (.t 3), none⟩,
  ⟨(some 13), .slc 1 (.t 12) (some (.c (.int .i64 1))) none, none⟩,
  ⟨(some 14), .mv (.t 0), none⟩,
  ⟨(some 15), .copys (.t 13) (.t 14), none⟩])) (.skip))) (.seq (.reg false [⟨(some 16), .mv (.t 3), none⟩,
  ⟨(some 2), .mv (.t 16), none⟩]) (.ret))))
def A_impl_pad : AFun := ⟨C_impl_pad, 17, [.tmp 2]⟩
def K_impl_hashWord_0 : List Bool := [false, false, false, false, false, true, false, false, false, false, false, true, true, true, false, false, false, false, false, false, false, false, false, false, false, false, false, false]
def B_impl_hashWord_0 : ACode := .seq (.reg false [⟨(some 14), .bin .lss (.t 13) (.t 12), none⟩]) (.seq (.cond (.t 14) (.skip) (.exit 0)) (.seq (.block 1 (.seq (.reg false [⟨(some 15), .ia 1 (.t 11) (.t 13), none⟩,
  ⟨(some 16), .load1 (.t 15), none⟩,
  ⟨(some 7), .mv (.t 16), none⟩]) (.reg false [⟨(some 17), .mv (.t 5), none⟩,
  ⟨(some 18), .mv (.t 7), none⟩,
  ⟨(some 19), .conv .u32 (.t 18), none⟩,
  ⟨(some 20), .bin .xor (.t 17) (.t 19), none⟩,
  ⟨(some 21), .bin .mul (.t 20) (.c (.int .u32 16777619)), none⟩,
  ⟨(some 5), .mv (.t 21), none⟩]))) (.reg false [⟨(some 22), .bin .add (.t 13) (.c (.int .i64 1)), none⟩,
  ⟨(some 13), .mv (.t 22), none⟩])))
def L_impl_hashWord_0 : ACode := B_impl_hashWord_0
def C_impl_hashWord : ACode := .seq (.reg false [⟨(some 4), .mv (.c (.int .i64 0)), none⟩]) (.seq (.reg false [⟨(some 8), .mv (.t 0), none⟩,
  ⟨(some 9), .conv .u32 (.t 8), none⟩,
  ⟨(some 5), .mv (.t 9), none⟩]) (.seq (.seq (.reg false [⟨(some 10), .mv (.t 1), none⟩,
  ⟨(some 11), .call F_impl_pad [(.t 10)], none⟩,
  ⟨(some 12), .len (.t 11), none⟩,
  ⟨(some 13), .mv (.c (.int .i64 0)), none⟩]) (.block 0 (.loop K_impl_hashWord_0 L_impl_hashWord_0))) (.seq (.reg false [⟨(some 23), .mv (.t 5), none⟩,
  ⟨(some 24), .mv (.t 5), none⟩,
  ⟨(some 25), .bin .shr (.t 24) (.c (.int .u64 16)), none⟩,
  ⟨(some 26), .bin .xor (.t 23) (.t 25), none⟩,
  ⟨(some 27), .conv .i64 (.t 26), none⟩,
  ⟨(some 4), .mv (.t 27), none⟩]) (.ret))))
def A_impl_hashWord : AFun := ⟨C_impl_hashWord, 28, [.tmp 4]⟩
def C_impl_shelfFor : ACode := .seq (.reg false [⟨(some 6), .mv (.c (.int .i64 0)), none⟩]) (.seq (.reg true [⟨(some 7), .mv (.t 0), none⟩,
  ⟨(some 8), .mv (.t 1), none⟩,
  ⟨(some 9), .call F_impl_hashWord [(.t 7), (.t 8)], none⟩,
  ⟨(some 10), .mv (.t 2), none⟩,
  ⟨(some 11), .bin .shl (.c (.int .i64 1)) (.t 10), none⟩,
  ⟨(some 12), .bin .sub (.t 11) (.c (.int .i64 1)), none⟩,
  ⟨(some 13), .bin .and (.t 9) (.t 12), none⟩,
  ⟨(some 6), .mv (.t 13), none⟩]) (.ret))
def A_impl_shelfFor : AFun := ⟨C_impl_shelfFor, 14, [.tmp 6]⟩
def C_impl_ShelfFor : ACode := .seq (.reg false [⟨(some 6), .mv (.c (.int .i64 0)), none⟩]) (.seq (.seq (.reg false [⟨(some 7), .mv (.t 0), none⟩,
  ⟨(some 8), .call F_impl_within [(.t 7), (.c (.int .i64 0)), (.c (.int .i64 4294967295))], none⟩,
  ⟨(some 9), .not (.t 8), none⟩,
  ⟨(some 10), .mv (.t 9), none⟩,
  ⟨(some 11), .mv (.t 1), (some (10, false))⟩,
  ⟨(some 12), .call F_impl_isWord [(.t 11)], (some (10, false))⟩,
  ⟨(some 13), .not (.t 12), (some (10, false))⟩,
  ⟨(some 14), .pick (.t 10) (.c (.bool true)) (.t 13), none⟩,
  ⟨(some 15), .mv (.t 14), none⟩,
  ⟨(some 16), .mv (.t 2), (some (15, false))⟩,
  ⟨(some 17), .call F_impl_isLog [(.t 16)], (some (15, false))⟩,
  ⟨(some 18), .not (.t 17), (some (15, false))⟩,
  ⟨(some 19), .pick (.t 15) (.c (.bool true)) (.t 18), none⟩]) (.cond (.t 19) (.seq (.reg false [⟨(some 6), .mv (.c (.int .i64 (-1))), none⟩]) (.ret)) (.skip))) (.seq (.reg false [⟨(some 20), .mv (.t 0), none⟩,
  ⟨(some 21), .mv (.t 1), none⟩,
  ⟨(some 22), .mv (.t 2), none⟩,
  ⟨(some 23), .call F_impl_shelfFor [(.t 20), (.t 21), (.t 22)], none⟩,
  ⟨(some 6), .mv (.t 23), none⟩]) (.ret)))
def A_impl_ShelfFor : AFun := ⟨C_impl_ShelfFor, 24, [.tmp 6]⟩
def C_laws_FnExactShelfFor : ACode := .seq (.reg false [⟨(some 6), .mv (.c (.bool false)), none⟩]) (.seq (.seq (.reg false [⟨(some 9), .mv (.t 1), none⟩,
  ⟨(some 10), .slen (.t 9), none⟩,
  ⟨(some 11), .bin .gtr (.t 10) (.c (.int .i64 1048576)), none⟩]) (.cond (.t 11) (.seq (.reg false [⟨(some 6), .mv (.c (.bool true)), none⟩]) (.ret)) (.skip))) (.seq (.reg false [⟨(some 12), .mv (.t 0), none⟩,
  ⟨(some 13), .mv (.t 1), none⟩,
  ⟨(some 14), .mv (.t 2), none⟩,
  ⟨(some 15), .call F_spec_ShelfFor [(.t 12), (.t 13), (.t 14)], none⟩,
  ⟨(some 7), .mv (.t 15), none⟩]) (.seq (.reg false [⟨(some 16), .mv (.t 0), none⟩,
  ⟨(some 17), .mv (.t 1), none⟩,
  ⟨(some 18), .mv (.t 2), none⟩,
  ⟨(some 19), .call F_impl_ShelfFor [(.t 16), (.t 17), (.t 18)], none⟩,
  ⟨(some 8), .mv (.t 19), none⟩]) (.seq (.seq (.reg false [⟨(some 20), .mv (.t 8), none⟩,
  ⟨(some 21), .mv (.t 7), none⟩,
  ⟨(some 22), .bin .neq (.t 20) (.t 21), none⟩]) (.cond (.t 22) (.seq (.reg false [⟨(some 6), .mv (.c (.bool false)), none⟩]) (.ret)) (.skip))) (.seq (.reg false [⟨(some 6), .mv (.c (.bool true)), none⟩]) (.ret))))))
def A_laws_FnExactShelfFor : AFun := ⟨C_laws_FnExactShelfFor, 23, [.tmp 6]⟩
end GoAm
