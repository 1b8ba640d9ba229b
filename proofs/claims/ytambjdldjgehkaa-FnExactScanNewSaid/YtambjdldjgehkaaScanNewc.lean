/- The code that the law reaches, for the abstract machine: printed by a program. -/
import Derived.Test.YtambjdldjgehkaaAmDef
set_option autoImplicit false
set_option linter.unusedVariables false
set_option linter.unusedSimpArgs false
namespace GoAm
open Go
def F_spec_MemNew : Go.FuncId := 82
def F_spec_ScanNew : Go.FuncId := 30
def F_impl_within : Go.FuncId := 80
def F_impl_newMem : Go.FuncId := 83
def F_impl_ScanNew : Go.FuncId := 31
def F_laws_eqByteS : Go.FuncId := 58
def F_laws_eqCell : Go.FuncId := 134
def F_laws_eqCellS : Go.FuncId := 116
def F_laws_eqTouch : Go.FuncId := 135
def F_laws_eqTouchS : Go.FuncId := 117
def F_laws_eqMem : Go.FuncId := 84
def F_laws_eqScan : Go.FuncId := 32
def F_laws_markByteS : Go.FuncId := 59
def F_laws_markCellS : Go.FuncId := 118
def F_laws_markTouchS : Go.FuncId := 119
def F_laws_markMem : Go.FuncId := 85
def F_laws_markScan : Go.FuncId := 33
def F_laws_heldByteS : Go.FuncId := 60
def F_laws_heldCellS : Go.FuncId := 120
def F_laws_heldTouchS : Go.FuncId := 121
def F_laws_heldMem : Go.FuncId := 86
def F_laws_heldScan : Go.FuncId := 34
def F_laws_FnExactScanNew : Go.FuncId := 7
def K_spec_MemNew_0 : List Bool := [true, true, false, false, true, true, true, false, false, false, false, false, false, false, false, false, false, false, false, false, false, false, false, false, false, false, false, false, false, false, false, false, false, false, false, false, false, false]
def B_spec_MemNew_0 : ACode := .seq (.seq (.reg false [⟨(some 24), .mv (.t 6), none⟩,
  ⟨(some 25), .mv (.t 0), none⟩,
  ⟨(some 26), .bin .lss (.t 24) (.t 25), none⟩]) (.cond (.t 26) (.skip) (.exit 0))) (.seq (.block 1 (.reg true [⟨(some 29), .fa 1 (.t 5), none⟩,
  ⟨(some 30), .load1 (.t 29), none⟩,
  ⟨(some 31), .mv (.t 1), none⟩,
  ⟨(some 32), .make 1 1 [(.int .u8 0)] (.t 31), none⟩,
  ⟨(some 33), .build [(.slice none 0 0)] [(0, 1, (.t 32))], none⟩,
  ⟨(some 34), .mkl 1 1 [(.slice none 0 0)] [(0, 1, (.t 33))], none⟩,
  ⟨(some 35), .app 1 24 (.t 30) (.t 34), none⟩,
  ⟨(some 36), .fa 1 (.t 5), none⟩,
  ⟨none, .store 1 (.t 36) (.t 35), none⟩])) (.reg false [⟨(some 27), .mv (.t 6), none⟩,
  ⟨(some 28), .bin .add (.t 27) (.c (.int .i64 1)), none⟩,
  ⟨(some 6), .mv (.t 28), none⟩]))
def L_spec_MemNew_0 : ACode := B_spec_MemNew_0
def C_spec_MemNew : ACode := .seq (.reg false [⟨(some 4), .new [(.int .i64 0), (.slice none 0 0), (.slice none 0 0)], none⟩]) (.seq (.seq (.reg false [⟨(some 7), .mv (.t 0), none⟩,
  ⟨(some 8), .bin .lss (.t 7) (.c (.int .i64 0)), none⟩,
  ⟨(some 9), .mv (.t 8), none⟩,
  ⟨(some 10), .mv (.t 0), (some (9, false))⟩,
  ⟨(some 11), .bin .gtr (.t 10) (.c (.int .i64 128)), (some (9, false))⟩,
  ⟨(some 12), .pick (.t 9) (.c (.bool true)) (.t 11), none⟩,
  ⟨(some 13), .mv (.t 12), none⟩,
  ⟨(some 14), .mv (.t 1), (some (13, false))⟩,
  ⟨(some 15), .bin .lss (.t 14) (.c (.int .i64 1)), (some (13, false))⟩,
  ⟨(some 16), .pick (.t 13) (.c (.bool true)) (.t 15), none⟩,
  ⟨(some 17), .mv (.t 16), none⟩,
  ⟨(some 18), .mv (.t 1), (some (17, false))⟩,
  ⟨(some 19), .bin .gtr (.t 18) (.c (.int .i64 1000)), (some (17, false))⟩,
  ⟨(some 20), .pick (.t 17) (.c (.bool true)) (.t 19), none⟩]) (.cond (.t 20) (.seq (.reg false [⟨(some 21), .build [(.int .i64 0), (.slice none 0 0), (.slice none 0 0)] [], none⟩,
  ⟨none, .store 3 (.t 4) (.t 21), none⟩]) (.ret)) (.skip))) (.seq (.reg false [⟨(some 22), .mv (.t 1), none⟩,
  ⟨(some 23), .build [(.int .i64 0), (.slice none 0 0), (.slice none 0 0)] [(0, 1, (.t 22))], none⟩,
  ⟨(some 5), .new [(.int .i64 0), (.slice none 0 0), (.slice none 0 0)], none⟩,
  ⟨none, .store 3 (.t 5) (.t 23), none⟩]) (.seq (.seq (.reg false [⟨(some 6), .mv (.c (.int .i64 0)), none⟩]) (.block 0 (.loop K_spec_MemNew_0 L_spec_MemNew_0))) (.seq (.reg false [⟨(some 37), .loadn 3 (.t 5), none⟩,
  ⟨none, .store 3 (.t 4) (.t 37), none⟩]) (.ret)))))
def A_spec_MemNew : AFun := ⟨C_spec_MemNew, 38, [.celln 4 3]⟩
def C_spec_ScanNew : ACode := .seq (.reg false [⟨(some 2), .new [(.int .i64 0), (.slice none 0 0), (.slice none 0 0)], none⟩]) (.seq (.seq (.reg false [⟨(some 3), .mv (.t 0), none⟩,
  ⟨(some 4), .bin .lss (.t 3) (.c (.int .i64 1)), none⟩,
  ⟨(some 5), .mv (.t 4), none⟩,
  ⟨(some 6), .mv (.t 0), (some (5, false))⟩,
  ⟨(some 7), .bin .gtr (.t 6) (.c (.int .i64 64)), (some (5, false))⟩,
  ⟨(some 8), .pick (.t 5) (.c (.bool true)) (.t 7), none⟩]) (.cond (.t 8) (.seq (.reg false [⟨(some 9), .build [(.int .i64 0), (.slice none 0 0), (.slice none 0 0)] [], none⟩,
  ⟨none, .store 3 (.t 2) (.t 9), none⟩]) (.ret)) (.skip))) (.seq (.reg false [⟨(some 10), .mv (.t 0), none⟩,
  ⟨(some 11), .call F_spec_MemNew [(.t 10), (.c (.int .i64 37))], none⟩,
  ⟨(some 12), .build [(.int .i64 0), (.slice none 0 0), (.slice none 0 0)] [(0, 3, (.t 11))], none⟩,
  ⟨none, .store 3 (.t 2) (.t 12), none⟩]) (.ret)))
def A_spec_ScanNew : AFun := ⟨C_spec_ScanNew, 13, [.celln 2 3]⟩
def C_impl_within : ACode := .seq (.reg false [⟨(some 6), .mv (.c (.bool false)), none⟩]) (.seq (.reg false [⟨(some 7), .mv (.t 0), none⟩,
  ⟨(some 8), .mv (.t 1), none⟩,
  ⟨(some 9), .bin .geq (.t 7) (.t 8), none⟩,
  ⟨(some 10), .mv (.t 9), none⟩,
  ⟨(some 11), .mv (.t 0), (some (10, true))⟩,
  ⟨(some 12), .mv (.t 2), (some (10, true))⟩,
  ⟨(some 13), .bin .leq (.t 11) (.t 12), (some (10, true))⟩,
  ⟨(some 14), .pick (.t 10) (.t 13) (.c (.bool false)), none⟩,
  ⟨(some 6), .mv (.t 14), none⟩]) (.ret))
def A_impl_within : AFun := ⟨C_impl_within, 15, [.tmp 6]⟩
def K_impl_newMem_0 : List Bool := [false, true, false, false, true, true, false, false, true, true, false, false, false, false, false, false, false, false, false, false, false]
def B_impl_newMem_0 : ACode := .seq (.reg false [⟨(some 10), .bin .lss (.t 9) (.t 8), none⟩]) (.seq (.cond (.t 10) (.skip) (.exit 0)) (.seq (.block 1 (.reg true [⟨(some 11), .fa 1 (.t 5), none⟩,
  ⟨(some 12), .load1 (.t 11), none⟩,
  ⟨(some 13), .mv (.t 1), none⟩,
  ⟨(some 14), .make 1 1 [(.int .u8 0)] (.t 13), none⟩,
  ⟨(some 15), .build [(.slice none 0 0)] [(0, 1, (.t 14))], none⟩,
  ⟨(some 16), .mkl 1 1 [(.slice none 0 0)] [(0, 1, (.t 15))], none⟩,
  ⟨(some 17), .app 1 24 (.t 12) (.t 16), none⟩,
  ⟨(some 18), .fa 1 (.t 5), none⟩,
  ⟨none, .store 1 (.t 18) (.t 17), none⟩])) (.reg false [⟨(some 19), .bin .add (.t 9) (.c (.int .i64 1)), none⟩,
  ⟨(some 9), .mv (.t 19), none⟩])))
def L_impl_newMem_0 : ACode := B_impl_newMem_0
def C_impl_newMem : ACode := .seq (.reg false [⟨(some 4), .new [(.int .i64 0), (.slice none 0 0), (.slice none 0 0)], none⟩]) (.seq (.reg false [⟨(some 6), .mv (.t 1), none⟩,
  ⟨(some 7), .build [(.int .i64 0), (.slice none 0 0), (.slice none 0 0)] [(0, 1, (.t 6))], none⟩,
  ⟨(some 5), .new [(.int .i64 0), (.slice none 0 0), (.slice none 0 0)], none⟩,
  ⟨none, .store 3 (.t 5) (.t 7), none⟩]) (.seq (.seq (.reg false [⟨(some 8), .mv (.t 0), none⟩,
  ⟨(some 9), .mv (.c (.int .i64 0)), none⟩]) (.block 0 (.loop K_impl_newMem_0 L_impl_newMem_0))) (.seq (.reg false [⟨(some 20), .loadn 3 (.t 5), none⟩,
  ⟨none, .store 3 (.t 4) (.t 20), none⟩]) (.ret))))
def A_impl_newMem : AFun := ⟨C_impl_newMem, 21, [.celln 4 3]⟩
def C_impl_ScanNew : ACode := .seq (.reg false [⟨(some 2), .new [(.int .i64 0), (.slice none 0 0), (.slice none 0 0)], none⟩]) (.seq (.seq (.reg false [⟨(some 3), .mv (.t 0), none⟩,
  ⟨(some 4), .call F_impl_within [(.t 3), (.c (.int .i64 1)), (.c (.int .i64 64))], none⟩,
  ⟨(some 5), .not (.t 4), none⟩]) (.cond (.t 5) (.seq (.reg false [⟨(some 6), .build [(.int .i64 0), (.slice none 0 0), (.slice none 0 0)] [], none⟩,
  ⟨none, .store 3 (.t 2) (.t 6), none⟩]) (.ret)) (.skip))) (.seq (.reg false [⟨(some 7), .mv (.t 0), none⟩,
  ⟨(some 8), .call F_impl_newMem [(.t 7), (.c (.int .i64 37))], none⟩,
  ⟨(some 9), .build [(.int .i64 0), (.slice none 0 0), (.slice none 0 0)] [(0, 3, (.t 8))], none⟩,
  ⟨none, .store 3 (.t 2) (.t 9), none⟩]) (.ret)))
def A_impl_ScanNew : AFun := ⟨C_impl_ScanNew, 10, [.celln 2 3]⟩
def K_laws_eqByteS_0 : List Bool := [true, true, false, false, false, true, false, false, false, false, false, false, false, false, false, false, false, false, false, false, false, false, false, false, false, false]
def B_laws_eqByteS_0 : ACode := .seq (.seq (.reg false [⟨(some 11), .mv (.t 5), none⟩,
  ⟨(some 12), .mv (.t 0), none⟩,
  ⟨(some 13), .len (.t 12), none⟩,
  ⟨(some 14), .bin .lss (.t 11) (.t 13), none⟩]) (.cond (.t 14) (.skip) (.exit 0))) (.seq (.block 1 (.seq (.reg true [⟨(some 17), .mv (.t 0), none⟩,
  ⟨(some 18), .mv (.t 5), none⟩,
  ⟨(some 19), .ia 1 (.t 17) (.t 18), none⟩,
  ⟨(some 20), .load1 (.t 19), none⟩,
  ⟨(some 21), .mv (.t 1), none⟩,
  ⟨(some 22), .mv (.t 5), none⟩,
  ⟨(some 23), .ia 1 (.t 21) (.t 22), none⟩,
  ⟨(some 24), .load1 (.t 23), none⟩,
  ⟨(some 25), .bin .neq (.t 20) (.t 24), none⟩]) (.cond (.t 25) (.seq (.reg false [⟨(some 4), .mv (.c (.bool false)), none⟩]) (.ret)) (.skip)))) (.reg false [⟨(some 15), .mv (.t 5), none⟩,
  ⟨(some 16), .bin .add (.t 15) (.c (.int .i64 1)), none⟩,
  ⟨(some 5), .mv (.t 16), none⟩]))
def L_laws_eqByteS_0 : ACode := B_laws_eqByteS_0
def C_laws_eqByteS : ACode := .seq (.reg false [⟨(some 4), .mv (.c (.bool false)), none⟩]) (.seq (.seq (.reg false [⟨(some 6), .mv (.t 0), none⟩,
  ⟨(some 7), .len (.t 6), none⟩,
  ⟨(some 8), .mv (.t 1), none⟩,
  ⟨(some 9), .len (.t 8), none⟩,
  ⟨(some 10), .bin .neq (.t 7) (.t 9), none⟩]) (.cond (.t 10) (.seq (.reg false [⟨(some 4), .mv (.c (.bool false)), none⟩]) (.ret)) (.skip))) (.seq (.seq (.reg false [⟨(some 5), .mv (.c (.int .i64 0)), none⟩]) (.block 0 (.loop K_laws_eqByteS_0 L_laws_eqByteS_0))) (.seq (.reg false [⟨(some 4), .mv (.c (.bool true)), none⟩]) (.ret))))
def A_laws_eqByteS : AFun := ⟨C_laws_eqByteS, 26, [.tmp 4]⟩
def C_laws_eqCell : ACode := .seq (.reg false [⟨(some 2), .box (.t 0), none⟩,
  ⟨(some 3), .box (.t 1), none⟩,
  ⟨(some 4), .mv (.c (.bool false)), none⟩]) (.seq (.seq (.reg false [⟨(some 5), .fa 0 (.t 2), none⟩,
  ⟨(some 6), .load1 (.t 5), none⟩,
  ⟨(some 7), .fa 0 (.t 3), none⟩,
  ⟨(some 8), .load1 (.t 7), none⟩,
  ⟨(some 9), .call F_laws_eqByteS [(.t 6), (.t 8)], none⟩,
  ⟨(some 10), .not (.t 9), none⟩]) (.cond (.t 10) (.seq (.reg false [⟨(some 4), .mv (.c (.bool false)), none⟩]) (.ret)) (.skip))) (.seq (.reg false [⟨(some 4), .mv (.c (.bool true)), none⟩]) (.ret)))
def A_laws_eqCell : AFun := ⟨C_laws_eqCell, 11, [.tmp 4]⟩
def K_laws_eqCellS_0 : List Bool := [true, true, false, false, false, true, false, false, false, false, false, false, false, false, false, false, false, false, false, false, false, false, false, false, false, false, false]
def B_laws_eqCellS_0 : ACode := .seq (.seq (.reg false [⟨(some 11), .mv (.t 5), none⟩,
  ⟨(some 12), .mv (.t 0), none⟩,
  ⟨(some 13), .len (.t 12), none⟩,
  ⟨(some 14), .bin .lss (.t 11) (.t 13), none⟩]) (.cond (.t 14) (.skip) (.exit 0))) (.seq (.block 1 (.seq (.reg true [⟨(some 17), .mv (.t 0), none⟩,
  ⟨(some 18), .mv (.t 5), none⟩,
  ⟨(some 19), .ia 1 (.t 17) (.t 18), none⟩,
  ⟨(some 20), .loadn 1 (.t 19), none⟩,
  ⟨(some 21), .mv (.t 1), none⟩,
  ⟨(some 22), .mv (.t 5), none⟩,
  ⟨(some 23), .ia 1 (.t 21) (.t 22), none⟩,
  ⟨(some 24), .loadn 1 (.t 23), none⟩,
  ⟨(some 25), .call F_laws_eqCell [(.t 20), (.t 24)], none⟩,
  ⟨(some 26), .not (.t 25), none⟩]) (.cond (.t 26) (.seq (.reg false [⟨(some 4), .mv (.c (.bool false)), none⟩]) (.ret)) (.skip)))) (.reg false [⟨(some 15), .mv (.t 5), none⟩,
  ⟨(some 16), .bin .add (.t 15) (.c (.int .i64 1)), none⟩,
  ⟨(some 5), .mv (.t 16), none⟩]))
def L_laws_eqCellS_0 : ACode := B_laws_eqCellS_0
def C_laws_eqCellS : ACode := .seq (.reg false [⟨(some 4), .mv (.c (.bool false)), none⟩]) (.seq (.seq (.reg false [⟨(some 6), .mv (.t 0), none⟩,
  ⟨(some 7), .len (.t 6), none⟩,
  ⟨(some 8), .mv (.t 1), none⟩,
  ⟨(some 9), .len (.t 8), none⟩,
  ⟨(some 10), .bin .neq (.t 7) (.t 9), none⟩]) (.cond (.t 10) (.seq (.reg false [⟨(some 4), .mv (.c (.bool false)), none⟩]) (.ret)) (.skip))) (.seq (.seq (.reg false [⟨(some 5), .mv (.c (.int .i64 0)), none⟩]) (.block 0 (.loop K_laws_eqCellS_0 L_laws_eqCellS_0))) (.seq (.reg false [⟨(some 4), .mv (.c (.bool true)), none⟩]) (.ret))))
def A_laws_eqCellS : AFun := ⟨C_laws_eqCellS, 27, [.tmp 4]⟩
def C_laws_eqTouch : ACode := .seq (.reg false [⟨(some 2), .box (.t 0), none⟩,
  ⟨(some 3), .box (.t 1), none⟩,
  ⟨(some 4), .mv (.c (.bool false)), none⟩]) (.seq (.seq (.reg false [⟨(some 5), .fa 0 (.t 2), none⟩,
  ⟨(some 6), .load1 (.t 5), none⟩,
  ⟨(some 7), .fa 0 (.t 3), none⟩,
  ⟨(some 8), .load1 (.t 7), none⟩,
  ⟨(some 9), .bin .neq (.t 6) (.t 8), none⟩]) (.cond (.t 9) (.seq (.reg false [⟨(some 4), .mv (.c (.bool false)), none⟩]) (.ret)) (.skip))) (.seq (.seq (.reg false [⟨(some 10), .fa 1 (.t 2), none⟩,
  ⟨(some 11), .load1 (.t 10), none⟩,
  ⟨(some 12), .fa 1 (.t 3), none⟩,
  ⟨(some 13), .load1 (.t 12), none⟩,
  ⟨(some 14), .bin .neq (.t 11) (.t 13), none⟩]) (.cond (.t 14) (.seq (.reg false [⟨(some 4), .mv (.c (.bool false)), none⟩]) (.ret)) (.skip))) (.seq (.seq (.reg false [⟨(some 15), .fa 2 (.t 2), none⟩,
  ⟨(some 16), .load1 (.t 15), none⟩,
  ⟨(some 17), .fa 2 (.t 3), none⟩,
  ⟨(some 18), .load1 (.t 17), none⟩,
  ⟨(some 19), .bin .neq (.t 16) (.t 18), none⟩]) (.cond (.t 19) (.seq (.reg false [⟨(some 4), .mv (.c (.bool false)), none⟩]) (.ret)) (.skip))) (.seq (.reg false [⟨(some 4), .mv (.c (.bool true)), none⟩]) (.ret)))))
def A_laws_eqTouch : AFun := ⟨C_laws_eqTouch, 20, [.tmp 4]⟩
def K_laws_eqTouchS_0 : List Bool := [true, true, false, false, false, true, false, false, false, false, false, false, false, false, false, false, false, false, false, false, false, false, false, false, false, false, false]
def B_laws_eqTouchS_0 : ACode := .seq (.seq (.reg false [⟨(some 11), .mv (.t 5), none⟩,
  ⟨(some 12), .mv (.t 0), none⟩,
  ⟨(some 13), .len (.t 12), none⟩,
  ⟨(some 14), .bin .lss (.t 11) (.t 13), none⟩]) (.cond (.t 14) (.skip) (.exit 0))) (.seq (.block 1 (.seq (.reg true [⟨(some 17), .mv (.t 0), none⟩,
  ⟨(some 18), .mv (.t 5), none⟩,
  ⟨(some 19), .ia 3 (.t 17) (.t 18), none⟩,
  ⟨(some 20), .loadn 3 (.t 19), none⟩,
  ⟨(some 21), .mv (.t 1), none⟩,
  ⟨(some 22), .mv (.t 5), none⟩,
  ⟨(some 23), .ia 3 (.t 21) (.t 22), none⟩,
  ⟨(some 24), .loadn 3 (.t 23), none⟩,
  ⟨(some 25), .call F_laws_eqTouch [(.t 20), (.t 24)], none⟩,
  ⟨(some 26), .not (.t 25), none⟩]) (.cond (.t 26) (.seq (.reg false [⟨(some 4), .mv (.c (.bool false)), none⟩]) (.ret)) (.skip)))) (.reg false [⟨(some 15), .mv (.t 5), none⟩,
  ⟨(some 16), .bin .add (.t 15) (.c (.int .i64 1)), none⟩,
  ⟨(some 5), .mv (.t 16), none⟩]))
def L_laws_eqTouchS_0 : ACode := B_laws_eqTouchS_0
def C_laws_eqTouchS : ACode := .seq (.reg false [⟨(some 4), .mv (.c (.bool false)), none⟩]) (.seq (.seq (.reg false [⟨(some 6), .mv (.t 0), none⟩,
  ⟨(some 7), .len (.t 6), none⟩,
  ⟨(some 8), .mv (.t 1), none⟩,
  ⟨(some 9), .len (.t 8), none⟩,
  ⟨(some 10), .bin .neq (.t 7) (.t 9), none⟩]) (.cond (.t 10) (.seq (.reg false [⟨(some 4), .mv (.c (.bool false)), none⟩]) (.ret)) (.skip))) (.seq (.seq (.reg false [⟨(some 5), .mv (.c (.int .i64 0)), none⟩]) (.block 0 (.loop K_laws_eqTouchS_0 L_laws_eqTouchS_0))) (.seq (.reg false [⟨(some 4), .mv (.c (.bool true)), none⟩]) (.ret))))
def A_laws_eqTouchS : AFun := ⟨C_laws_eqTouchS, 27, [.tmp 4]⟩
def C_laws_eqMem : ACode := .seq (.reg false [⟨(some 2), .box (.t 0), none⟩,
  ⟨(some 3), .box (.t 1), none⟩,
  ⟨(some 4), .mv (.c (.bool false)), none⟩]) (.seq (.seq (.reg false [⟨(some 5), .fa 0 (.t 2), none⟩,
  ⟨(some 6), .load1 (.t 5), none⟩,
  ⟨(some 7), .fa 0 (.t 3), none⟩,
  ⟨(some 8), .load1 (.t 7), none⟩,
  ⟨(some 9), .bin .neq (.t 6) (.t 8), none⟩]) (.cond (.t 9) (.seq (.reg false [⟨(some 4), .mv (.c (.bool false)), none⟩]) (.ret)) (.skip))) (.seq (.seq (.reg false [⟨(some 10), .fa 1 (.t 2), none⟩,
  ⟨(some 11), .load1 (.t 10), none⟩,
  ⟨(some 12), .fa 1 (.t 3), none⟩,
  ⟨(some 13), .load1 (.t 12), none⟩,
  ⟨(some 14), .call F_laws_eqCellS [(.t 11), (.t 13)], none⟩,
  ⟨(some 15), .not (.t 14), none⟩]) (.cond (.t 15) (.seq (.reg false [⟨(some 4), .mv (.c (.bool false)), none⟩]) (.ret)) (.skip))) (.seq (.seq (.reg false [⟨(some 16), .fa 2 (.t 2), none⟩,
  ⟨(some 17), .load1 (.t 16), none⟩,
  ⟨(some 18), .fa 2 (.t 3), none⟩,
  ⟨(some 19), .load1 (.t 18), none⟩,
  ⟨(some 20), .call F_laws_eqTouchS [(.t 17), (.t 19)], none⟩,
  ⟨(some 21), .not (.t 20), none⟩]) (.cond (.t 21) (.seq (.reg false [⟨(some 4), .mv (.c (.bool false)), none⟩]) (.ret)) (.skip))) (.seq (.reg false [⟨(some 4), .mv (.c (.bool true)), none⟩]) (.ret)))))
def A_laws_eqMem : AFun := ⟨C_laws_eqMem, 22, [.tmp 4]⟩
def C_laws_eqScan : ACode := .seq (.reg false [⟨(some 2), .box (.t 0), none⟩,
  ⟨(some 3), .box (.t 1), none⟩,
  ⟨(some 4), .mv (.c (.bool false)), none⟩]) (.seq (.seq (.reg false [⟨(some 5), .fa 0 (.t 2), none⟩,
  ⟨(some 6), .loadn 3 (.t 5), none⟩,
  ⟨(some 7), .fa 0 (.t 3), none⟩,
  ⟨(some 8), .loadn 3 (.t 7), none⟩,
  ⟨(some 9), .call F_laws_eqMem [(.t 6), (.t 8)], none⟩,
  ⟨(some 10), .not (.t 9), none⟩]) (.cond (.t 10) (.seq (.reg false [⟨(some 4), .mv (.c (.bool false)), none⟩]) (.ret)) (.skip))) (.seq (.reg false [⟨(some 4), .mv (.c (.bool true)), none⟩]) (.ret)))
def A_laws_eqScan : AFun := ⟨C_laws_eqScan, 11, [.tmp 4]⟩
def K_laws_markByteS_0 : List Bool := [true, true, false, false, false, true, false, false, false, false, false, false, false, false, false, false, false, false, false, false]
def B_laws_markByteS_0 : ACode := .seq (.seq (.reg false [⟨(some 6), .mv (.t 5), none⟩,
  ⟨(some 7), .mv (.t 0), none⟩,
  ⟨(some 8), .len (.t 7), none⟩,
  ⟨(some 9), .bin .lss (.t 6) (.t 8), none⟩]) (.cond (.t 9) (.skip) (.exit 0))) (.seq (.block 1 (.seq (.reg false [⟨(some 12), .mv (.t 0), none⟩,
  ⟨(some 13), .mv (.t 5), none⟩,
  ⟨(some 14), .mv (.t 1), none⟩,
  ⟨(some 15), .conv .u8 (.t 14), none⟩,
  ⟨(some 16), .ia 1 (.t 12) (.t 13), none⟩,
  ⟨none, .store 1 (.t 16) (.t 15), none⟩]) (.reg false [⟨(some 17), .mv (.t 1), none⟩,
  ⟨(some 18), .bin .add (.t 17) (.c (.int .i64 1)), none⟩,
  ⟨(some 1), .mv (.t 18), none⟩]))) (.reg false [⟨(some 10), .mv (.t 5), none⟩,
  ⟨(some 11), .bin .add (.t 10) (.c (.int .i64 1)), none⟩,
  ⟨(some 5), .mv (.t 11), none⟩]))
def L_laws_markByteS_0 : ACode := B_laws_markByteS_0
def C_laws_markByteS : ACode := .seq (.reg false [⟨(some 4), .mv (.c (.int .i64 0)), none⟩]) (.seq (.seq (.reg false [⟨(some 5), .mv (.c (.int .i64 0)), none⟩]) (.block 0 (.loop K_laws_markByteS_0 L_laws_markByteS_0))) (.seq (.reg false [⟨(some 19), .mv (.t 1), none⟩,
  ⟨(some 4), .mv (.t 19), none⟩]) (.ret)))
def A_laws_markByteS : AFun := ⟨C_laws_markByteS, 20, [.tmp 4]⟩
def K_laws_markCellS_0 : List Bool := [true, true, false, false, false, true, false, false, false, false, false, false, false, false, false, false, false, false, false, false]
def B_laws_markCellS_0 : ACode := .seq (.seq (.reg false [⟨(some 6), .mv (.t 5), none⟩,
  ⟨(some 7), .mv (.t 0), none⟩,
  ⟨(some 8), .len (.t 7), none⟩,
  ⟨(some 9), .bin .lss (.t 6) (.t 8), none⟩]) (.cond (.t 9) (.skip) (.exit 0))) (.seq (.block 1 (.reg false [⟨(some 12), .mv (.t 0), none⟩,
  ⟨(some 13), .mv (.t 5), none⟩,
  ⟨(some 14), .ia 1 (.t 12) (.t 13), none⟩,
  ⟨(some 15), .fa 0 (.t 14), none⟩,
  ⟨(some 16), .load1 (.t 15), none⟩,
  ⟨(some 17), .mv (.t 1), none⟩,
  ⟨(some 18), .call F_laws_markByteS [(.t 16), (.t 17)], none⟩,
  ⟨(some 1), .mv (.t 18), none⟩])) (.reg false [⟨(some 10), .mv (.t 5), none⟩,
  ⟨(some 11), .bin .add (.t 10) (.c (.int .i64 1)), none⟩,
  ⟨(some 5), .mv (.t 11), none⟩]))
def L_laws_markCellS_0 : ACode := B_laws_markCellS_0
def C_laws_markCellS : ACode := .seq (.reg false [⟨(some 4), .mv (.c (.int .i64 0)), none⟩]) (.seq (.seq (.reg false [⟨(some 5), .mv (.c (.int .i64 0)), none⟩]) (.block 0 (.loop K_laws_markCellS_0 L_laws_markCellS_0))) (.seq (.reg false [⟨(some 19), .mv (.t 1), none⟩,
  ⟨(some 4), .mv (.t 19), none⟩]) (.ret)))
def A_laws_markCellS : AFun := ⟨C_laws_markCellS, 20, [.tmp 4]⟩
def K_laws_markTouchS_0 : List Bool := [true, true, false, false, false, true, false, false, false, false, false, false, false, false, false, false, false, false, false, false, false, false, false, false, false, false, false, false, false, false, false, false, false, false]
def B_laws_markTouchS_0 : ACode := .seq (.seq (.reg false [⟨(some 6), .mv (.t 5), none⟩,
  ⟨(some 7), .mv (.t 0), none⟩,
  ⟨(some 8), .len (.t 7), none⟩,
  ⟨(some 9), .bin .lss (.t 6) (.t 8), none⟩]) (.cond (.t 9) (.skip) (.exit 0))) (.seq (.block 1 (.seq (.reg false [⟨(some 12), .mv (.t 0), none⟩,
  ⟨(some 13), .mv (.t 5), none⟩,
  ⟨(some 14), .mv (.t 1), none⟩,
  ⟨(some 15), .ia 3 (.t 12) (.t 13), none⟩,
  ⟨(some 16), .fa 0 (.t 15), none⟩,
  ⟨none, .store 1 (.t 16) (.t 14), none⟩]) (.seq (.reg false [⟨(some 17), .mv (.t 1), none⟩,
  ⟨(some 18), .bin .add (.t 17) (.c (.int .i64 1)), none⟩,
  ⟨(some 1), .mv (.t 18), none⟩]) (.seq (.reg false [⟨(some 19), .mv (.t 0), none⟩,
  ⟨(some 20), .mv (.t 5), none⟩,
  ⟨(some 21), .mv (.t 1), none⟩,
  ⟨(some 22), .ia 3 (.t 19) (.t 20), none⟩,
  ⟨(some 23), .fa 1 (.t 22), none⟩,
  ⟨none, .store 1 (.t 23) (.t 21), none⟩]) (.seq (.reg false [⟨(some 24), .mv (.t 1), none⟩,
  ⟨(some 25), .bin .add (.t 24) (.c (.int .i64 1)), none⟩,
  ⟨(some 1), .mv (.t 25), none⟩]) (.seq (.reg false [⟨(some 26), .mv (.t 0), none⟩,
  ⟨(some 27), .mv (.t 5), none⟩,
  ⟨(some 28), .mv (.t 1), none⟩,
  ⟨(some 29), .ia 3 (.t 26) (.t 27), none⟩,
  ⟨(some 30), .fa 2 (.t 29), none⟩,
  ⟨none, .store 1 (.t 30) (.t 28), none⟩]) (.reg false [⟨(some 31), .mv (.t 1), none⟩,
  ⟨(some 32), .bin .add (.t 31) (.c (.int .i64 1)), none⟩,
  ⟨(some 1), .mv (.t 32), none⟩]))))))) (.reg false [⟨(some 10), .mv (.t 5), none⟩,
  ⟨(some 11), .bin .add (.t 10) (.c (.int .i64 1)), none⟩,
  ⟨(some 5), .mv (.t 11), none⟩]))
def L_laws_markTouchS_0 : ACode := B_laws_markTouchS_0
def C_laws_markTouchS : ACode := .seq (.reg false [⟨(some 4), .mv (.c (.int .i64 0)), none⟩]) (.seq (.seq (.reg false [⟨(some 5), .mv (.c (.int .i64 0)), none⟩]) (.block 0 (.loop K_laws_markTouchS_0 L_laws_markTouchS_0))) (.seq (.reg false [⟨(some 33), .mv (.t 1), none⟩,
  ⟨(some 4), .mv (.t 33), none⟩]) (.ret)))
def A_laws_markTouchS : AFun := ⟨C_laws_markTouchS, 34, [.tmp 4]⟩
def C_laws_markMem : ACode := .seq (.reg false [⟨(some 2), .box (.t 0), none⟩,
  ⟨(some 4), .mv (.c (.int .i64 0)), none⟩]) (.seq (.reg false [⟨(some 5), .fa 1 (.t 2), none⟩,
  ⟨(some 6), .load1 (.t 5), none⟩,
  ⟨(some 7), .mv (.t 1), none⟩,
  ⟨(some 8), .call F_laws_markCellS [(.t 6), (.t 7)], none⟩,
  ⟨(some 1), .mv (.t 8), none⟩]) (.seq (.reg false [⟨(some 9), .fa 2 (.t 2), none⟩,
  ⟨(some 10), .load1 (.t 9), none⟩,
  ⟨(some 11), .mv (.t 1), none⟩,
  ⟨(some 12), .call F_laws_markTouchS [(.t 10), (.t 11)], none⟩,
  ⟨(some 1), .mv (.t 12), none⟩]) (.seq (.reg false [⟨(some 13), .mv (.t 1), none⟩,
  ⟨(some 4), .mv (.t 13), none⟩]) (.ret))))
def A_laws_markMem : AFun := ⟨C_laws_markMem, 14, [.tmp 4]⟩
def C_laws_markScan : ACode := .seq (.reg false [⟨(some 2), .box (.t 0), none⟩,
  ⟨(some 4), .mv (.c (.int .i64 0)), none⟩]) (.seq (.reg false [⟨(some 5), .fa 0 (.t 2), none⟩,
  ⟨(some 6), .loadn 3 (.t 5), none⟩,
  ⟨(some 7), .mv (.t 1), none⟩,
  ⟨(some 8), .call F_laws_markMem [(.t 6), (.t 7)], none⟩,
  ⟨(some 1), .mv (.t 8), none⟩]) (.seq (.reg false [⟨(some 9), .mv (.t 1), none⟩,
  ⟨(some 4), .mv (.t 9), none⟩]) (.ret)))
def A_laws_markScan : AFun := ⟨C_laws_markScan, 10, [.tmp 4]⟩
def K_laws_heldByteS_0 : List Bool := [true, true, false, false, false, true, false, false, false, false, false, false, false, false, false, false, false, false, false, false, false, false]
def B_laws_heldByteS_0 : ACode := .seq (.seq (.reg false [⟨(some 6), .mv (.t 5), none⟩,
  ⟨(some 7), .mv (.t 0), none⟩,
  ⟨(some 8), .len (.t 7), none⟩,
  ⟨(some 9), .bin .lss (.t 6) (.t 8), none⟩]) (.cond (.t 9) (.skip) (.exit 0))) (.seq (.block 1 (.seq (.seq (.reg false [⟨(some 12), .mv (.t 0), none⟩,
  ⟨(some 13), .mv (.t 5), none⟩,
  ⟨(some 14), .ia 1 (.t 12) (.t 13), none⟩,
  ⟨(some 15), .load1 (.t 14), none⟩,
  ⟨(some 16), .mv (.t 1), none⟩,
  ⟨(some 17), .conv .u8 (.t 16), none⟩,
  ⟨(some 18), .bin .neq (.t 15) (.t 17), none⟩]) (.cond (.t 18) (.seq (.reg false [⟨(some 4), .mv (.c (.int .i64 (-1))), none⟩]) (.ret)) (.skip))) (.reg false [⟨(some 19), .mv (.t 1), none⟩,
  ⟨(some 20), .bin .add (.t 19) (.c (.int .i64 1)), none⟩,
  ⟨(some 1), .mv (.t 20), none⟩]))) (.reg false [⟨(some 10), .mv (.t 5), none⟩,
  ⟨(some 11), .bin .add (.t 10) (.c (.int .i64 1)), none⟩,
  ⟨(some 5), .mv (.t 11), none⟩]))
def L_laws_heldByteS_0 : ACode := B_laws_heldByteS_0
def C_laws_heldByteS : ACode := .seq (.reg false [⟨(some 4), .mv (.c (.int .i64 0)), none⟩]) (.seq (.seq (.reg false [⟨(some 5), .mv (.c (.int .i64 0)), none⟩]) (.block 0 (.loop K_laws_heldByteS_0 L_laws_heldByteS_0))) (.seq (.reg false [⟨(some 21), .mv (.t 1), none⟩,
  ⟨(some 4), .mv (.t 21), none⟩]) (.ret)))
def A_laws_heldByteS : AFun := ⟨C_laws_heldByteS, 22, [.tmp 4]⟩
def K_laws_heldCellS_0 : List Bool := [true, true, false, false, false, true, false, false, false, false, false, false, false, false, false, false, false, false, false, false, false, false]
def B_laws_heldCellS_0 : ACode := .seq (.seq (.reg false [⟨(some 6), .mv (.t 5), none⟩,
  ⟨(some 7), .mv (.t 0), none⟩,
  ⟨(some 8), .len (.t 7), none⟩,
  ⟨(some 9), .bin .lss (.t 6) (.t 8), none⟩]) (.cond (.t 9) (.skip) (.exit 0))) (.seq (.block 1 (.seq (.reg false [⟨(some 12), .mv (.t 0), none⟩,
  ⟨(some 13), .mv (.t 5), none⟩,
  ⟨(some 14), .ia 1 (.t 12) (.t 13), none⟩,
  ⟨(some 15), .fa 0 (.t 14), none⟩,
  ⟨(some 16), .load1 (.t 15), none⟩,
  ⟨(some 17), .mv (.t 1), none⟩,
  ⟨(some 18), .call F_laws_heldByteS [(.t 16), (.t 17)], none⟩,
  ⟨(some 1), .mv (.t 18), none⟩]) (.seq (.reg false [⟨(some 19), .mv (.t 1), none⟩,
  ⟨(some 20), .bin .lss (.t 19) (.c (.int .i64 0)), none⟩]) (.cond (.t 20) (.seq (.reg false [⟨(some 4), .mv (.c (.int .i64 (-1))), none⟩]) (.ret)) (.skip))))) (.reg false [⟨(some 10), .mv (.t 5), none⟩,
  ⟨(some 11), .bin .add (.t 10) (.c (.int .i64 1)), none⟩,
  ⟨(some 5), .mv (.t 11), none⟩]))
def L_laws_heldCellS_0 : ACode := B_laws_heldCellS_0
def C_laws_heldCellS : ACode := .seq (.reg false [⟨(some 4), .mv (.c (.int .i64 0)), none⟩]) (.seq (.seq (.reg false [⟨(some 5), .mv (.c (.int .i64 0)), none⟩]) (.block 0 (.loop K_laws_heldCellS_0 L_laws_heldCellS_0))) (.seq (.reg false [⟨(some 21), .mv (.t 1), none⟩,
  ⟨(some 4), .mv (.t 21), none⟩]) (.ret)))
def A_laws_heldCellS : AFun := ⟨C_laws_heldCellS, 22, [.tmp 4]⟩
def K_laws_heldTouchS_0 : List Bool := [true, true, false, false, false, true, false, false, false, false, false, false, false, false, false, false, false, false, false, false, false, false, false, false, false, false, false, false, false, false, false, false, false, false, false, false, false, false, false, false]
def B_laws_heldTouchS_0 : ACode := .seq (.seq (.reg false [⟨(some 6), .mv (.t 5), none⟩,
  ⟨(some 7), .mv (.t 0), none⟩,
  ⟨(some 8), .len (.t 7), none⟩,
  ⟨(some 9), .bin .lss (.t 6) (.t 8), none⟩]) (.cond (.t 9) (.skip) (.exit 0))) (.seq (.block 1 (.seq (.seq (.reg false [⟨(some 12), .mv (.t 0), none⟩,
  ⟨(some 13), .mv (.t 5), none⟩,
  ⟨(some 14), .ia 3 (.t 12) (.t 13), none⟩,
  ⟨(some 15), .fa 0 (.t 14), none⟩,
  ⟨(some 16), .load1 (.t 15), none⟩,
  ⟨(some 17), .mv (.t 1), none⟩,
  ⟨(some 18), .bin .neq (.t 16) (.t 17), none⟩]) (.cond (.t 18) (.seq (.reg false [⟨(some 4), .mv (.c (.int .i64 (-1))), none⟩]) (.ret)) (.skip))) (.seq (.reg false [⟨(some 19), .mv (.t 1), none⟩,
  ⟨(some 20), .bin .add (.t 19) (.c (.int .i64 1)), none⟩,
  ⟨(some 1), .mv (.t 20), none⟩]) (.seq (.seq (.reg false [⟨(some 21), .mv (.t 0), none⟩,
  ⟨(some 22), .mv (.t 5), none⟩,
  ⟨(some 23), .ia 3 (.t 21) (.t 22), none⟩,
  ⟨(some 24), .fa 1 (.t 23), none⟩,
  ⟨(some 25), .load1 (.t 24), none⟩,
  ⟨(some 26), .mv (.t 1), none⟩,
  ⟨(some 27), .bin .neq (.t 25) (.t 26), none⟩]) (.cond (.t 27) (.seq (.reg false [⟨(some 4), .mv (.c (.int .i64 (-1))), none⟩]) (.ret)) (.skip))) (.seq (.reg false [⟨(some 28), .mv (.t 1), none⟩,
  ⟨(some 29), .bin .add (.t 28) (.c (.int .i64 1)), none⟩,
  ⟨(some 1), .mv (.t 29), none⟩]) (.seq (.seq (.reg false [⟨(some 30), .mv (.t 0), none⟩,
  ⟨(some 31), .mv (.t 5), none⟩,
  ⟨(some 32), .ia 3 (.t 30) (.t 31), none⟩,
  ⟨(some 33), .fa 2 (.t 32), none⟩,
  ⟨(some 34), .load1 (.t 33), none⟩,
  ⟨(some 35), .mv (.t 1), none⟩,
  ⟨(some 36), .bin .neq (.t 34) (.t 35), none⟩]) (.cond (.t 36) (.seq (.reg false [⟨(some 4), .mv (.c (.int .i64 (-1))), none⟩]) (.ret)) (.skip))) (.reg false [⟨(some 37), .mv (.t 1), none⟩,
  ⟨(some 38), .bin .add (.t 37) (.c (.int .i64 1)), none⟩,
  ⟨(some 1), .mv (.t 38), none⟩]))))))) (.reg false [⟨(some 10), .mv (.t 5), none⟩,
  ⟨(some 11), .bin .add (.t 10) (.c (.int .i64 1)), none⟩,
  ⟨(some 5), .mv (.t 11), none⟩]))
def L_laws_heldTouchS_0 : ACode := B_laws_heldTouchS_0
def C_laws_heldTouchS : ACode := .seq (.reg false [⟨(some 4), .mv (.c (.int .i64 0)), none⟩]) (.seq (.seq (.reg false [⟨(some 5), .mv (.c (.int .i64 0)), none⟩]) (.block 0 (.loop K_laws_heldTouchS_0 L_laws_heldTouchS_0))) (.seq (.reg false [⟨(some 39), .mv (.t 1), none⟩,
  ⟨(some 4), .mv (.t 39), none⟩]) (.ret)))
def A_laws_heldTouchS : AFun := ⟨C_laws_heldTouchS, 40, [.tmp 4]⟩
def C_laws_heldMem : ACode := .seq (.reg false [⟨(some 2), .box (.t 0), none⟩,
  ⟨(some 4), .mv (.c (.int .i64 0)), none⟩]) (.seq (.reg false [⟨(some 5), .fa 1 (.t 2), none⟩,
  ⟨(some 6), .load1 (.t 5), none⟩,
  ⟨(some 7), .mv (.t 1), none⟩,
  ⟨(some 8), .call F_laws_heldCellS [(.t 6), (.t 7)], none⟩,
  ⟨(some 1), .mv (.t 8), none⟩]) (.seq (.seq (.reg false [⟨(some 9), .mv (.t 1), none⟩,
  ⟨(some 10), .bin .lss (.t 9) (.c (.int .i64 0)), none⟩]) (.cond (.t 10) (.seq (.reg false [⟨(some 4), .mv (.c (.int .i64 (-1))), none⟩]) (.ret)) (.skip))) (.seq (.reg false [⟨(some 11), .fa 2 (.t 2), none⟩,
  ⟨(some 12), .load1 (.t 11), none⟩,
  ⟨(some 13), .mv (.t 1), none⟩,
  ⟨(some 14), .call F_laws_heldTouchS [(.t 12), (.t 13)], none⟩,
  ⟨(some 1), .mv (.t 14), none⟩]) (.seq (.seq (.reg false [⟨(some 15), .mv (.t 1), none⟩,
  ⟨(some 16), .bin .lss (.t 15) (.c (.int .i64 0)), none⟩]) (.cond (.t 16) (.seq (.reg false [⟨(some 4), .mv (.c (.int .i64 (-1))), none⟩]) (.ret)) (.skip))) (.seq (.reg false [⟨(some 17), .mv (.t 1), none⟩,
  ⟨(some 4), .mv (.t 17), none⟩]) (.ret))))))
def A_laws_heldMem : AFun := ⟨C_laws_heldMem, 18, [.tmp 4]⟩
def C_laws_heldScan : ACode := .seq (.reg false [⟨(some 2), .box (.t 0), none⟩,
  ⟨(some 4), .mv (.c (.int .i64 0)), none⟩]) (.seq (.reg false [⟨(some 5), .fa 0 (.t 2), none⟩,
  ⟨(some 6), .loadn 3 (.t 5), none⟩,
  ⟨(some 7), .mv (.t 1), none⟩,
  ⟨(some 8), .call F_laws_heldMem [(.t 6), (.t 7)], none⟩,
  ⟨(some 1), .mv (.t 8), none⟩]) (.seq (.seq (.reg false [⟨(some 9), .mv (.t 1), none⟩,
  ⟨(some 10), .bin .lss (.t 9) (.c (.int .i64 0)), none⟩]) (.cond (.t 10) (.seq (.reg false [⟨(some 4), .mv (.c (.int .i64 (-1))), none⟩]) (.ret)) (.skip))) (.seq (.reg false [⟨(some 11), .mv (.t 1), none⟩,
  ⟨(some 4), .mv (.t 11), none⟩]) (.ret))))
def A_laws_heldScan : AFun := ⟨C_laws_heldScan, 12, [.tmp 4]⟩
def C_laws_FnExactScanNew : ACode := .seq (.reg false [⟨(some 2), .mv (.c (.bool false)), none⟩]) (.seq (.reg false [⟨(some 8), .mv (.t 0), none⟩,
  ⟨(some 9), .call F_spec_ScanNew [(.t 8)], none⟩,
  ⟨(some 3), .new [(.int .i64 0), (.slice none 0 0), (.slice none 0 0)], none⟩,
  ⟨none, .store 3 (.t 3) (.t 9), none⟩]) (.seq (.reg false [⟨(some 10), .mv (.t 0), none⟩,
  ⟨(some 11), .call F_impl_ScanNew [(.t 10)], none⟩,
  ⟨(some 4), .new [(.int .i64 0), (.slice none 0 0), (.slice none 0 0)], none⟩,
  ⟨none, .store 3 (.t 4) (.t 11), none⟩]) (.seq (.seq (.reg false [⟨(some 12), .loadn 3 (.t 4), none⟩,
  ⟨(some 13), .loadn 3 (.t 3), none⟩,
  ⟨(some 14), .call F_laws_eqScan [(.t 12), (.t 13)], none⟩,
  ⟨(some 15), .not (.t 14), none⟩]) (.cond (.t 15) (.seq (.reg false [⟨(some 2), .mv (.c (.bool false)), none⟩]) (.ret)) (.skip))) (.seq (.reg false [⟨(some 5), .mv (.c (.int .i64 1)), none⟩]) (.seq (.reg false [⟨(some 16), .loadn 3 (.t 4), none⟩,
  ⟨(some 17), .mv (.t 5), none⟩,
  ⟨(some 18), .call F_laws_markScan [(.t 16), (.t 17)], none⟩,
  ⟨(some 5), .mv (.t 18), none⟩]) (.seq (.reg false [⟨(some 6), .mv (.c (.int .i64 1)), none⟩]) (.seq (.reg false [⟨(some 19), .loadn 3 (.t 4), none⟩,
  ⟨(some 20), .mv (.t 6), none⟩,
  ⟨(some 21), .call F_laws_heldScan [(.t 19), (.t 20)], none⟩,
  ⟨(some 6), .mv (.t 21), none⟩]) (.seq (.seq (.reg false [⟨(some 22), .mv (.t 6), none⟩,
  ⟨(some 23), .bin .lss (.t 22) (.c (.int .i64 0)), none⟩]) (.cond (.t 23) (.seq (.reg false [⟨(some 2), .mv (.c (.bool false)), none⟩]) (.ret)) (.skip))) (.seq (.seq (.reg false [⟨(some 24), .mv (.t 6), none⟩,
  ⟨(some 25), .mv (.t 5), none⟩,
  ⟨(some 26), .bin .neq (.t 24) (.t 25), none⟩]) (.cond (.t 26) (.seq (.reg false [⟨(some 2), .mv (.c (.bool false)), none⟩]) (.ret)) (.skip))) (.seq (.reg false [⟨(some 27), .mv (.t 0), none⟩,
  ⟨(some 28), .call F_impl_ScanNew [(.t 27)], none⟩,
  ⟨(some 7), .new [(.int .i64 0), (.slice none 0 0), (.slice none 0 0)], none⟩,
  ⟨none, .store 3 (.t 7) (.t 28), none⟩]) (.seq (.seq (.reg false [⟨(some 29), .loadn 3 (.t 7), none⟩,
  ⟨(some 30), .loadn 3 (.t 3), none⟩,
  ⟨(some 31), .call F_laws_eqScan [(.t 29), (.t 30)], none⟩,
  ⟨(some 32), .not (.t 31), none⟩]) (.cond (.t 32) (.seq (.reg false [⟨(some 2), .mv (.c (.bool false)), none⟩]) (.ret)) (.skip))) (.seq (.reg false [⟨(some 6), .mv (.c (.int .i64 1)), none⟩]) (.seq (.reg false [⟨(some 33), .loadn 3 (.t 4), none⟩,
  ⟨(some 34), .mv (.t 6), none⟩,
  ⟨(some 35), .call F_laws_heldScan [(.t 33), (.t 34)], none⟩,
  ⟨(some 6), .mv (.t 35), none⟩]) (.seq (.seq (.reg false [⟨(some 36), .mv (.t 6), none⟩,
  ⟨(some 37), .bin .lss (.t 36) (.c (.int .i64 0)), none⟩]) (.cond (.t 37) (.seq (.reg false [⟨(some 2), .mv (.c (.bool false)), none⟩]) (.ret)) (.skip))) (.seq (.seq (.reg false [⟨(some 38), .mv (.t 6), none⟩,
  ⟨(some 39), .mv (.t 5), none⟩,
  ⟨(some 40), .bin .neq (.t 38) (.t 39), none⟩]) (.cond (.t 40) (.seq (.reg false [⟨(some 2), .mv (.c (.bool false)), none⟩]) (.ret)) (.skip))) (.seq (.reg false [⟨(some 2), .mv (.c (.bool true)), none⟩]) (.ret)))))))))))))))))
def A_laws_FnExactScanNew : AFun := ⟨C_laws_FnExactScanNew, 41, [.tmp 2]⟩
end GoAm
