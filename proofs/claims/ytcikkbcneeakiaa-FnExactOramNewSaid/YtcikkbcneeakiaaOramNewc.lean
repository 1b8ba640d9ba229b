/- The code that the law reaches, for the abstract machine: printed by a program. -/
import Derived.Test.YtcikkbcneeakiaaAmDef
set_option autoImplicit false
set_option linter.unusedVariables false
set_option linter.unusedSimpArgs false
namespace GoAm
open Go
def F_spec_l11Log : Go.FuncId := 202
def F_spec_l12Frame : Go.FuncId := 125
def F_spec_MemNew : Go.FuncId := 126
def F_spec_l02Pow : Go.FuncId := 203
def F_spec_TreeNodes : Go.FuncId := 127
def F_spec_NodeSize : Go.FuncId := 128
def F_spec_OramNew : Go.FuncId := 43
def F_impl_within : Go.FuncId := 129
def F_impl_isLog : Go.FuncId := 94
def F_impl_newMem : Go.FuncId := 204
def F_impl_treeNodes : Go.FuncId := 205
def F_impl_oramNew : Go.FuncId := 130
def F_impl_OramNew : Go.FuncId := 44
def F_laws_eqByteS : Go.FuncId := 39
def F_laws_eqBlock : Go.FuncId := 71
def F_laws_eqBlockS : Go.FuncId := 60
def F_laws_eqCell : Go.FuncId := 250
def F_laws_eqCellS : Go.FuncId := 206
def F_laws_eqTouch : Go.FuncId := 251
def F_laws_eqTouchS : Go.FuncId := 207
def F_laws_eqMem : Go.FuncId := 131
def F_laws_eqOram : Go.FuncId := 45
def F_laws_markByteS : Go.FuncId := 40
def F_laws_markBlockS : Go.FuncId := 61
def F_laws_markCellS : Go.FuncId := 208
def F_laws_markTouchS : Go.FuncId := 209
def F_laws_markMem : Go.FuncId := 132
def F_laws_markOram : Go.FuncId := 46
def F_laws_heldByteS : Go.FuncId := 156
def F_laws_heldBlockS : Go.FuncId := 66
def F_laws_heldCellS : Go.FuncId := 210
def F_laws_heldTouchS : Go.FuncId := 211
def F_laws_heldMem : Go.FuncId := 133
def F_laws_heldOram : Go.FuncId := 47
def F_laws_FnExactOramNew : Go.FuncId := 7
def C_spec_l11Log : ACode := .seq (.reg false [⟨(some 2), .mv (.c (.bool false)), none⟩]) (.seq (.reg false [⟨(some 3), .mv (.t 0), none⟩,
  ⟨(some 4), .bin .geq (.t 3) (.c (.int .i64 0)), none⟩,
  ⟨(some 5), .mv (.t 4), none⟩,
  ⟨(some 6), .mv (.t 0), (some (5, true))⟩,
  ⟨(some 7), .bin .leq (.t 6) (.c (.int .i64 6)), (some (5, true))⟩,
  ⟨(some 8), .pick (.t 5) (.t 7) (.c (.bool false)), none⟩,
  ⟨(some 2), .mv (.t 8), none⟩]) (.ret))
def A_spec_l11Log : AFun := ⟨C_spec_l11Log, 9, [.tmp 2]⟩
def C_spec_l12Frame : ACode := .seq (.reg false [⟨(some 4), .mv (.c (.bool false)), none⟩]) (.seq (.reg false [⟨(some 5), .mv (.t 0), none⟩,
  ⟨(some 6), .call F_spec_l11Log [(.t 5)], none⟩,
  ⟨(some 7), .mv (.t 6), none⟩,
  ⟨(some 8), .mv (.t 1), (some (7, true))⟩,
  ⟨(some 9), .bin .geq (.t 8) (.c (.int .i64 1)), (some (7, true))⟩,
  ⟨(some 10), .pick (.t 7) (.t 9) (.c (.bool false)), none⟩,
  ⟨(some 11), .mv (.t 10), none⟩,
  ⟨(some 12), .mv (.t 1), (some (11, true))⟩,
  ⟨(some 13), .bin .leq (.t 12) (.c (.int .i64 200)), (some (11, true))⟩,
  ⟨(some 14), .pick (.t 11) (.t 13) (.c (.bool false)), none⟩,
  ⟨(some 4), .mv (.t 14), none⟩]) (.ret))
def A_spec_l12Frame : AFun := ⟨C_spec_l12Frame, 15, [.tmp 4]⟩
def K_spec_MemNew_0 : List Bool := [true, true, false, false, true, true, true, false, false, false, false, false, false, false, false, false, false, false, false, false, false, false, false, false, false, false, false, false, false, false, false, false, false, false, false, false, false, false]
def B_spec_MemNew_0 : ACode := .seq (.seq (.reg false [⟨(some 24), .mv (.t 6), none⟩,
  ⟨(some 25), .mv (.t 0), none⟩,
  ⟨(some 26), .bin .lss (.t 24) (.t 25), none⟩]) (.cond (.t 26) (.skip) (.exit 0))) (.seq (.block 1 (.reg true [⟨(some 29), .fa 1 (.t 5), none⟩,
  ⟨(some 30), .load1 (.t 29), none⟩,
  ⟨(some 31), .mv (.t 1), none⟩,
  ⟨(some 32), .make 1 1 [(.int .u8 0)] (.t 31), none⟩,
  ⟨(some 33), .build [(.slice none 0 0)] [(0, 1, (.t 32))], none⟩,
  ⟨(some 34), .mkl 1 1 [(.slice none 0 0)] [(0, 1, (.t 33))], none⟩,
  ⟨(some 35), .app 1 24 (.t 30) (.t 34), none⟩,
  ⟨(some 36), .fa 1 (.t 5), none⟩,
  ⟨none, .store 1 (.t 36) (.t 35), none⟩])) (.reg false [⟨(some 27), .mv (.t 6), none⟩,
  ⟨(some 28), .bin .add (.t 27) (.c (.int .i64 1)), none⟩,
  ⟨(some 6), .mv (.t 28), none⟩]))
def L_spec_MemNew_0 : ACode := B_spec_MemNew_0
def C_spec_MemNew : ACode := .seq (.reg false [⟨(some 4), .new [(.int .i64 0), (.slice none 0 0), (.slice none 0 0)], none⟩]) (.seq (.seq (.reg false [⟨(some 7), .mv (.t 0), none⟩,
  ⟨(some 8), .bin .lss (.t 7) (.c (.int .i64 0)), none⟩,
  ⟨(some 9), .mv (.t 8), none⟩,
  ⟨(some 10), .mv (.t 0), (some (9, false))⟩,
  ⟨(some 11), .bin .gtr (.t 10) (.c (.int .i64 128)), (some (9, false))⟩,
  ⟨(some 12), .pick (.t 9) (.c (.bool true)) (.t 11), none⟩,
  ⟨(some 13), .mv (.t 12), none⟩,
  ⟨(some 14), .mv (.t 1), (some (13, false))⟩,
  ⟨(some 15), .bin .lss (.t 14) (.c (.int .i64 1)), (some (13, false))⟩,
  ⟨(some 16), .pick (.t 13) (.c (.bool true)) (.t 15), none⟩,
  ⟨(some 17), .mv (.t 16), none⟩,
  ⟨(some 18), .mv (.t 1), (some (17, false))⟩,
  ⟨(some 19), .bin .gtr (.t 18) (.c (.int .i64 1000)), (some (17, false))⟩,
  ⟨(some 20), .pick (.t 17) (.c (.bool true)) (.t 19), none⟩]) (.cond (.t 20) (.seq (.reg false [⟨(some 21), .build [(.int .i64 0), (.slice none 0 0), (.slice none 0 0)] [], none⟩,
  ⟨none, .store 3 (.t 4) (.t 21), none⟩]) (.ret)) (.skip))) (.seq (.reg false [⟨(some 22), .mv (.t 1), none⟩,
  ⟨(some 23), .build [(.int .i64 0), (.slice none 0 0), (.slice none 0 0)] [(0, 1, (.t 22))], none⟩,
  ⟨(some 5), .new [(.int .i64 0), (.slice none 0 0), (.slice none 0 0)], none⟩,
  ⟨none, .store 3 (.t 5) (.t 23), none⟩]) (.seq (.seq (.reg false [⟨(some 6), .mv (.c (.int .i64 0)), none⟩]) (.block 0 (.loop K_spec_MemNew_0 L_spec_MemNew_0))) (.seq (.reg false [⟨(some 37), .loadn 3 (.t 5), none⟩,
  ⟨none, .store 3 (.t 4) (.t 37), none⟩]) (.ret)))))
def A_spec_MemNew : AFun := ⟨C_spec_MemNew, 38, [.celln 4 3]⟩
def K_spec_l02Pow_0 : List Bool := [true, false, false, true, false, false, false, false, false, false, false]
def B_spec_l02Pow_0 : ACode := .seq (.seq (.reg false [⟨(some 4), .mv (.t 0), none⟩,
  ⟨(some 5), .bin .gtr (.t 4) (.c (.int .i64 0)), none⟩]) (.cond (.t 5) (.skip) (.exit 0))) (.seq (.block 1 (.reg false [⟨(some 8), .mv (.t 3), none⟩,
  ⟨(some 9), .bin .mul (.c (.int .i64 2)) (.t 8), none⟩,
  ⟨(some 3), .mv (.t 9), none⟩])) (.reg false [⟨(some 6), .mv (.t 0), none⟩,
  ⟨(some 7), .bin .sub (.t 6) (.c (.int .i64 1)), none⟩,
  ⟨(some 0), .mv (.t 7), none⟩]))
def L_spec_l02Pow_0 : ACode := B_spec_l02Pow_0
def C_spec_l02Pow : ACode := .seq (.reg false [⟨(some 2), .mv (.c (.int .i64 0)), none⟩]) (.seq (.reg false [⟨(some 3), .mv (.c (.int .i64 1)), none⟩]) (.seq (.block 0 (.loop K_spec_l02Pow_0 L_spec_l02Pow_0)) (.seq (.reg false [⟨(some 10), .mv (.t 3), none⟩,
  ⟨(some 2), .mv (.t 10), none⟩]) (.ret))))
def A_spec_l02Pow : AFun := ⟨C_spec_l02Pow, 11, [.tmp 2]⟩
def C_spec_TreeNodes : ACode := .seq (.reg false [⟨(some 2), .mv (.c (.int .i64 0)), none⟩]) (.seq (.seq (.reg false [⟨(some 3), .mv (.t 0), none⟩,
  ⟨(some 4), .call F_spec_l11Log [(.t 3)], none⟩,
  ⟨(some 5), .not (.t 4), none⟩]) (.cond (.t 5) (.seq (.reg false [⟨(some 2), .mv (.c (.int .i64 (-1))), none⟩]) (.ret)) (.skip))) (.seq (.reg false [⟨(some 6), .mv (.t 0), none⟩,
  ⟨(some 7), .call F_spec_l02Pow [(.t 6)], none⟩,
  ⟨(some 8), .bin .mul (.c (.int .i64 2)) (.t 7), none⟩,
  ⟨(some 9), .bin .sub (.t 8) (.c (.int .i64 1)), none⟩,
  ⟨(some 2), .mv (.t 9), none⟩]) (.ret)))
def A_spec_TreeNodes : AFun := ⟨C_spec_TreeNodes, 10, [.tmp 2]⟩
def C_spec_NodeSize : ACode := .seq (.reg false [⟨(some 2), .mv (.c (.int .i64 0)), none⟩]) (.seq (.seq (.reg false [⟨(some 3), .mv (.t 0), none⟩,
  ⟨(some 4), .bin .lss (.t 3) (.c (.int .i64 1)), none⟩,
  ⟨(some 5), .mv (.t 4), none⟩,
  ⟨(some 6), .mv (.t 0), (some (5, false))⟩,
  ⟨(some 7), .bin .gtr (.t 6) (.c (.int .i64 200)), (some (5, false))⟩,
  ⟨(some 8), .pick (.t 5) (.c (.bool true)) (.t 7), none⟩]) (.cond (.t 8) (.seq (.reg false [⟨(some 2), .mv (.c (.int .i64 (-1))), none⟩]) (.ret)) (.skip))) (.seq (.reg false [⟨(some 9), .mv (.t 0), none⟩,
  ⟨(some 10), .bin .add (.t 9) (.c (.int .i64 3)), none⟩,
  ⟨(some 11), .bin .mul (.c (.int .i64 4)) (.t 10), none⟩,
  ⟨(some 2), .mv (.t 11), none⟩]) (.ret)))
def A_spec_NodeSize : AFun := ⟨C_spec_NodeSize, 12, [.tmp 2]⟩
def C_spec_OramNew : ACode := .seq (.reg false [⟨(some 6), .new [(.int .i64 0), (.int .i64 0), (.int .i64 0), (.int .i64 0), (.slice none 0 0), (.slice none 0 0), (.slice none 0 0)], none⟩]) (.seq (.seq (.reg false [⟨(some 7), .mv (.t 0), none⟩,
  ⟨(some 8), .mv (.t 1), none⟩,
  ⟨(some 9), .call F_spec_l12Frame [(.t 7), (.t 8)], none⟩,
  ⟨(some 10), .not (.t 9), none⟩,
  ⟨(some 11), .mv (.t 10), none⟩,
  ⟨(some 12), .mv (.t 2), (some (11, false))⟩,
  ⟨(some 13), .bin .lss (.t 12) (.c (.int .i64 0)), (some (11, false))⟩,
  ⟨(some 14), .pick (.t 11) (.c (.bool true)) (.t 13), none⟩,
  ⟨(some 15), .mv (.t 14), none⟩,
  ⟨(some 16), .mv (.t 2), (some (15, false))⟩,
  ⟨(some 17), .bin .gtr (.t 16) (.c (.int .i64 64)), (some (15, false))⟩,
  ⟨(some 18), .pick (.t 15) (.c (.bool true)) (.t 17), none⟩]) (.cond (.t 18) (.seq (.reg false [⟨(some 19), .build [(.int .i64 0), (.int .i64 0), (.int .i64 0), (.int .i64 0), (.slice none 0 0), (.slice none 0 0), (.slice none 0 0)] [], none⟩,
  ⟨none, .store 7 (.t 6) (.t 19), none⟩]) (.ret)) (.skip))) (.seq (.reg false [⟨(some 20), .mv (.t 0), none⟩,
  ⟨(some 21), .mv (.t 1), none⟩,
  ⟨(some 22), .mv (.t 2), none⟩,
  ⟨(some 23), .mv (.t 0), none⟩,
  ⟨(some 24), .call F_spec_TreeNodes [(.t 23)], none⟩,
  ⟨(some 25), .mv (.t 1), none⟩,
  ⟨(some 26), .call F_spec_NodeSize [(.t 25)], none⟩,
  ⟨(some 27), .call F_spec_MemNew [(.t 24), (.t 26)], none⟩,
  ⟨(some 28), .build [(.int .i64 0), (.int .i64 0), (.int .i64 0), (.int .i64 0), (.slice none 0 0), (.slice none 0 0), (.slice none 0 0)] [(0, 1, (.t 20)), (1, 1, (.t 21)), (2, 1, (.t 22)), (3, 3, (.t 27))], none⟩,
  ⟨none, .store 7 (.t 6) (.t 28), none⟩]) (.ret)))
def A_spec_OramNew : AFun := ⟨C_spec_OramNew, 29, [.celln 6 7]⟩
def C_impl_within : ACode := .seq (.reg false [⟨(some 6), .mv (.c (.bool false)), none⟩]) (.seq (.reg false [⟨(some 7), .mv (.t 0), none⟩,
  ⟨(some 8), .mv (.t 1), none⟩,
  ⟨(some 9), .bin .geq (.t 7) (.t 8), none⟩,
  ⟨(some 10), .mv (.t 9), none⟩,
  ⟨(some 11), .mv (.t 0), (some (10, true))⟩,
  ⟨(some 12), .mv (.t 2), (some (10, true))⟩,
  ⟨(some 13), .bin .leq (.t 11) (.t 12), (some (10, true))⟩,
  ⟨(some 14), .pick (.t 10) (.t 13) (.c (.bool false)), none⟩,
  ⟨(some 6), .mv (.t 14), none⟩]) (.ret))
def A_impl_within : AFun := ⟨C_impl_within, 15, [.tmp 6]⟩
def C_impl_isLog : ACode := .seq (.reg false [⟨(some 2), .mv (.c (.bool false)), none⟩]) (.seq (.reg false [⟨(some 3), .mv (.t 0), none⟩,
  ⟨(some 4), .call F_impl_within [(.t 3), (.c (.int .i64 0)), (.c (.int .i64 6))], none⟩,
  ⟨(some 2), .mv (.t 4), none⟩]) (.ret))
def A_impl_isLog : AFun := ⟨C_impl_isLog, 5, [.tmp 2]⟩
def K_impl_newMem_0 : List Bool := [false, true, false, false, true, true, false, false, true, true, false, false, false, false, false, false, false, false, false, false, false]
def B_impl_newMem_0 : ACode := .seq (.reg false [⟨(some 10), .bin .lss (.t 9) (.t 8), none⟩]) (.seq (.cond (.t 10) (.skip) (.exit 0)) (.seq (.block 1 (.reg true [⟨(some 11), .fa 1 (.t 5), none⟩,
  ⟨(some 12), .load1 (.t 11), none⟩,
  ⟨(some 13), .mv (.t 1), none⟩,
  ⟨(some 14), .make 1 1 [(.int .u8 0)] (.t 13), none⟩,
  ⟨(some 15), .build [(.slice none 0 0)] [(0, 1, (.t 14))], none⟩,
  ⟨(some 16), .mkl 1 1 [(.slice none 0 0)] [(0, 1, (.t 15))], none⟩,
  ⟨(some 17), .app 1 24 (.t 12) (.t 16), none⟩,
  ⟨(some 18), .fa 1 (.t 5), none⟩,
  ⟨none, .store 1 (.t 18) (.t 17), none⟩])) (.reg false [⟨(some 19), .bin .add (.t 9) (.c (.int .i64 1)), none⟩,
  ⟨(some 9), .mv (.t 19), none⟩])))
def L_impl_newMem_0 : ACode := B_impl_newMem_0
def C_impl_newMem : ACode := .seq (.reg false [⟨(some 4), .new [(.int .i64 0), (.slice none 0 0), (.slice none 0 0)], none⟩]) (.seq (.reg false [⟨(some 6), .mv (.t 1), none⟩,
  ⟨(some 7), .build [(.int .i64 0), (.slice none 0 0), (.slice none 0 0)] [(0, 1, (.t 6))], none⟩,
  ⟨(some 5), .new [(.int .i64 0), (.slice none 0 0), (.slice none 0 0)], none⟩,
  ⟨none, .store 3 (.t 5) (.t 7), none⟩]) (.seq (.seq (.reg false [⟨(some 8), .mv (.t 0), none⟩,
  ⟨(some 9), .mv (.c (.int .i64 0)), none⟩]) (.block 0 (.loop K_impl_newMem_0 L_impl_newMem_0))) (.seq (.reg false [⟨(some 20), .loadn 3 (.t 5), none⟩,
  ⟨none, .store 3 (.t 4) (.t 20), none⟩]) (.ret))))
def A_impl_newMem : AFun := ⟨C_impl_newMem, 21, [.celln 4 3]⟩
def C_impl_treeNodes : ACode := .seq (.reg false [⟨(some 2), .mv (.c (.int .i64 0)), none⟩]) (.seq (.reg false [⟨(some 3), .mv (.t 0), none⟩,
  ⟨(some 4), .bin .shl (.c (.int .i64 2)) (.t 3), none⟩,
  ⟨(some 5), .bin .sub (.t 4) (.c (.int .i64 1)), none⟩,
  ⟨(some 2), .mv (.t 5), none⟩]) (.ret))
def A_impl_treeNodes : AFun := ⟨C_impl_treeNodes, 6, [.tmp 2]⟩
def C_impl_oramNew : ACode := .seq (.reg false [⟨(some 6), .new [(.int .i64 0), (.int .i64 0), (.int .i64 0), (.int .i64 0), (.slice none 0 0), (.slice none 0 0), (.slice none 0 0)], none⟩]) (.seq (.reg false [⟨(some 7), .mv (.t 0), none⟩,
  ⟨(some 8), .mv (.t 1), none⟩,
  ⟨(some 9), .mv (.t 2), none⟩,
  ⟨(some 10), .mv (.t 0), none⟩,
  ⟨(some 11), .call F_impl_treeNodes [(.t 10)], none⟩,
  ⟨(some 12), .mv (.t 1), none⟩,
  ⟨(some 13), .bin .add (.t 12) (.c (.int .i64 3)), none⟩,
  ⟨(some 14), .bin .mul (.c (.int .i64 4)) (.t 13), none⟩,
  ⟨(some 15), .call F_impl_newMem [(.t 11), (.t 14)], none⟩,
  ⟨(some 16), .build [(.int .i64 0), (.int .i64 0), (.int .i64 0), (.int .i64 0), (.slice none 0 0), (.slice none 0 0), (.slice none 0 0)] [(0, 1, (.t 7)), (1, 1, (.t 8)), (2, 1, (.t 9)), (3, 3, (.t 15))], none⟩,
  ⟨none, .store 7 (.t 6) (.t 16), none⟩]) (.ret))
def A_impl_oramNew : AFun := ⟨C_impl_oramNew, 17, [.celln 6 7]⟩
def C_impl_OramNew : ACode := .seq (.reg false [⟨(some 6), .new [(.int .i64 0), (.int .i64 0), (.int .i64 0), (.int .i64 0), (.slice none 0 0), (.slice none 0 0), (.slice none 0 0)], none⟩]) (.seq (.seq (.reg false [⟨(some 7), .mv (.t 0), none⟩,
  ⟨(some 8), .call F_impl_isLog [(.t 7)], none⟩,
  ⟨(some 9), .not (.t 8), none⟩,
  ⟨(some 10), .mv (.t 9), none⟩,
  ⟨(some 11), .mv (.t 1), (some (10, false))⟩,
  ⟨(some 12), .call F_impl_within [(.t 11), (.c (.int .i64 1)), (.c (.int .i64 200))], (some (10, false))⟩,
  ⟨(some 13), .not (.t 12), (some (10, false))⟩,
  ⟨(some 14), .pick (.t 10) (.c (.bool true)) (.t 13), none⟩,
  ⟨(some 15), .mv (.t 14), none⟩,
  ⟨(some 16), .mv (.t 2), (some (15, false))⟩,
  ⟨(some 17), .call F_impl_within [(.t 16), (.c (.int .i64 0)), (.c (.int .i64 64))], (some (15, false))⟩,
  ⟨(some 18), .not (.t 17), (some (15, false))⟩,
  ⟨(some 19), .pick (.t 15) (.c (.bool true)) (.t 18), none⟩]) (.cond (.t 19) (.seq (.reg false [⟨(some 20), .build [(.int .i64 0), (.int .i64 0), (.int .i64 0), (.int .i64 0), (.slice none 0 0), (.slice none 0 0), (.slice none 0 0)] [], none⟩,
  ⟨none, .store 7 (.t 6) (.t 20), none⟩]) (.ret)) (.skip))) (.seq (.reg false [⟨(some 21), .mv (.t 0), none⟩,
  ⟨(some 22), .mv (.t 1), none⟩,
  ⟨(some 23), .mv (.t 2), none⟩,
  ⟨(some 24), .call F_impl_oramNew [(.t 21), (.t 22), (.t 23)], none⟩,
  ⟨none, .store 7 (.t 6) (.t 24), none⟩]) (.ret)))
def A_impl_OramNew : AFun := ⟨C_impl_OramNew, 25, [.celln 6 7]⟩
def K_laws_eqByteS_0 : List Bool := [true, true, false, false, false, true, false, false, false, false, false, false, false, false, false, false, false, false, false, false, false, false, false, false, false, false]
def B_laws_eqByteS_0 : ACode := .seq (.seq (.reg false [⟨(some 11), .mv (.t 5), none⟩,
  ⟨(some 12), .mv (.t 0), none⟩,
  ⟨(some 13), .len (.t 12), none⟩,
  ⟨(some 14), .bin .lss (.t 11) (.t 13), none⟩]) (.cond (.t 14) (.skip) (.exit 0))) (.seq (.block 1 (.seq (.reg true [⟨(some 17), .mv (.t 0), none⟩,
  ⟨(some 18), .mv (.t 5), none⟩,
  ⟨(some 19), .ia 1 (.t 17) (.t 18), none⟩,
  ⟨(some 20), .load1 (.t 19), none⟩,
  ⟨(some 21), .mv (.t 1), none⟩,
  ⟨(some 22), .mv (.t 5), none⟩,
  ⟨(some 23), .ia 1 (.t 21) (.t 22), none⟩,
  ⟨(some 24), .load1 (.t 23), none⟩,
  ⟨(some 25), .bin .neq (.t 20) (.t 24), none⟩]) (.cond (.t 25) (.seq (.reg false [⟨(some 4), .mv (.c (.bool false)), none⟩]) (.ret)) (.skip)))) (.reg false [⟨(some 15), .mv (.t 5), none⟩,
  ⟨(some 16), .bin .add (.t 15) (.c (.int .i64 1)), none⟩,
  ⟨(some 5), .mv (.t 16), none⟩]))
def L_laws_eqByteS_0 : ACode := B_laws_eqByteS_0
def C_laws_eqByteS : ACode := .seq (.reg false [⟨(some 4), .mv (.c (.bool false)), none⟩]) (.seq (.seq (.reg false [⟨(some 6), .mv (.t 0), none⟩,
  ⟨(some 7), .len (.t 6), none⟩,
  ⟨(some 8), .mv (.t 1), none⟩,
  ⟨(some 9), .len (.t 8), none⟩,
  ⟨(some 10), .bin .neq (.t 7) (.t 9), none⟩]) (.cond (.t 10) (.seq (.reg false [⟨(some 4), .mv (.c (.bool false)), none⟩]) (.ret)) (.skip))) (.seq (.seq (.reg false [⟨(some 5), .mv (.c (.int .i64 0)), none⟩]) (.block 0 (.loop K_laws_eqByteS_0 L_laws_eqByteS_0))) (.seq (.reg false [⟨(some 4), .mv (.c (.bool true)), none⟩]) (.ret))))
def A_laws_eqByteS : AFun := ⟨C_laws_eqByteS, 26, [.tmp 4]⟩
def C_laws_eqBlock : ACode := .seq (.reg false [⟨(some 2), .box (.t 0), none⟩,
  ⟨(some 3), .box (.t 1), none⟩,
  ⟨(some 4), .mv (.c (.bool false)), none⟩]) (.seq (.seq (.reg false [⟨(some 5), .fa 0 (.t 2), none⟩,
  ⟨(some 6), .load1 (.t 5), none⟩,
  ⟨(some 7), .fa 0 (.t 3), none⟩,
  ⟨(some 8), .load1 (.t 7), none⟩,
  ⟨(some 9), .bin .neq (.t 6) (.t 8), none⟩]) (.cond (.t 9) (.seq (.reg false [⟨(some 4), .mv (.c (.bool false)), none⟩]) (.ret)) (.skip))) (.seq (.seq (.reg false [⟨(some 10), .fa 1 (.t 2), none⟩,
  ⟨(some 11), .load1 (.t 10), none⟩,
  ⟨(some 12), .fa 1 (.t 3), none⟩,
  ⟨(some 13), .load1 (.t 12), none⟩,
  ⟨(some 14), .bin .neq (.t 11) (.t 13), none⟩]) (.cond (.t 14) (.seq (.reg false [⟨(some 4), .mv (.c (.bool false)), none⟩]) (.ret)) (.skip))) (.seq (.seq (.reg false [⟨(some 15), .fa 2 (.t 2), none⟩,
  ⟨(some 16), .load1 (.t 15), none⟩,
  ⟨(some 17), .fa 2 (.t 3), none⟩,
  ⟨(some 18), .load1 (.t 17), none⟩,
  ⟨(some 19), .call F_laws_eqByteS [(.t 16), (.t 18)], none⟩,
  ⟨(some 20), .not (.t 19), none⟩]) (.cond (.t 20) (.seq (.reg false [⟨(some 4), .mv (.c (.bool false)), none⟩]) (.ret)) (.skip))) (.seq (.reg false [⟨(some 4), .mv (.c (.bool true)), none⟩]) (.ret)))))
def A_laws_eqBlock : AFun := ⟨C_laws_eqBlock, 21, [.tmp 4]⟩
def K_laws_eqBlockS_0 : List Bool := [true, true, false, false, false, true, false, false, false, false, false, false, false, false, false, false, false, false, false, false, false, false, false, false, false, false, false]
def B_laws_eqBlockS_0 : ACode := .seq (.seq (.reg false [⟨(some 11), .mv (.t 5), none⟩,
  ⟨(some 12), .mv (.t 0), none⟩,
  ⟨(some 13), .len (.t 12), none⟩,
  ⟨(some 14), .bin .lss (.t 11) (.t 13), none⟩]) (.cond (.t 14) (.skip) (.exit 0))) (.seq (.block 1 (.seq (.reg true [⟨(some 17), .mv (.t 0), none⟩,
  ⟨(some 18), .mv (.t 5), none⟩,
  ⟨(some 19), .ia 3 (.t 17) (.t 18), none⟩,
  ⟨(some 20), .loadn 3 (.t 19), none⟩,
  ⟨(some 21), .mv (.t 1), none⟩,
  ⟨(some 22), .mv (.t 5), none⟩,
  ⟨(some 23), .ia 3 (.t 21) (.t 22), none⟩,
  ⟨(some 24), .loadn 3 (.t 23), none⟩,
  ⟨(some 25), .call F_laws_eqBlock [(.t 20), (.t 24)], none⟩,
  ⟨(some 26), .not (.t 25), none⟩]) (.cond (.t 26) (.seq (.reg false [⟨(some 4), .mv (.c (.bool false)), none⟩]) (.ret)) (.skip)))) (.reg false [⟨(some 15), .mv (.t 5), none⟩,
  ⟨(some 16), .bin .add (.t 15) (.c (.int .i64 1)), none⟩,
  ⟨(some 5), .mv (.t 16), none⟩]))
def L_laws_eqBlockS_0 : ACode := B_laws_eqBlockS_0
def C_laws_eqBlockS : ACode := .seq (.reg false [⟨(some 4), .mv (.c (.bool false)), none⟩]) (.seq (.seq (.reg false [⟨(some 6), .mv (.t 0), none⟩,
  ⟨(some 7), .len (.t 6), none⟩,
  ⟨(some 8), .mv (.t 1), none⟩,
  ⟨(some 9), .len (.t 8), none⟩,
  ⟨(some 10), .bin .neq (.t 7) (.t 9), none⟩]) (.cond (.t 10) (.seq (.reg false [⟨(some 4), .mv (.c (.bool false)), none⟩]) (.ret)) (.skip))) (.seq (.seq (.reg false [⟨(some 5), .mv (.c (.int .i64 0)), none⟩]) (.block 0 (.loop K_laws_eqBlockS_0 L_laws_eqBlockS_0))) (.seq (.reg false [⟨(some 4), .mv (.c (.bool true)), none⟩]) (.ret))))
def A_laws_eqBlockS : AFun := ⟨C_laws_eqBlockS, 27, [.tmp 4]⟩
def C_laws_eqCell : ACode := .seq (.reg false [⟨(some 2), .box (.t 0), none⟩,
  ⟨(some 3), .box (.t 1), none⟩,
  ⟨(some 4), .mv (.c (.bool false)), none⟩]) (.seq (.seq (.reg false [⟨(some 5), .fa 0 (.t 2), none⟩,
  ⟨(some 6), .load1 (.t 5), none⟩,
  ⟨(some 7), .fa 0 (.t 3), none⟩,
  ⟨(some 8), .load1 (.t 7), none⟩,
  ⟨(some 9), .call F_laws_eqByteS [(.t 6), (.t 8)], none⟩,
  ⟨(some 10), .not (.t 9), none⟩]) (.cond (.t 10) (.seq (.reg false [⟨(some 4), .mv (.c (.bool false)), none⟩]) (.ret)) (.skip))) (.seq (.reg false [⟨(some 4), .mv (.c (.bool true)), none⟩]) (.ret)))
def A_laws_eqCell : AFun := ⟨C_laws_eqCell, 11, [.tmp 4]⟩
def K_laws_eqCellS_0 : List Bool := [true, true, false, false, false, true, false, false, false, false, false, false, false, false, false, false, false, false, false, false, false, false, false, false, false, false, false]
def B_laws_eqCellS_0 : ACode := .seq (.seq (.reg false [⟨(some 11), .mv (.t 5), none⟩,
  ⟨(some 12), .mv (.t 0), none⟩,
  ⟨(some 13), .len (.t 12), none⟩,
  ⟨(some 14), .bin .lss (.t 11) (.t 13), none⟩]) (.cond (.t 14) (.skip) (.exit 0))) (.seq (.block 1 (.seq (.reg true [⟨(some 17), .mv (.t 0), none⟩,
  ⟨(some 18), .mv (.t 5), none⟩,
  ⟨(some 19), .ia 1 (.t 17) (.t 18), none⟩,
  ⟨(some 20), .loadn 1 (.t 19), none⟩,
  ⟨(some 21), .mv (.t 1), none⟩,
  ⟨(some 22), .mv (.t 5), none⟩,
  ⟨(some 23), .ia 1 (.t 21) (.t 22), none⟩,
  ⟨(some 24), .loadn 1 (.t 23), none⟩,
  ⟨(some 25), .call F_laws_eqCell [(.t 20), (.t 24)], none⟩,
  ⟨(some 26), .not (.t 25), none⟩]) (.cond (.t 26) (.seq (.reg false [⟨(some 4), .mv (.c (.bool false)), none⟩]) (.ret)) (.skip)))) (.reg false [⟨(some 15), .mv (.t 5), none⟩,
  ⟨(some 16), .bin .add (.t 15) (.c (.int .i64 1)), none⟩,
  ⟨(some 5), .mv (.t 16), none⟩]))
def L_laws_eqCellS_0 : ACode := B_laws_eqCellS_0
def C_laws_eqCellS : ACode := .seq (.reg false [⟨(some 4), .mv (.c (.bool false)), none⟩]) (.seq (.seq (.reg false [⟨(some 6), .mv (.t 0), none⟩,
  ⟨(some 7), .len (.t 6), none⟩,
  ⟨(some 8), .mv (.t 1), none⟩,
  ⟨(some 9), .len (.t 8), none⟩,
  ⟨(some 10), .bin .neq (.t 7) (.t 9), none⟩]) (.cond (.t 10) (.seq (.reg false [⟨(some 4), .mv (.c (.bool false)), none⟩]) (.ret)) (.skip))) (.seq (.seq (.reg false [⟨(some 5), .mv (.c (.int .i64 0)), none⟩]) (.block 0 (.loop K_laws_eqCellS_0 L_laws_eqCellS_0))) (.seq (.reg false [⟨(some 4), .mv (.c (.bool true)), none⟩]) (.ret))))
def A_laws_eqCellS : AFun := ⟨C_laws_eqCellS, 27, [.tmp 4]⟩
def C_laws_eqTouch : ACode := .seq (.reg false [⟨(some 2), .box (.t 0), none⟩,
  ⟨(some 3), .box (.t 1), none⟩,
  ⟨(some 4), .mv (.c (.bool false)), none⟩]) (.seq (.seq (.reg false [⟨(some 5), .fa 0 (.t 2), none⟩,
  ⟨(some 6), .load1 (.t 5), none⟩,
  ⟨(some 7), .fa 0 (.t 3), none⟩,
  ⟨(some 8), .load1 (.t 7), none⟩,
  ⟨(some 9), .bin .neq (.t 6) (.t 8), none⟩]) (.cond (.t 9) (.seq (.reg false [⟨(some 4), .mv (.c (.bool false)), none⟩]) (.ret)) (.skip))) (.seq (.seq (.reg false [⟨(some 10), .fa 1 (.t 2), none⟩,
  ⟨(some 11), .load1 (.t 10), none⟩,
  ⟨(some 12), .fa 1 (.t 3), none⟩,
  ⟨(some 13), .load1 (.t 12), none⟩,
  ⟨(some 14), .bin .neq (.t 11) (.t 13), none⟩]) (.cond (.t 14) (.seq (.reg false [⟨(some 4), .mv (.c (.bool false)), none⟩]) (.ret)) (.skip))) (.seq (.seq (.reg false [⟨(some 15), .fa 2 (.t 2), none⟩,
  ⟨(some 16), .load1 (.t 15), none⟩,
  ⟨(some 17), .fa 2 (.t 3), none⟩,
  ⟨(some 18), .load1 (.t 17), none⟩,
  ⟨(some 19), .bin .neq (.t 16) (.t 18), none⟩]) (.cond (.t 19) (.seq (.reg false [⟨(some 4), .mv (.c (.bool false)), none⟩]) (.ret)) (.skip))) (.seq (.reg false [⟨(some 4), .mv (.c (.bool true)), none⟩]) (.ret)))))
def A_laws_eqTouch : AFun := ⟨C_laws_eqTouch, 20, [.tmp 4]⟩
def K_laws_eqTouchS_0 : List Bool := [true, true, false, false, false, true, false, false, false, false, false, false, false, false, false, false, false, false, false, false, false, false, false, false, false, false, false]
def B_laws_eqTouchS_0 : ACode := .seq (.seq (.reg false [⟨(some 11), .mv (.t 5), none⟩,
  ⟨(some 12), .mv (.t 0), none⟩,
  ⟨(some 13), .len (.t 12), none⟩,
  ⟨(some 14), .bin .lss (.t 11) (.t 13), none⟩]) (.cond (.t 14) (.skip) (.exit 0))) (.seq (.block 1 (.seq (.reg true [⟨(some 17), .mv (.t 0), none⟩,
  ⟨(some 18), .mv (.t 5), none⟩,
  ⟨(some 19), .ia 3 (.t 17) (.t 18), none⟩,
  ⟨(some 20), .loadn 3 (.t 19), none⟩,
  ⟨(some 21), .mv (.t 1), none⟩,
  ⟨(some 22), .mv (.t 5), none⟩,
  ⟨(some 23), .ia 3 (.t 21) (.t 22), none⟩,
  ⟨(some 24), .loadn 3 (.t 23), none⟩,
  ⟨(some 25), .call F_laws_eqTouch [(.t 20), (.t 24)], none⟩,
  ⟨(some 26), .not (.t 25), none⟩]) (.cond (.t 26) (.seq (.reg false [⟨(some 4), .mv (.c (.bool false)), none⟩]) (.ret)) (.skip)))) (.reg false [⟨(some 15), .mv (.t 5), none⟩,
  ⟨(some 16), .bin .add (.t 15) (.c (.int .i64 1)), none⟩,
  ⟨(some 5), .mv (.t 16), none⟩]))
def L_laws_eqTouchS_0 : ACode := B_laws_eqTouchS_0
def C_laws_eqTouchS : ACode := .seq (.reg false [⟨(some 4), .mv (.c (.bool false)), none⟩]) (.seq (.seq (.reg false [⟨(some 6), .mv (.t 0), none⟩,
  ⟨(some 7), .len (.t 6), none⟩,
  ⟨(some 8), .mv (.t 1), none⟩,
  ⟨(some 9), .len (.t 8), none⟩,
  ⟨(some 10), .bin .neq (.t 7) (.t 9), none⟩]) (.cond (.t 10) (.seq (.reg false [⟨(some 4), .mv (.c (.bool false)), none⟩]) (.ret)) (.skip))) (.seq (.seq (.reg false [⟨(some 5), .mv (.c (.int .i64 0)), none⟩]) (.block 0 (.loop K_laws_eqTouchS_0 L_laws_eqTouchS_0))) (.seq (.reg false [⟨(some 4), .mv (.c (.bool true)), none⟩]) (.ret))))
def A_laws_eqTouchS : AFun := ⟨C_laws_eqTouchS, 27, [.tmp 4]⟩
def C_laws_eqMem : ACode := .seq (.reg false [⟨(some 2), .box (.t 0), none⟩,
  ⟨(some 3), .box (.t 1), none⟩,
  ⟨(some 4), .mv (.c (.bool false)), none⟩]) (.seq (.seq (.reg false [⟨(some 5), .fa 0 (.t 2), none⟩,
  ⟨(some 6), .load1 (.t 5), none⟩,
  ⟨(some 7), .fa 0 (.t 3), none⟩,
  ⟨(some 8), .load1 (.t 7), none⟩,
  ⟨(some 9), .bin .neq (.t 6) (.t 8), none⟩]) (.cond (.t 9) (.seq (.reg false [⟨(some 4), .mv (.c (.bool false)), none⟩]) (.ret)) (.skip))) (.seq (.seq (.reg false [⟨(some 10), .fa 1 (.t 2), none⟩,
  ⟨(some 11), .load1 (.t 10), none⟩,
  ⟨(some 12), .fa 1 (.t 3), none⟩,
  ⟨(some 13), .load1 (.t 12), none⟩,
  ⟨(some 14), .call F_laws_eqCellS [(.t 11), (.t 13)], none⟩,
  ⟨(some 15), .not (.t 14), none⟩]) (.cond (.t 15) (.seq (.reg false [⟨(some 4), .mv (.c (.bool false)), none⟩]) (.ret)) (.skip))) (.seq (.seq (.reg false [⟨(some 16), .fa 2 (.t 2), none⟩,
  ⟨(some 17), .load1 (.t 16), none⟩,
  ⟨(some 18), .fa 2 (.t 3), none⟩,
  ⟨(some 19), .load1 (.t 18), none⟩,
  ⟨(some 20), .call F_laws_eqTouchS [(.t 17), (.t 19)], none⟩,
  ⟨(some 21), .not (.t 20), none⟩]) (.cond (.t 21) (.seq (.reg false [⟨(some 4), .mv (.c (.bool false)), none⟩]) (.ret)) (.skip))) (.seq (.reg false [⟨(some 4), .mv (.c (.bool true)), none⟩]) (.ret)))))
def A_laws_eqMem : AFun := ⟨C_laws_eqMem, 22, [.tmp 4]⟩
def C_laws_eqOram : ACode := .seq (.reg false [⟨(some 2), .box (.t 0), none⟩,
  ⟨(some 3), .box (.t 1), none⟩,
  ⟨(some 4), .mv (.c (.bool false)), none⟩]) (.seq (.seq (.reg false [⟨(some 5), .fa 0 (.t 2), none⟩,
  ⟨(some 6), .load1 (.t 5), none⟩,
  ⟨(some 7), .fa 0 (.t 3), none⟩,
  ⟨(some 8), .load1 (.t 7), none⟩,
  ⟨(some 9), .bin .neq (.t 6) (.t 8), none⟩]) (.cond (.t 9) (.seq (.reg false [⟨(some 4), .mv (.c (.bool false)), none⟩]) (.ret)) (.skip))) (.seq (.seq (.reg false [⟨(some 10), .fa 1 (.t 2), none⟩,
  ⟨(some 11), .load1 (.t 10), none⟩,
  ⟨(some 12), .fa 1 (.t 3), none⟩,
  ⟨(some 13), .load1 (.t 12), none⟩,
  ⟨(some 14), .bin .neq (.t 11) (.t 13), none⟩]) (.cond (.t 14) (.seq (.reg false [⟨(some 4), .mv (.c (.bool false)), none⟩]) (.ret)) (.skip))) (.seq (.seq (.reg false [⟨(some 15), .fa 2 (.t 2), none⟩,
  ⟨(some 16), .load1 (.t 15), none⟩,
  ⟨(some 17), .fa 2 (.t 3), none⟩,
  ⟨(some 18), .load1 (.t 17), none⟩,
  ⟨(some 19), .bin .neq (.t 16) (.t 18), none⟩]) (.cond (.t 19) (.seq (.reg false [⟨(some 4), .mv (.c (.bool false)), none⟩]) (.ret)) (.skip))) (.seq (.seq (.reg false [⟨(some 20), .fa 3 (.t 2), none⟩,
  ⟨(some 21), .loadn 3 (.t 20), none⟩,
  ⟨(some 22), .fa 3 (.t 3), none⟩,
  ⟨(some 23), .loadn 3 (.t 22), none⟩,
  ⟨(some 24), .call F_laws_eqMem [(.t 21), (.t 23)], none⟩,
  ⟨(some 25), .not (.t 24), none⟩]) (.cond (.t 25) (.seq (.reg false [⟨(some 4), .mv (.c (.bool false)), none⟩]) (.ret)) (.skip))) (.seq (.seq (.reg false [⟨(some 26), .fa 6 (.t 2), none⟩,
  ⟨(some 27), .load1 (.t 26), none⟩,
  ⟨(some 28), .fa 6 (.t 3), none⟩,
  ⟨(some 29), .load1 (.t 28), none⟩,
  ⟨(some 30), .call F_laws_eqBlockS [(.t 27), (.t 29)], none⟩,
  ⟨(some 31), .not (.t 30), none⟩]) (.cond (.t 31) (.seq (.reg false [⟨(some 4), .mv (.c (.bool false)), none⟩]) (.ret)) (.skip))) (.seq (.reg false [⟨(some 4), .mv (.c (.bool true)), none⟩]) (.ret)))))))
def A_laws_eqOram : AFun := ⟨C_laws_eqOram, 32, [.tmp 4]⟩
def K_laws_markByteS_0 : List Bool := [true, true, false, false, false, true, false, false, false, false, false, false, false, false, false, false, false, false, false, false]
def B_laws_markByteS_0 : ACode := .seq (.seq (.reg false [⟨(some 6), .mv (.t 5), none⟩,
  ⟨(some 7), .mv (.t 0), none⟩,
  ⟨(some 8), .len (.t 7), none⟩,
  ⟨(some 9), .bin .lss (.t 6) (.t 8), none⟩]) (.cond (.t 9) (.skip) (.exit 0))) (.seq (.block 1 (.seq (.reg false [⟨(some 12), .mv (.t 0), none⟩,
  ⟨(some 13), .mv (.t 5), none⟩,
  ⟨(some 14), .mv (.t 1), none⟩,
  ⟨(some 15), .conv .u8 (.t 14), none⟩,
  ⟨(some 16), .ia 1 (.t 12) (.t 13), none⟩,
  ⟨none, .store 1 (.t 16) (.t 15), none⟩]) (.reg false [⟨(some 17), .mv (.t 1), none⟩,
  ⟨(some 18), .bin .add (.t 17) (.c (.int .i64 1)), none⟩,
  ⟨(some 1), .mv (.t 18), none⟩]))) (.reg false [⟨(some 10), .mv (.t 5), none⟩,
  ⟨(some 11), .bin .add (.t 10) (.c (.int .i64 1)), none⟩,
  ⟨(some 5), .mv (.t 11), none⟩]))
def L_laws_markByteS_0 : ACode := B_laws_markByteS_0
def C_laws_markByteS : ACode := .seq (.reg false [⟨(some 4), .mv (.c (.int .i64 0)), none⟩]) (.seq (.seq (.reg false [⟨(some 5), .mv (.c (.int .i64 0)), none⟩]) (.block 0 (.loop K_laws_markByteS_0 L_laws_markByteS_0))) (.seq (.reg false [⟨(some 19), .mv (.t 1), none⟩,
  ⟨(some 4), .mv (.t 19), none⟩]) (.ret)))
def A_laws_markByteS : AFun := ⟨C_laws_markByteS, 20, [.tmp 4]⟩
def K_laws_markBlockS_0 : List Bool := [true, true, false, false, false, true, false, false, false, false, false, false, false, false, false, false, false, false, false, false, false, false, false, false, false, false, false, false, false, false, false, false, false, false]
def B_laws_markBlockS_0 : ACode := .seq (.seq (.reg false [⟨(some 6), .mv (.t 5), none⟩,
  ⟨(some 7), .mv (.t 0), none⟩,
  ⟨(some 8), .len (.t 7), none⟩,
  ⟨(some 9), .bin .lss (.t 6) (.t 8), none⟩]) (.cond (.t 9) (.skip) (.exit 0))) (.seq (.block 1 (.seq (.reg false [⟨(some 12), .mv (.t 0), none⟩,
  ⟨(some 13), .mv (.t 5), none⟩,
  ⟨(some 14), .mv (.t 1), none⟩,
  ⟨(some 15), .ia 3 (.t 12) (.t 13), none⟩,
  ⟨(some 16), .fa 0 (.t 15), none⟩,
  ⟨none, .store 1 (.t 16) (.t 14), none⟩]) (.seq (.reg false [⟨(some 17), .mv (.t 1), none⟩,
  ⟨(some 18), .bin .add (.t 17) (.c (.int .i64 1)), none⟩,
  ⟨(some 1), .mv (.t 18), none⟩]) (.seq (.reg false [⟨(some 19), .mv (.t 0), none⟩,
  ⟨(some 20), .mv (.t 5), none⟩,
  ⟨(some 21), .mv (.t 1), none⟩,
  ⟨(some 22), .ia 3 (.t 19) (.t 20), none⟩,
  ⟨(some 23), .fa 1 (.t 22), none⟩,
  ⟨none, .store 1 (.t 23) (.t 21), none⟩]) (.seq (.reg false [⟨(some 24), .mv (.t 1), none⟩,
  ⟨(some 25), .bin .add (.t 24) (.c (.int .i64 1)), none⟩,
  ⟨(some 1), .mv (.t 25), none⟩]) (.reg false [⟨(some 26), .mv (.t 0), none⟩,
  ⟨(some 27), .mv (.t 5), none⟩,
  ⟨(some 28), .ia 3 (.t 26) (.t 27), none⟩,
  ⟨(some 29), .fa 2 (.t 28), none⟩,
  ⟨(some 30), .load1 (.t 29), none⟩,
  ⟨(some 31), .mv (.t 1), none⟩,
  ⟨(some 32), .call F_laws_markByteS [(.t 30), (.t 31)], none⟩,
  ⟨(some 1), .mv (.t 32), none⟩])))))) (.reg false [⟨(some 10), .mv (.t 5), none⟩,
  ⟨(some 11), .bin .add (.t 10) (.c (.int .i64 1)), none⟩,
  ⟨(some 5), .mv (.t 11), none⟩]))
def L_laws_markBlockS_0 : ACode := B_laws_markBlockS_0
def C_laws_markBlockS : ACode := .seq (.reg false [⟨(some 4), .mv (.c (.int .i64 0)), none⟩]) (.seq (.seq (.reg false [⟨(some 5), .mv (.c (.int .i64 0)), none⟩]) (.block 0 (.loop K_laws_markBlockS_0 L_laws_markBlockS_0))) (.seq (.reg false [⟨(some 33), .mv (.t 1), none⟩,
  ⟨(some 4), .mv (.t 33), none⟩]) (.ret)))
def A_laws_markBlockS : AFun := ⟨C_laws_markBlockS, 34, [.tmp 4]⟩
def K_laws_markCellS_0 : List Bool := [true, true, false, false, false, true, false, false, false, false, false, false, false, false, false, false, false, false, false, false]
def B_laws_markCellS_0 : ACode := .seq (.seq (.reg false [⟨(some 6), .mv (.t 5), none⟩,
  ⟨(some 7), .mv (.t 0), none⟩,
  ⟨(some 8), .len (.t 7), none⟩,
  ⟨(some 9), .bin .lss (.t 6) (.t 8), none⟩]) (.cond (.t 9) (.skip) (.exit 0))) (.seq (.block 1 (.reg false [⟨(some 12), .mv (.t 0), none⟩,
  ⟨(some 13), .mv (.t 5), none⟩,
  ⟨(some 14), .ia 1 (.t 12) (.t 13), none⟩,
  ⟨(some 15), .fa 0 (.t 14), none⟩,
  ⟨(some 16), .load1 (.t 15), none⟩,
  ⟨(some 17), .mv (.t 1), none⟩,
  ⟨(some 18), .call F_laws_markByteS [(.t 16), (.t 17)], none⟩,
  ⟨(some 1), .mv (.t 18), none⟩])) (.reg false [⟨(some 10), .mv (.t 5), none⟩,
  ⟨(some 11), .bin .add (.t 10) (.c (.int .i64 1)), none⟩,
  ⟨(some 5), .mv (.t 11), none⟩]))
def L_laws_markCellS_0 : ACode := B_laws_markCellS_0
def C_laws_markCellS : ACode := .seq (.reg false [⟨(some 4), .mv (.c (.int .i64 0)), none⟩]) (.seq (.seq (.reg false [⟨(some 5), .mv (.c (.int .i64 0)), none⟩]) (.block 0 (.loop K_laws_markCellS_0 L_laws_markCellS_0))) (.seq (.reg false [⟨(some 19), .mv (.t 1), none⟩,
  ⟨(some 4), .mv (.t 19), none⟩]) (.ret)))
def A_laws_markCellS : AFun := ⟨C_laws_markCellS, 20, [.tmp 4]⟩
def K_laws_markTouchS_0 : List Bool := [true, true, false, false, false, true, false, false, false, false, false, false, false, false, false, false, false, false, false, false, false, false, false, false, false, false, false, false, false, false, false, false, false, false]
def B_laws_markTouchS_0 : ACode := .seq (.seq (.reg false [⟨(some 6), .mv (.t 5), none⟩,
  ⟨(some 7), .mv (.t 0), none⟩,
  ⟨(some 8), .len (.t 7), none⟩,
  ⟨(some 9), .bin .lss (.t 6) (.t 8), none⟩]) (.cond (.t 9) (.skip) (.exit 0))) (.seq (.block 1 (.seq (.reg false [⟨(some 12), .mv (.t 0), none⟩,
  ⟨(some 13), .mv (.t 5), none⟩,
  ⟨(some 14), .mv (.t 1), none⟩,
  ⟨(some 15), .ia 3 (.t 12) (.t 13), none⟩,
  ⟨(some 16), .fa 0 (.t 15), none⟩,
  ⟨none, .store 1 (.t 16) (.t 14), none⟩]) (.seq (.reg false [⟨(some 17), .mv (.t 1), none⟩,
  ⟨(some 18), .bin .add (.t 17) (.c (.int .i64 1)), none⟩,
  ⟨(some 1), .mv (.t 18), none⟩]) (.seq (.reg false [⟨(some 19), .mv (.t 0), none⟩,
  ⟨(some 20), .mv (.t 5), none⟩,
  ⟨(some 21), .mv (.t 1), none⟩,
  ⟨(some 22), .ia 3 (.t 19) (.t 20), none⟩,
  ⟨(some 23), .fa 1 (.t 22), none⟩,
  ⟨none, .store 1 (.t 23) (.t 21), none⟩]) (.seq (.reg false [⟨(some 24), .mv (.t 1), none⟩,
  ⟨(some 25), .bin .add (.t 24) (.c (.int .i64 1)), none⟩,
  ⟨(some 1), .mv (.t 25), none⟩]) (.seq (.reg false [⟨(some 26), .mv (.t 0), none⟩,
  ⟨(some 27), .mv (.t 5), none⟩,
  ⟨(some 28), .mv (.t 1), none⟩,
  ⟨(some 29), .ia 3 (.t 26) (.t 27), none⟩,
  ⟨(some 30), .fa 2 (.t 29), none⟩,
  ⟨none, .store 1 (.t 30) (.t 28), none⟩]) (.reg false [⟨(some 31), .mv (.t 1), none⟩,
  ⟨(some 32), .bin .add (.t 31) (.c (.int .i64 1)), none⟩,
  ⟨(some 1), .mv (.t 32), none⟩]))))))) (.reg false [⟨(some 10), .mv (.t 5), none⟩,
  ⟨(some 11), .bin .add (.t 10) (.c (.int .i64 1)), none⟩,
  ⟨(some 5), .mv (.t 11), none⟩]))
def L_laws_markTouchS_0 : ACode := B_laws_markTouchS_0
def C_laws_markTouchS : ACode := .seq (.reg false [⟨(some 4), .mv (.c (.int .i64 0)), none⟩]) (.seq (.seq (.reg false [⟨(some 5), .mv (.c (.int .i64 0)), none⟩]) (.block 0 (.loop K_laws_markTouchS_0 L_laws_markTouchS_0))) (.seq (.reg false [⟨(some 33), .mv (.t 1), none⟩,
  ⟨(some 4), .mv (.t 33), none⟩]) (.ret)))
def A_laws_markTouchS : AFun := ⟨C_laws_markTouchS, 34, [.tmp 4]⟩
def C_laws_markMem : ACode := .seq (.reg false [⟨(some 2), .box (.t 0), none⟩,
  ⟨(some 4), .mv (.c (.int .i64 0)), none⟩]) (.seq (.reg false [⟨(some 5), .fa 1 (.t 2), none⟩,
  ⟨(some 6), .load1 (.t 5), none⟩,
  ⟨(some 7), .mv (.t 1), none⟩,
  ⟨(some 8), .call F_laws_markCellS [(.t 6), (.t 7)], none⟩,
  ⟨(some 1), .mv (.t 8), none⟩]) (.seq (.reg false [⟨(some 9), .fa 2 (.t 2), none⟩,
  ⟨(some 10), .load1 (.t 9), none⟩,
  ⟨(some 11), .mv (.t 1), none⟩,
  ⟨(some 12), .call F_laws_markTouchS [(.t 10), (.t 11)], none⟩,
  ⟨(some 1), .mv (.t 12), none⟩]) (.seq (.reg false [⟨(some 13), .mv (.t 1), none⟩,
  ⟨(some 4), .mv (.t 13), none⟩]) (.ret))))
def A_laws_markMem : AFun := ⟨C_laws_markMem, 14, [.tmp 4]⟩
def C_laws_markOram : ACode := .seq (.reg false [⟨(some 2), .box (.t 0), none⟩,
  ⟨(some 4), .mv (.c (.int .i64 0)), none⟩]) (.seq (.reg false [⟨(some 5), .fa 3 (.t 2), none⟩,
  ⟨(some 6), .loadn 3 (.t 5), none⟩,
  ⟨(some 7), .mv (.t 1), none⟩,
  ⟨(some 8), .call F_laws_markMem [(.t 6), (.t 7)], none⟩,
  ⟨(some 1), .mv (.t 8), none⟩]) (.seq (.reg false [⟨(some 9), .fa 6 (.t 2), none⟩,
  ⟨(some 10), .load1 (.t 9), none⟩,
  ⟨(some 11), .mv (.t 1), none⟩,
  ⟨(some 12), .call F_laws_markBlockS [(.t 10), (.t 11)], none⟩,
  ⟨(some 1), .mv (.t 12), none⟩]) (.seq (.reg false [⟨(some 13), .mv (.t 1), none⟩,
  ⟨(some 4), .mv (.t 13), none⟩]) (.ret))))
def A_laws_markOram : AFun := ⟨C_laws_markOram, 14, [.tmp 4]⟩
def K_laws_heldByteS_0 : List Bool := [true, true, false, false, false, true, false, false, false, false, false, false, false, false, false, false, false, false, false, false, false, false]
def B_laws_heldByteS_0 : ACode := .seq (.seq (.reg false [⟨(some 6), .mv (.t 5), none⟩,
  ⟨(some 7), .mv (.t 0), none⟩,
  ⟨(some 8), .len (.t 7), none⟩,
  ⟨(some 9), .bin .lss (.t 6) (.t 8), none⟩]) (.cond (.t 9) (.skip) (.exit 0))) (.seq (.block 1 (.seq (.seq (.reg false [⟨(some 12), .mv (.t 0), none⟩,
  ⟨(some 13), .mv (.t 5), none⟩,
  ⟨(some 14), .ia 1 (.t 12) (.t 13), none⟩,
  ⟨(some 15), .load1 (.t 14), none⟩,
  ⟨(some 16), .mv (.t 1), none⟩,
  ⟨(some 17), .conv .u8 (.t 16), none⟩,
  ⟨(some 18), .bin .neq (.t 15) (.t 17), none⟩]) (.cond (.t 18) (.seq (.reg false [⟨(some 4), .mv (.c (.int .i64 (-1))), none⟩]) (.ret)) (.skip))) (.reg false [⟨(some 19), .mv (.t 1), none⟩,
  ⟨(some 20), .bin .add (.t 19) (.c (.int .i64 1)), none⟩,
  ⟨(some 1), .mv (.t 20), none⟩]))) (.reg false [⟨(some 10), .mv (.t 5), none⟩,
  ⟨(some 11), .bin .add (.t 10) (.c (.int .i64 1)), none⟩,
  ⟨(some 5), .mv (.t 11), none⟩]))
def L_laws_heldByteS_0 : ACode := B_laws_heldByteS_0
def C_laws_heldByteS : ACode := .seq (.reg false [⟨(some 4), .mv (.c (.int .i64 0)), none⟩]) (.seq (.seq (.reg false [⟨(some 5), .mv (.c (.int .i64 0)), none⟩]) (.block 0 (.loop K_laws_heldByteS_0 L_laws_heldByteS_0))) (.seq (.reg false [⟨(some 21), .mv (.t 1), none⟩,
  ⟨(some 4), .mv (.t 21), none⟩]) (.ret)))
def A_laws_heldByteS : AFun := ⟨C_laws_heldByteS, 22, [.tmp 4]⟩
def K_laws_heldBlockS_0 : List Bool := [true, true, false, false, false, true, false, false, false, false, false, false, false, false, false, false, false, false, false, false, false, false, false, false, false, false, false, false, false, false, false, false, false, false, false, false, false, false, false, false]
def B_laws_heldBlockS_0 : ACode := .seq (.seq (.reg false [⟨(some 6), .mv (.t 5), none⟩,
  ⟨(some 7), .mv (.t 0), none⟩,
  ⟨(some 8), .len (.t 7), none⟩,
  ⟨(some 9), .bin .lss (.t 6) (.t 8), none⟩]) (.cond (.t 9) (.skip) (.exit 0))) (.seq (.block 1 (.seq (.seq (.reg false [⟨(some 12), .mv (.t 0), none⟩,
  ⟨(some 13), .mv (.t 5), none⟩,
  ⟨(some 14), .ia 3 (.t 12) (.t 13), none⟩,
  ⟨(some 15), .fa 0 (.t 14), none⟩,
  ⟨(some 16), .load1 (.t 15), none⟩,
  ⟨(some 17), .mv (.t 1), none⟩,
  ⟨(some 18), .bin .neq (.t 16) (.t 17), none⟩]) (.cond (.t 18) (.seq (.reg false [⟨(some 4), .mv (.c (.int .i64 (-1))), none⟩]) (.ret)) (.skip))) (.seq (.reg false [⟨(some 19), .mv (.t 1), none⟩,
  ⟨(some 20), .bin .add (.t 19) (.c (.int .i64 1)), none⟩,
  ⟨(some 1), .mv (.t 20), none⟩]) (.seq (.seq (.reg false [⟨(some 21), .mv (.t 0), none⟩,
  ⟨(some 22), .mv (.t 5), none⟩,
  ⟨(some 23), .ia 3 (.t 21) (.t 22), none⟩,
  ⟨(some 24), .fa 1 (.t 23), none⟩,
  ⟨(some 25), .load1 (.t 24), none⟩,
  ⟨(some 26), .mv (.t 1), none⟩,
  ⟨(some 27), .bin .neq (.t 25) (.t 26), none⟩]) (.cond (.t 27) (.seq (.reg false [⟨(some 4), .mv (.c (.int .i64 (-1))), none⟩]) (.ret)) (.skip))) (.seq (.reg false [⟨(some 28), .mv (.t 1), none⟩,
  ⟨(some 29), .bin .add (.t 28) (.c (.int .i64 1)), none⟩,
  ⟨(some 1), .mv (.t 29), none⟩]) (.seq (.reg false [⟨(some 30), .mv (.t 0), none⟩,
  ⟨(some 31), .mv (.t 5), none⟩,
  ⟨(some 32), .ia 3 (.t 30) (.t 31), none⟩,
  ⟨(some 33), .fa 2 (.t 32), none⟩,
  ⟨(some 34), .load1 (.t 33), none⟩,
  ⟨(some 35), .mv (.t 1), none⟩,
  ⟨(some 36), .call F_laws_heldByteS [(.t 34), (.t 35)], none⟩,
  ⟨(some 1), .mv (.t 36), none⟩]) (.seq (.reg false [⟨(some 37), .mv (.t 1), none⟩,
  ⟨(some 38), .bin .lss (.t 37) (.c (.int .i64 0)), none⟩]) (.cond (.t 38) (.seq (.reg false [⟨(some 4), .mv (.c (.int .i64 (-1))), none⟩]) (.ret)) (.skip))))))))) (.reg false [⟨(some 10), .mv (.t 5), none⟩,
  ⟨(some 11), .bin .add (.t 10) (.c (.int .i64 1)), none⟩,
  ⟨(some 5), .mv (.t 11), none⟩]))
def L_laws_heldBlockS_0 : ACode := B_laws_heldBlockS_0
def C_laws_heldBlockS : ACode := .seq (.reg false [⟨(some 4), .mv (.c (.int .i64 0)), none⟩]) (.seq (.seq (.reg false [⟨(some 5), .mv (.c (.int .i64 0)), none⟩]) (.block 0 (.loop K_laws_heldBlockS_0 L_laws_heldBlockS_0))) (.seq (.reg false [⟨(some 39), .mv (.t 1), none⟩,
  ⟨(some 4), .mv (.t 39), none⟩]) (.ret)))
def A_laws_heldBlockS : AFun := ⟨C_laws_heldBlockS, 40, [.tmp 4]⟩
def K_laws_heldCellS_0 : List Bool := [true, true, false, false, false, true, false, false, false, false, false, false, false, false, false, false, false, false, false, false, false, false]
def B_laws_heldCellS_0 : ACode := .seq (.seq (.reg false [⟨(some 6), .mv (.t 5), none⟩,
  ⟨(some 7), .mv (.t 0), none⟩,
  ⟨(some 8), .len (.t 7), none⟩,
  ⟨(some 9), .bin .lss (.t 6) (.t 8), none⟩]) (.cond (.t 9) (.skip) (.exit 0))) (.seq (.block 1 (.seq (.reg false [⟨(some 12), .mv (.t 0), none⟩,
  ⟨(some 13), .mv (.t 5), none⟩,
  ⟨(some 14), .ia 1 (.t 12) (.t 13), none⟩,
  ⟨(some 15), .fa 0 (.t 14), none⟩,
  ⟨(some 16), .load1 (.t 15), none⟩,
  ⟨(some 17), .mv (.t 1), none⟩,
  ⟨(some 18), .call F_laws_heldByteS [(.t 16), (.t 17)], none⟩,
  ⟨(some 1), .mv (.t 18), none⟩]) (.seq (.reg false [⟨(some 19), .mv (.t 1), none⟩,
  ⟨(some 20), .bin .lss (.t 19) (.c (.int .i64 0)), none⟩]) (.cond (.t 20) (.seq (.reg false [⟨(some 4), .mv (.c (.int .i64 (-1))), none⟩]) (.ret)) (.skip))))) (.reg false [⟨(some 10), .mv (.t 5), none⟩,
  ⟨(some 11), .bin .add (.t 10) (.c (.int .i64 1)), none⟩,
  ⟨(some 5), .mv (.t 11), none⟩]))
def L_laws_heldCellS_0 : ACode := B_laws_heldCellS_0
def C_laws_heldCellS : ACode := .seq (.reg false [⟨(some 4), .mv (.c (.int .i64 0)), none⟩]) (.seq (.seq (.reg false [⟨(some 5), .mv (.c (.int .i64 0)), none⟩]) (.block 0 (.loop K_laws_heldCellS_0 L_laws_heldCellS_0))) (.seq (.reg false [⟨(some 21), .mv (.t 1), none⟩,
  ⟨(some 4), .mv (.t 21), none⟩]) (.ret)))
def A_laws_heldCellS : AFun := ⟨C_laws_heldCellS, 22, [.tmp 4]⟩
def K_laws_heldTouchS_0 : List Bool := [true, true, false, false, false, true, false, false, false, false, false, false, false, false, false, false, false, false, false, false, false, false, false, false, false, false, false, false, false, false, false, false, false, false, false, false, false, false, false, false]
def B_laws_heldTouchS_0 : ACode := .seq (.seq (.reg false [⟨(some 6), .mv (.t 5), none⟩,
  ⟨(some 7), .mv (.t 0), none⟩,
  ⟨(some 8), .len (.t 7), none⟩,
  ⟨(some 9), .bin .lss (.t 6) (.t 8), none⟩]) (.cond (.t 9) (.skip) (.exit 0))) (.seq (.block 1 (.seq (.seq (.reg false [⟨(some 12), .mv (.t 0), none⟩,
  ⟨(some 13), .mv (.t 5), none⟩,
  ⟨(some 14), .ia 3 (.t 12) (.t 13), none⟩,
  ⟨(some 15), .fa 0 (.t 14), none⟩,
  ⟨(some 16), .load1 (.t 15), none⟩,
  ⟨(some 17), .mv (.t 1), none⟩,
  ⟨(some 18), .bin .neq (.t 16) (.t 17), none⟩]) (.cond (.t 18) (.seq (.reg false [⟨(some 4), .mv (.c (.int .i64 (-1))), none⟩]) (.ret)) (.skip))) (.seq (.reg false [⟨(some 19), .mv (.t 1), none⟩,
  ⟨(some 20), .bin .add (.t 19) (.c (.int .i64 1)), none⟩,
  ⟨(some 1), .mv (.t 20), none⟩]) (.seq (.seq (.reg false [⟨(some 21), .mv (.t 0), none⟩,
  ⟨(some 22), .mv (.t 5), none⟩,
  ⟨(some 23), .ia 3 (.t 21) (.t 22), none⟩,
  ⟨(some 24), .fa 1 (.t 23), none⟩,
  ⟨(some 25), .load1 (.t 24), none⟩,
  ⟨(some 26), .mv (.t 1), none⟩,
  ⟨(some 27), .bin .neq (.t 25) (.t 26), none⟩]) (.cond (.t 27) (.seq (.reg false [⟨(some 4), .mv (.c (.int .i64 (-1))), none⟩]) (.ret)) (.skip))) (.seq (.reg false [⟨(some 28), .mv (.t 1), none⟩,
  ⟨(some 29), .bin .add (.t 28) (.c (.int .i64 1)), none⟩,
  ⟨(some 1), .mv (.t 29), none⟩]) (.seq (.seq (.reg false [⟨(some 30), .mv (.t 0), none⟩,
  ⟨(some 31), .mv (.t 5), none⟩,
  ⟨(some 32), .ia 3 (.t 30) (.t 31), none⟩,
  ⟨(some 33), .fa 2 (.t 32), none⟩,
  ⟨(some 34), .load1 (.t 33), none⟩,
  ⟨(some 35), .mv (.t 1), none⟩,
  ⟨(some 36), .bin .neq (.t 34) (.t 35), none⟩]) (.cond (.t 36) (.seq (.reg false [⟨(some 4), .mv (.c (.int .i64 (-1))), none⟩]) (.ret)) (.skip))) (.reg false [⟨(some 37), .mv (.t 1), none⟩,
  ⟨(some 38), .bin .add (.t 37) (.c (.int .i64 1)), none⟩,
  ⟨(some 1), .mv (.t 38), none⟩]))))))) (.reg false [⟨(some 10), .mv (.t 5), none⟩,
  ⟨(some 11), .bin .add (.t 10) (.c (.int .i64 1)), none⟩,
  ⟨(some 5), .mv (.t 11), none⟩]))
def L_laws_heldTouchS_0 : ACode := B_laws_heldTouchS_0
def C_laws_heldTouchS : ACode := .seq (.reg false [⟨(some 4), .mv (.c (.int .i64 0)), none⟩]) (.seq (.seq (.reg false [⟨(some 5), .mv (.c (.int .i64 0)), none⟩]) (.block 0 (.loop K_laws_heldTouchS_0 L_laws_heldTouchS_0))) (.seq (.reg false [⟨(some 39), .mv (.t 1), none⟩,
  ⟨(some 4), .mv (.t 39), none⟩]) (.ret)))
def A_laws_heldTouchS : AFun := ⟨C_laws_heldTouchS, 40, [.tmp 4]⟩
def C_laws_heldMem : ACode := .seq (.reg false [⟨(some 2), .box (.t 0), none⟩,
  ⟨(some 4), .mv (.c (.int .i64 0)), none⟩]) (.seq (.reg false [⟨(some 5), .fa 1 (.t 2), none⟩,
  ⟨(some 6), .load1 (.t 5), none⟩,
  ⟨(some 7), .mv (.t 1), none⟩,
  ⟨(some 8), .call F_laws_heldCellS [(.t 6), (.t 7)], none⟩,
  ⟨(some 1), .mv (.t 8), none⟩]) (.seq (.seq (.reg false [⟨(some 9), .mv (.t 1), none⟩,
  ⟨(some 10), .bin .lss (.t 9) (.c (.int .i64 0)), none⟩]) (.cond (.t 10) (.seq (.reg false [⟨(some 4), .mv (.c (.int .i64 (-1))), none⟩]) (.ret)) (.skip))) (.seq (.reg false [⟨(some 11), .fa 2 (.t 2), none⟩,
  ⟨(some 12), .load1 (.t 11), none⟩,
  ⟨(some 13), .mv (.t 1), none⟩,
  ⟨(some 14), .call F_laws_heldTouchS [(.t 12), (.t 13)], none⟩,
  ⟨(some 1), .mv (.t 14), none⟩]) (.seq (.seq (.reg false [⟨(some 15), .mv (.t 1), none⟩,
  ⟨(some 16), .bin .lss (.t 15) (.c (.int .i64 0)), none⟩]) (.cond (.t 16) (.seq (.reg false [⟨(some 4), .mv (.c (.int .i64 (-1))), none⟩]) (.ret)) (.skip))) (.seq (.reg false [⟨(some 17), .mv (.t 1), none⟩,
  ⟨(some 4), .mv (.t 17), none⟩]) (.ret))))))
def A_laws_heldMem : AFun := ⟨C_laws_heldMem, 18, [.tmp 4]⟩
def C_laws_heldOram : ACode := .seq (.reg false [⟨(some 2), .box (.t 0), none⟩,
  ⟨(some 4), .mv (.c (.int .i64 0)), none⟩]) (.seq (.reg false [⟨(some 5), .fa 3 (.t 2), none⟩,
  ⟨(some 6), .loadn 3 (.t 5), none⟩,
  ⟨(some 7), .mv (.t 1), none⟩,
  ⟨(some 8), .call F_laws_heldMem [(.t 6), (.t 7)], none⟩,
  ⟨(some 1), .mv (.t 8), none⟩]) (.seq (.seq (.reg false [⟨(some 9), .mv (.t 1), none⟩,
  ⟨(some 10), .bin .lss (.t 9) (.c (.int .i64 0)), none⟩]) (.cond (.t 10) (.seq (.reg false [⟨(some 4), .mv (.c (.int .i64 (-1))), none⟩]) (.ret)) (.skip))) (.seq (.reg false [⟨(some 11), .fa 6 (.t 2), none⟩,
  ⟨(some 12), .load1 (.t 11), none⟩,
  ⟨(some 13), .mv (.t 1), none⟩,
  ⟨(some 14), .call F_laws_heldBlockS [(.t 12), (.t 13)], none⟩,
  ⟨(some 1), .mv (.t 14), none⟩]) (.seq (.seq (.reg false [⟨(some 15), .mv (.t 1), none⟩,
  ⟨(some 16), .bin .lss (.t 15) (.c (.int .i64 0)), none⟩]) (.cond (.t 16) (.seq (.reg false [⟨(some 4), .mv (.c (.int .i64 (-1))), none⟩]) (.ret)) (.skip))) (.seq (.reg false [⟨(some 17), .mv (.t 1), none⟩,
  ⟨(some 4), .mv (.t 17), none⟩]) (.ret))))))
def A_laws_heldOram : AFun := ⟨C_laws_heldOram, 18, [.tmp 4]⟩
def C_laws_FnExactOramNew : ACode := .seq (.reg false [⟨(some 6), .mv (.c (.bool false)), none⟩]) (.seq (.reg false [⟨(some 12), .mv (.t 0), none⟩,
  ⟨(some 13), .mv (.t 1), none⟩,
  ⟨(some 14), .mv (.t 2), none⟩,
  ⟨(some 15), .call F_spec_OramNew [(.t 12), (.t 13), (.t 14)], none⟩,
  ⟨(some 7), .new [(.int .i64 0), (.int .i64 0), (.int .i64 0), (.int .i64 0), (.slice none 0 0), (.slice none 0 0), (.slice none 0 0)], none⟩,
  ⟨none, .store 7 (.t 7) (.t 15), none⟩]) (.seq (.reg false [⟨(some 16), .mv (.t 0), none⟩,
  ⟨(some 17), .mv (.t 1), none⟩,
  ⟨(some 18), .mv (.t 2), none⟩,
  ⟨(some 19), .call F_impl_OramNew [(.t 16), (.t 17), (.t 18)], none⟩,
  ⟨(some 8), .new [(.int .i64 0), (.int .i64 0), (.int .i64 0), (.int .i64 0), (.slice none 0 0), (.slice none 0 0), (.slice none 0 0)], none⟩,
  ⟨none, .store 7 (.t 8) (.t 19), none⟩]) (.seq (.seq (.reg false [⟨(some 20), .loadn 7 (.t 8), none⟩,
  ⟨(some 21), .loadn 7 (.t 7), none⟩,
  ⟨(some 22), .call F_laws_eqOram [(.t 20), (.t 21)], none⟩,
  ⟨(some 23), .not (.t 22), none⟩]) (.cond (.t 23) (.seq (.reg false [⟨(some 6), .mv (.c (.bool false)), none⟩]) (.ret)) (.skip))) (.seq (.reg false [⟨(some 9), .mv (.c (.int .i64 1)), none⟩]) (.seq (.reg false [⟨(some 24), .loadn 7 (.t 8), none⟩,
  ⟨(some 25), .mv (.t 9), none⟩,
  ⟨(some 26), .call F_laws_markOram [(.t 24), (.t 25)], none⟩,
  ⟨(some 9), .mv (.t 26), none⟩]) (.seq (.reg false [⟨(some 10), .mv (.c (.int .i64 1)), none⟩]) (.seq (.reg false [⟨(some 27), .loadn 7 (.t 8), none⟩,
  ⟨(some 28), .mv (.t 10), none⟩,
  ⟨(some 29), .call F_laws_heldOram [(.t 27), (.t 28)], none⟩,
  ⟨(some 10), .mv (.t 29), none⟩]) (.seq (.seq (.reg false [⟨(some 30), .mv (.t 10), none⟩,
  ⟨(some 31), .bin .lss (.t 30) (.c (.int .i64 0)), none⟩]) (.cond (.t 31) (.seq (.reg false [⟨(some 6), .mv (.c (.bool false)), none⟩]) (.ret)) (.skip))) (.seq (.seq (.reg false [⟨(some 32), .mv (.t 10), none⟩,
  ⟨(some 33), .mv (.t 9), none⟩,
  ⟨(some 34), .bin .neq (.t 32) (.t 33), none⟩]) (.cond (.t 34) (.seq (.reg false [⟨(some 6), .mv (.c (.bool false)), none⟩]) (.ret)) (.skip))) (.seq (.reg false [⟨(some 35), .mv (.t 0), none⟩,
  ⟨(some 36), .mv (.t 1), none⟩,
  ⟨(some 37), .mv (.t 2), none⟩,
  ⟨(some 38), .call F_impl_OramNew [(.t 35), (.t 36), (.t 37)], none⟩,
  ⟨(some 11), .new [(.int .i64 0), (.int .i64 0), (.int .i64 0), (.int .i64 0), (.slice none 0 0), (.slice none 0 0), (.slice none 0 0)], none⟩,
  ⟨none, .store 7 (.t 11) (.t 38), none⟩]) (.seq (.seq (.reg false [⟨(some 39), .loadn 7 (.t 11), none⟩,
  ⟨(some 40), .loadn 7 (.t 7), none⟩,
  ⟨(some 41), .call F_laws_eqOram [(.t 39), (.t 40)], none⟩,
  ⟨(some 42), .not (.t 41), none⟩]) (.cond (.t 42) (.seq (.reg false [⟨(some 6), .mv (.c (.bool false)), none⟩]) (.ret)) (.skip))) (.seq (.reg false [⟨(some 10), .mv (.c (.int .i64 1)), none⟩]) (.seq (.reg false [⟨(some 43), .loadn 7 (.t 8), none⟩,
  ⟨(some 44), .mv (.t 10), none⟩,
  ⟨(some 45), .call F_laws_heldOram [(.t 43), (.t 44)], none⟩,
  ⟨(some 10), .mv (.t 45), none⟩]) (.seq (.seq (.reg false [⟨(some 46), .mv (.t 10), none⟩,
  ⟨(some 47), .bin .lss (.t 46) (.c (.int .i64 0)), none⟩]) (.cond (.t 47) (.seq (.reg false [⟨(some 6), .mv (.c (.bool false)), none⟩]) (.ret)) (.skip))) (.seq (.seq (.reg false [⟨(some 48), .mv (.t 10), none⟩,
  ⟨(some 49), .mv (.t 9), none⟩,
  ⟨(some 50), .bin .neq (.t 48) (.t 49), none⟩]) (.cond (.t 50) (.seq (.reg false [⟨(some 6), .mv (.c (.bool false)), none⟩]) (.ret)) (.skip))) (.seq (.reg false [⟨(some 6), .mv (.c (.bool true)), none⟩]) (.ret)))))))))))))))))
def A_laws_FnExactOramNew : AFun := ⟨C_laws_FnExactOramNew, 51, [.tmp 6]⟩
end GoAm
