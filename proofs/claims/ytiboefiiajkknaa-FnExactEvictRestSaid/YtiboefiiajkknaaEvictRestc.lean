/- The code that the law reaches, for the abstract machine: printed by a program. -/
import Derived.Test.YtiboefiiajkknaaAmDef
set_option autoImplicit false
set_option linter.unusedVariables false
set_option linter.unusedSimpArgs false
namespace GoAm
open Go
def F_laws_szByteS : Go.FuncId := 171
def F_laws_szBlock : Go.FuncId := 107
def F_laws_szBlockS : Go.FuncId := 40
def F_laws_toByteS : Go.FuncId := 173
def F_laws_toBlock : Go.FuncId := 113
def F_laws_toBlockS : Go.FuncId := 42
def F_laws_eqByteS : Go.FuncId := 178
def F_laws_eqBlock : Go.FuncId := 118
def F_laws_eqBlockS : Go.FuncId := 45
def F_laws_markByteS : Go.FuncId := 119
def F_laws_markBlockS : Go.FuncId := 46
def F_spec_l11Log : Go.FuncId := 77
def F_spec_l02Pow : Go.FuncId := 88
def F_spec_l11Leaf : Go.FuncId := 108
def F_spec_l12Frame : Go.FuncId := 183
def F_spec_BlockOk : Go.FuncId := 125
def F_spec_BlocksOk : Go.FuncId := 131
def F_spec_StashOk : Go.FuncId := 57
def F_spec_l13Copy : Go.FuncId := 109
def F_spec_StashFind : Go.FuncId := 110
def F_spec_PathNodes : Go.FuncId := 172
def F_spec_Meet : Go.FuncId := 111
def F_spec_l13Without : Go.FuncId := 112
def F_spec_EvictPlan : Go.FuncId := 41
def F_spec_EvictRest : Go.FuncId := 49
def F_impl_within : Go.FuncId := 84
def F_impl_isLog : Go.FuncId := 81
def F_impl_isLeaf : Go.FuncId := 115
def F_impl_isBlock : Go.FuncId := 126
def F_impl_areBlocks : Go.FuncId := 174
def F_impl_isStash : Go.FuncId := 114
def F_slices_IndexFunc_impl_Block_impl_Block : Go.FuncId := 187
def F_slices_DeleteFunc_impl_Block_impl_Block : Go.FuncId := 129
def F_slices_Clone_impl_Block_impl_Block : Go.FuncId := 175
def F_math_bits_Len32 : Go.FuncId := 231
def F_math_bits_Len64 : Go.FuncId := 232
def F_math_bits_Len : Go.FuncId := 210
def F_impl_meet : Go.FuncId := 177
def F_impl_evict_1 : Go.FuncId := 176
def F_impl_evict : Go.FuncId := 116
def F_bytes_Clone : Go.FuncId := 179
def F_impl_cloneBlocks : Go.FuncId := 120
def F_impl_EvictRest : Go.FuncId := 50
def F_laws_heldByteS : Go.FuncId := 121
def F_laws_heldBlockS : Go.FuncId := 51
def F_laws_FnExactEvictRest : Go.FuncId := 9
def C_laws_szByteS : ACode := .seq (.reg false [⟨(some 4), .mv (.c (.int .i64 0)), none⟩]) (.seq (.reg false [⟨(some 5), .mv (.t 1), none⟩,
  ⟨(some 6), .mv (.t 0), none⟩,
  ⟨(some 7), .len (.t 6), none⟩,
  ⟨(some 8), .bin .sub (.t 5) (.t 7), none⟩,
  ⟨(some 1), .mv (.t 8), none⟩]) (.seq (.seq (.reg false [⟨(some 9), .mv (.t 1), none⟩,
  ⟨(some 10), .bin .lss (.t 9) (.c (.int .i64 0)), none⟩]) (.cond (.t 10) (.seq (.reg false [⟨(some 4), .mv (.c (.int .i64 (-1))), none⟩]) (.ret)) (.skip))) (.seq (.reg false [⟨(some 11), .mv (.t 1), none⟩,
  ⟨(some 4), .mv (.t 11), none⟩]) (.ret))))
def A_laws_szByteS : AFun := ⟨C_laws_szByteS, 12, [.tmp 4]⟩
def C_laws_szBlock : ACode := .seq (.reg false [⟨(some 2), .box (.t 0), none⟩,
  ⟨(some 4), .mv (.c (.int .i64 0)), none⟩]) (.seq (.reg false [⟨(some 5), .fa 2 (.t 2), none⟩,
  ⟨(some 6), .load1 (.t 5), none⟩,
  ⟨(some 7), .mv (.t 1), none⟩,
  ⟨(some 8), .call F_laws_szByteS [(.t 6), (.t 7)], none⟩,
  ⟨(some 1), .mv (.t 8), none⟩]) (.seq (.seq (.reg false [⟨(some 9), .mv (.t 1), none⟩,
  ⟨(some 10), .bin .lss (.t 9) (.c (.int .i64 0)), none⟩]) (.cond (.t 10) (.seq (.reg false [⟨(some 4), .mv (.c (.int .i64 (-1))), none⟩]) (.ret)) (.skip))) (.seq (.reg false [⟨(some 11), .mv (.t 1), none⟩,
  ⟨(some 4), .mv (.t 11), none⟩]) (.ret))))
def A_laws_szBlock : AFun := ⟨C_laws_szBlock, 12, [.tmp 4]⟩
def K_laws_szBlockS_0 : List Bool := [true, true, false, false, false, true, false, false, false, false, false, false, false, false, false, false, false, false, false, false, false, false, false, false, false, false, false]
def B_laws_szBlockS_0 : ACode := .seq (.seq (.reg false [⟨(some 12), .mv (.t 5), none⟩,
  ⟨(some 13), .mv (.t 0), none⟩,
  ⟨(some 14), .len (.t 13), none⟩,
  ⟨(some 15), .bin .lss (.t 12) (.t 14), none⟩]) (.cond (.t 15) (.skip) (.exit 0))) (.seq (.block 1 (.seq (.reg false [⟨(some 18), .mv (.t 0), none⟩,
  ⟨(some 19), .mv (.t 5), none⟩,
  ⟨(some 20), .ia 3 (.t 18) (.t 19), none⟩,
  ⟨(some 21), .loadn 3 (.t 20), none⟩,
  ⟨(some 22), .mv (.t 1), none⟩,
  ⟨(some 23), .call F_laws_szBlock [(.t 21), (.t 22)], none⟩,
  ⟨(some 1), .mv (.t 23), none⟩]) (.seq (.reg false [⟨(some 24), .mv (.t 1), none⟩,
  ⟨(some 25), .bin .lss (.t 24) (.c (.int .i64 0)), none⟩]) (.cond (.t 25) (.seq (.reg false [⟨(some 4), .mv (.c (.int .i64 (-1))), none⟩]) (.ret)) (.skip))))) (.reg false [⟨(some 16), .mv (.t 5), none⟩,
  ⟨(some 17), .bin .add (.t 16) (.c (.int .i64 1)), none⟩,
  ⟨(some 5), .mv (.t 17), none⟩]))
def L_laws_szBlockS_0 : ACode := B_laws_szBlockS_0
def C_laws_szBlockS : ACode := .seq (.reg false [⟨(some 4), .mv (.c (.int .i64 0)), none⟩]) (.seq (.reg false [⟨(some 6), .mv (.t 1), none⟩,
  ⟨(some 7), .mv (.t 0), none⟩,
  ⟨(some 8), .len (.t 7), none⟩,
  ⟨(some 9), .bin .sub (.t 6) (.t 8), none⟩,
  ⟨(some 1), .mv (.t 9), none⟩]) (.seq (.seq (.reg false [⟨(some 10), .mv (.t 1), none⟩,
  ⟨(some 11), .bin .lss (.t 10) (.c (.int .i64 0)), none⟩]) (.cond (.t 11) (.seq (.reg false [⟨(some 4), .mv (.c (.int .i64 (-1))), none⟩]) (.ret)) (.skip))) (.seq (.seq (.reg false [⟨(some 5), .mv (.c (.int .i64 0)), none⟩]) (.block 0 (.loop K_laws_szBlockS_0 L_laws_szBlockS_0))) (.seq (.reg false [⟨(some 26), .mv (.t 1), none⟩,
  ⟨(some 4), .mv (.t 26), none⟩]) (.ret)))))
def A_laws_szBlockS : AFun := ⟨C_laws_szBlockS, 27, [.tmp 4]⟩
def K_laws_toByteS_0 : List Bool := [true, false, false, true, true, false, false, false, false, false, false, false, false, false, false, false, false, false, false, false, false, false]
def B_laws_toByteS_0 : ACode := .seq (.seq (.reg false [⟨(some 8), .mv (.t 4), none⟩,
  ⟨(some 9), .mv (.t 0), none⟩,
  ⟨(some 10), .len (.t 9), none⟩,
  ⟨(some 11), .bin .lss (.t 8) (.t 10), none⟩]) (.cond (.t 11) (.skip) (.exit 0))) (.seq (.block 1 (.reg false [⟨(some 14), .mv (.t 3), none⟩,
  ⟨(some 15), .mv (.t 4), none⟩,
  ⟨(some 16), .mv (.t 0), none⟩,
  ⟨(some 17), .mv (.t 4), none⟩,
  ⟨(some 18), .ia 1 (.t 16) (.t 17), none⟩,
  ⟨(some 19), .load1 (.t 18), none⟩,
  ⟨(some 20), .ia 1 (.t 14) (.t 15), none⟩,
  ⟨none, .store 1 (.t 20) (.t 19), none⟩])) (.reg false [⟨(some 12), .mv (.t 4), none⟩,
  ⟨(some 13), .bin .add (.t 12) (.c (.int .i64 1)), none⟩,
  ⟨(some 4), .mv (.t 13), none⟩]))
def L_laws_toByteS_0 : ACode := B_laws_toByteS_0
def C_laws_toByteS : ACode := .seq (.reg false [⟨(some 2), .mv (.c (.slice none 0 0)), none⟩]) (.seq (.reg false [⟨(some 5), .mv (.t 0), none⟩,
  ⟨(some 6), .len (.t 5), none⟩,
  ⟨(some 7), .make 1 1 [(.int .u8 0)] (.t 6), none⟩,
  ⟨(some 3), .mv (.t 7), none⟩]) (.seq (.seq (.reg false [⟨(some 4), .mv (.c (.int .i64 0)), none⟩]) (.block 0 (.loop K_laws_toByteS_0 L_laws_toByteS_0))) (.seq (.reg false [⟨(some 21), .mv (.t 3), none⟩,
  ⟨(some 2), .mv (.t 21), none⟩]) (.ret))))
def A_laws_toByteS : AFun := ⟨C_laws_toByteS, 22, [.tmp 2]⟩
def C_laws_toBlock : ACode := .seq (.reg false [⟨(some 1), .box (.t 0), none⟩,
  ⟨(some 2), .new [(.int .i64 0), (.int .i64 0), (.slice none 0 0)], none⟩]) (.seq (.reg false [⟨(some 3), .new [(.int .i64 0), (.int .i64 0), (.slice none 0 0)], none⟩]) (.seq (.reg false [⟨(some 4), .fa 0 (.t 1), none⟩,
  ⟨(some 5), .load1 (.t 4), none⟩,
  ⟨(some 6), .fa 0 (.t 3), none⟩,
  ⟨none, .store 1 (.t 6) (.t 5), none⟩]) (.seq (.reg false [⟨(some 7), .fa 1 (.t 1), none⟩,
  ⟨(some 8), .load1 (.t 7), none⟩,
  ⟨(some 9), .fa 1 (.t 3), none⟩,
  ⟨none, .store 1 (.t 9) (.t 8), none⟩]) (.seq (.reg false [⟨(some 10), .fa 2 (.t 1), none⟩,
  ⟨(some 11), .load1 (.t 10), none⟩,
  ⟨(some 12), .call F_laws_toByteS [(.t 11)], none⟩,
  ⟨(some 13), .fa 2 (.t 3), none⟩,
  ⟨none, .store 1 (.t 13) (.t 12), none⟩]) (.seq (.reg false [⟨(some 14), .loadn 3 (.t 3), none⟩,
  ⟨none, .store 3 (.t 2) (.t 14), none⟩]) (.ret))))))
def A_laws_toBlock : AFun := ⟨C_laws_toBlock, 15, [.celln 2 3]⟩
def K_laws_toBlockS_0 : List Bool := [true, false, false, true, true, false, false, false, false, false, false, false, false, false, false, false, false, false, false, false, false, false, false]
def B_laws_toBlockS_0 : ACode := .seq (.seq (.reg false [⟨(some 8), .mv (.t 4), none⟩,
  ⟨(some 9), .mv (.t 0), none⟩,
  ⟨(some 10), .len (.t 9), none⟩,
  ⟨(some 11), .bin .lss (.t 8) (.t 10), none⟩]) (.cond (.t 11) (.skip) (.exit 0))) (.seq (.block 1 (.reg false [⟨(some 14), .mv (.t 3), none⟩,
  ⟨(some 15), .mv (.t 4), none⟩,
  ⟨(some 16), .mv (.t 0), none⟩,
  ⟨(some 17), .mv (.t 4), none⟩,
  ⟨(some 18), .ia 3 (.t 16) (.t 17), none⟩,
  ⟨(some 19), .loadn 3 (.t 18), none⟩,
  ⟨(some 20), .call F_laws_toBlock [(.t 19)], none⟩,
  ⟨(some 21), .ia 3 (.t 14) (.t 15), none⟩,
  ⟨none, .store 3 (.t 21) (.t 20), none⟩])) (.reg false [⟨(some 12), .mv (.t 4), none⟩,
  ⟨(some 13), .bin .add (.t 12) (.c (.int .i64 1)), none⟩,
  ⟨(some 4), .mv (.t 13), none⟩]))
def L_laws_toBlockS_0 : ACode := B_laws_toBlockS_0
def C_laws_toBlockS : ACode := .seq (.reg false [⟨(some 2), .mv (.c (.slice none 0 0)), none⟩]) (.seq (.reg false [⟨(some 5), .mv (.t 0), none⟩,
  ⟨(some 6), .len (.t 5), none⟩,
  ⟨(some 7), .make 3 40 [(.int .i64 0), (.int .i64 0), (.slice none 0 0)] (.t 6), none⟩,
  ⟨(some 3), .mv (.t 7), none⟩]) (.seq (.seq (.reg false [⟨(some 4), .mv (.c (.int .i64 0)), none⟩]) (.block 0 (.loop K_laws_toBlockS_0 L_laws_toBlockS_0))) (.seq (.reg false [⟨(some 22), .mv (.t 3), none⟩,
  ⟨(some 2), .mv (.t 22), none⟩]) (.ret))))
def A_laws_toBlockS : AFun := ⟨C_laws_toBlockS, 23, [.tmp 2]⟩
def K_laws_eqByteS_0 : List Bool := [true, true, false, false, false, true, false, false, false, false, false, false, false, false, false, false, false, false, false, false, false, false, false, false, false, false]
def B_laws_eqByteS_0 : ACode := .seq (.seq (.reg false [⟨(some 11), .mv (.t 5), none⟩,
  ⟨(some 12), .mv (.t 0), none⟩,
  ⟨(some 13), .len (.t 12), none⟩,
  ⟨(some 14), .bin .lss (.t 11) (.t 13), none⟩]) (.cond (.t 14) (.skip) (.exit 0))) (.seq (.block 1 (.seq (.reg true [⟨(some 17), .mv (.t 0), none⟩,
  ⟨(some 18), .mv (.t 5), none⟩,
  ⟨(some 19), .ia 1 (.t 17) (.t 18), none⟩,
  ⟨(some 20), .load1 (.t 19), none⟩,
  ⟨(some 21), .mv (.t 1), none⟩,
  ⟨(some 22), .mv (.t 5), none⟩,
  ⟨(some 23), .ia 1 (.t 21) (.t 22), none⟩,
  ⟨(some 24), .load1 (.t 23), none⟩,
  ⟨(some 25), .bin .neq (.t 20) (.t 24), none⟩]) (.cond (.t 25) (.seq (.reg false [⟨(some 4), .mv (.c (.bool false)), none⟩]) (.ret)) (.skip)))) (.reg false [⟨(some 15), .mv (.t 5), none⟩,
  ⟨(some 16), .bin .add (.t 15) (.c (.int .i64 1)), none⟩,
  ⟨(some 5), .mv (.t 16), none⟩]))
def L_laws_eqByteS_0 : ACode := B_laws_eqByteS_0
def C_laws_eqByteS : ACode := .seq (.reg false [⟨(some 4), .mv (.c (.bool false)), none⟩]) (.seq (.seq (.reg false [⟨(some 6), .mv (.t 0), none⟩,
  ⟨(some 7), .len (.t 6), none⟩,
  ⟨(some 8), .mv (.t 1), none⟩,
  ⟨(some 9), .len (.t 8), none⟩,
  ⟨(some 10), .bin .neq (.t 7) (.t 9), none⟩]) (.cond (.t 10) (.seq (.reg false [⟨(some 4), .mv (.c (.bool false)), none⟩]) (.ret)) (.skip))) (.seq (.seq (.reg false [⟨(some 5), .mv (.c (.int .i64 0)), none⟩]) (.block 0 (.loop K_laws_eqByteS_0 L_laws_eqByteS_0))) (.seq (.reg false [⟨(some 4), .mv (.c (.bool true)), none⟩]) (.ret))))
def A_laws_eqByteS : AFun := ⟨C_laws_eqByteS, 26, [.tmp 4]⟩
def C_laws_eqBlock : ACode := .seq (.reg false [⟨(some 2), .box (.t 0), none⟩,
  ⟨(some 3), .box (.t 1), none⟩,
  ⟨(some 4), .mv (.c (.bool false)), none⟩]) (.seq (.seq (.reg false [⟨(some 5), .fa 0 (.t 2), none⟩,
  ⟨(some 6), .load1 (.t 5), none⟩,
  ⟨(some 7), .fa 0 (.t 3), none⟩,
  ⟨(some 8), .load1 (.t 7), none⟩,
  ⟨(some 9), .bin .neq (.t 6) (.t 8), none⟩]) (.cond (.t 9) (.seq (.reg false [⟨(some 4), .mv (.c (.bool false)), none⟩]) (.ret)) (.skip))) (.seq (.seq (.reg false [⟨(some 10), .fa 1 (.t 2), none⟩,
  ⟨(some 11), .load1 (.t 10), none⟩,
  ⟨(some 12), .fa 1 (.t 3), none⟩,
  ⟨(some 13), .load1 (.t 12), none⟩,
  ⟨(some 14), .bin .neq (.t 11) (.t 13), none⟩]) (.cond (.t 14) (.seq (.reg false [⟨(some 4), .mv (.c (.bool false)), none⟩]) (.ret)) (.skip))) (.seq (.seq (.reg false [⟨(some 15), .fa 2 (.t 2), none⟩,
  ⟨(some 16), .load1 (.t 15), none⟩,
  ⟨(some 17), .fa 2 (.t 3), none⟩,
  ⟨(some 18), .load1 (.t 17), none⟩,
  ⟨(some 19), .call F_laws_eqByteS [(.t 16), (.t 18)], none⟩,
  ⟨(some 20), .not (.t 19), none⟩]) (.cond (.t 20) (.seq (.reg false [⟨(some 4), .mv (.c (.bool false)), none⟩]) (.ret)) (.skip))) (.seq (.reg false [⟨(some 4), .mv (.c (.bool true)), none⟩]) (.ret)))))
def A_laws_eqBlock : AFun := ⟨C_laws_eqBlock, 21, [.tmp 4]⟩
def K_laws_eqBlockS_0 : List Bool := [true, true, false, false, false, true, false, false, false, false, false, false, false, false, false, false, false, false, false, false, false, false, false, false, false, false, false]
def B_laws_eqBlockS_0 : ACode := .seq (.seq (.reg false [⟨(some 11), .mv (.t 5), none⟩,
  ⟨(some 12), .mv (.t 0), none⟩,
  ⟨(some 13), .len (.t 12), none⟩,
  ⟨(some 14), .bin .lss (.t 11) (.t 13), none⟩]) (.cond (.t 14) (.skip) (.exit 0))) (.seq (.block 1 (.seq (.reg true [⟨(some 17), .mv (.t 0), none⟩,
  ⟨(some 18), .mv (.t 5), none⟩,
  ⟨(some 19), .ia 3 (.t 17) (.t 18), none⟩,
  ⟨(some 20), .loadn 3 (.t 19), none⟩,
  ⟨(some 21), .mv (.t 1), none⟩,
  ⟨(some 22), .mv (.t 5), none⟩,
  ⟨(some 23), .ia 3 (.t 21) (.t 22), none⟩,
  ⟨(some 24), .loadn 3 (.t 23), none⟩,
  ⟨(some 25), .call F_laws_eqBlock [(.t 20), (.t 24)], none⟩,
  ⟨(some 26), .not (.t 25), none⟩]) (.cond (.t 26) (.seq (.reg false [⟨(some 4), .mv (.c (.bool false)), none⟩]) (.ret)) (.skip)))) (.reg false [⟨(some 15), .mv (.t 5), none⟩,
  ⟨(some 16), .bin .add (.t 15) (.c (.int .i64 1)), none⟩,
  ⟨(some 5), .mv (.t 16), none⟩]))
def L_laws_eqBlockS_0 : ACode := B_laws_eqBlockS_0
def C_laws_eqBlockS : ACode := .seq (.reg false [⟨(some 4), .mv (.c (.bool false)), none⟩]) (.seq (.seq (.reg false [⟨(some 6), .mv (.t 0), none⟩,
  ⟨(some 7), .len (.t 6), none⟩,
  ⟨(some 8), .mv (.t 1), none⟩,
  ⟨(some 9), .len (.t 8), none⟩,
  ⟨(some 10), .bin .neq (.t 7) (.t 9), none⟩]) (.cond (.t 10) (.seq (.reg false [⟨(some 4), .mv (.c (.bool false)), none⟩]) (.ret)) (.skip))) (.seq (.seq (.reg false [⟨(some 5), .mv (.c (.int .i64 0)), none⟩]) (.block 0 (.loop K_laws_eqBlockS_0 L_laws_eqBlockS_0))) (.seq (.reg false [⟨(some 4), .mv (.c (.bool true)), none⟩]) (.ret))))
def A_laws_eqBlockS : AFun := ⟨C_laws_eqBlockS, 27, [.tmp 4]⟩
def K_laws_markByteS_0 : List Bool := [true, true, false, false, false, true, false, false, false, false, false, false, false, false, false, false, false, false, false, false]
def B_laws_markByteS_0 : ACode := .seq (.seq (.reg false [⟨(some 6), .mv (.t 5), none⟩,
  ⟨(some 7), .mv (.t 0), none⟩,
  ⟨(some 8), .len (.t 7), none⟩,
  ⟨(some 9), .bin .lss (.t 6) (.t 8), none⟩]) (.cond (.t 9) (.skip) (.exit 0))) (.seq (.block 1 (.seq (.reg false [⟨(some 12), .mv (.t 0), none⟩,
  ⟨(some 13), .mv (.t 5), none⟩,
  ⟨(some 14), .mv (.t 1), none⟩,
  ⟨(some 15), .conv .u8 (.t 14), none⟩,
  ⟨(some 16), .ia 1 (.t 12) (.t 13), none⟩,
  ⟨none, .store 1 (.t 16) (.t 15), none⟩]) (.reg false [⟨(some 17), .mv (.t 1), none⟩,
  ⟨(some 18), .bin .add (.t 17) (.c (.int .i64 1)), none⟩,
  ⟨(some 1), .mv (.t 18), none⟩]))) (.reg false [⟨(some 10), .mv (.t 5), none⟩,
  ⟨(some 11), .bin .add (.t 10) (.c (.int .i64 1)), none⟩,
  ⟨(some 5), .mv (.t 11), none⟩]))
def L_laws_markByteS_0 : ACode := B_laws_markByteS_0
def C_laws_markByteS : ACode := .seq (.reg false [⟨(some 4), .mv (.c (.int .i64 0)), none⟩]) (.seq (.seq (.reg false [⟨(some 5), .mv (.c (.int .i64 0)), none⟩]) (.block 0 (.loop K_laws_markByteS_0 L_laws_markByteS_0))) (.seq (.reg false [⟨(some 19), .mv (.t 1), none⟩,
  ⟨(some 4), .mv (.t 19), none⟩]) (.ret)))
def A_laws_markByteS : AFun := ⟨C_laws_markByteS, 20, [.tmp 4]⟩
def K_laws_markBlockS_0 : List Bool := [true, true, false, false, false, true, false, false, false, false, false, false, false, false, false, false, false, false, false, false, false, false, false, false, false, false, false, false, false, false, false, false, false, false]
def B_laws_markBlockS_0 : ACode := .seq (.seq (.reg false [⟨(some 6), .mv (.t 5), none⟩,
  ⟨(some 7), .mv (.t 0), none⟩,
  ⟨(some 8), .len (.t 7), none⟩,
  ⟨(some 9), .bin .lss (.t 6) (.t 8), none⟩]) (.cond (.t 9) (.skip) (.exit 0))) (.seq (.block 1 (.seq (.reg false [⟨(some 12), .mv (.t 0), none⟩,
  ⟨(some 13), .mv (.t 5), none⟩,
  ⟨(some 14), .mv (.t 1), none⟩,
  ⟨(some 15), .ia 3 (.t 12) (.t 13), none⟩,
  ⟨(some 16), .fa 0 (.t 15), none⟩,
  ⟨none, .store 1 (.t 16) (.t 14), none⟩]) (.seq (.reg false [⟨(some 17), .mv (.t 1), none⟩,
  ⟨(some 18), .bin .add (.t 17) (.c (.int .i64 1)), none⟩,
  ⟨(some 1), .mv (.t 18), none⟩]) (.seq (.reg false [⟨(some 19), .mv (.t 0), none⟩,
  ⟨(some 20), .mv (.t 5), none⟩,
  ⟨(some 21), .mv (.t 1), none⟩,
  ⟨(some 22), .ia 3 (.t 19) (.t 20), none⟩,
  ⟨(some 23), .fa 1 (.t 22), none⟩,
  ⟨none, .store 1 (.t 23) (.t 21), none⟩]) (.seq (.reg false [⟨(some 24), .mv (.t 1), none⟩,
  ⟨(some 25), .bin .add (.t 24) (.c (.int .i64 1)), none⟩,
  ⟨(some 1), .mv (.t 25), none⟩]) (.reg false [⟨(some 26), .mv (.t 0), none⟩,
  ⟨(some 27), .mv (.t 5), none⟩,
  ⟨(some 28), .ia 3 (.t 26) (.t 27), none⟩,
  ⟨(some 29), .fa 2 (.t 28), none⟩,
  ⟨(some 30), .load1 (.t 29), none⟩,
  ⟨(some 31), .mv (.t 1), none⟩,
  ⟨(some 32), .call F_laws_markByteS [(.t 30), (.t 31)], none⟩,
  ⟨(some 1), .mv (.t 32), none⟩])))))) (.reg false [⟨(some 10), .mv (.t 5), none⟩,
  ⟨(some 11), .bin .add (.t 10) (.c (.int .i64 1)), none⟩,
  ⟨(some 5), .mv (.t 11), none⟩]))
def L_laws_markBlockS_0 : ACode := B_laws_markBlockS_0
def C_laws_markBlockS : ACode := .seq (.reg false [⟨(some 4), .mv (.c (.int .i64 0)), none⟩]) (.seq (.seq (.reg false [⟨(some 5), .mv (.c (.int .i64 0)), none⟩]) (.block 0 (.loop K_laws_markBlockS_0 L_laws_markBlockS_0))) (.seq (.reg false [⟨(some 33), .mv (.t 1), none⟩,
  ⟨(some 4), .mv (.t 33), none⟩]) (.ret)))
def A_laws_markBlockS : AFun := ⟨C_laws_markBlockS, 34, [.tmp 4]⟩
def C_spec_l11Log : ACode := .seq (.reg false [⟨(some 2), .mv (.c (.bool false)), none⟩]) (.seq (.reg false [⟨(some 3), .mv (.t 0), none⟩,
  ⟨(some 4), .bin .geq (.t 3) (.c (.int .i64 0)), none⟩,
  ⟨(some 5), .mv (.t 4), none⟩,
  ⟨(some 6), .mv (.t 0), (some (5, true))⟩,
  ⟨(some 7), .bin .leq (.t 6) (.c (.int .i64 6)), (some (5, true))⟩,
  ⟨(some 8), .pick (.t 5) (.t 7) (.c (.bool false)), none⟩,
  ⟨(some 2), .mv (.t 8), none⟩]) (.ret))
def A_spec_l11Log : AFun := ⟨C_spec_l11Log, 9, [.tmp 2]⟩
def K_spec_l02Pow_0 : List Bool := [true, false, false, true, false, false, false, false, false, false, false]
def B_spec_l02Pow_0 : ACode := .seq (.seq (.reg false [⟨(some 4), .mv (.t 0), none⟩,
  ⟨(some 5), .bin .gtr (.t 4) (.c (.int .i64 0)), none⟩]) (.cond (.t 5) (.skip) (.exit 0))) (.seq (.block 1 (.reg false [⟨(some 8), .mv (.t 3), none⟩,
  ⟨(some 9), .bin .mul (.c (.int .i64 2)) (.t 8), none⟩,
  ⟨(some 3), .mv (.t 9), none⟩])) (.reg false [⟨(some 6), .mv (.t 0), none⟩,
  ⟨(some 7), .bin .sub (.t 6) (.c (.int .i64 1)), none⟩,
  ⟨(some 0), .mv (.t 7), none⟩]))
def L_spec_l02Pow_0 : ACode := B_spec_l02Pow_0
def C_spec_l02Pow : ACode := .seq (.reg false [⟨(some 2), .mv (.c (.int .i64 0)), none⟩]) (.seq (.reg false [⟨(some 3), .mv (.c (.int .i64 1)), none⟩]) (.seq (.block 0 (.loop K_spec_l02Pow_0 L_spec_l02Pow_0)) (.seq (.reg false [⟨(some 10), .mv (.t 3), none⟩,
  ⟨(some 2), .mv (.t 10), none⟩]) (.ret))))
def A_spec_l02Pow : AFun := ⟨C_spec_l02Pow, 11, [.tmp 2]⟩
def C_spec_l11Leaf : ACode := .seq (.reg false [⟨(some 4), .mv (.c (.bool false)), none⟩]) (.seq (.reg false [⟨(some 5), .mv (.t 0), none⟩,
  ⟨(some 6), .call F_spec_l11Log [(.t 5)], none⟩,
  ⟨(some 7), .mv (.t 6), none⟩,
  ⟨(some 8), .mv (.t 1), (some (7, true))⟩,
  ⟨(some 9), .bin .geq (.t 8) (.c (.int .i64 0)), (some (7, true))⟩,
  ⟨(some 10), .pick (.t 7) (.t 9) (.c (.bool false)), none⟩,
  ⟨(some 11), .mv (.t 10), none⟩,
  ⟨(some 12), .mv (.t 1), (some (11, true))⟩,
  ⟨(some 13), .mv (.t 0), (some (11, true))⟩,
  ⟨(some 14), .call F_spec_l02Pow [(.t 13)], (some (11, true))⟩,
  ⟨(some 15), .bin .lss (.t 12) (.t 14), (some (11, true))⟩,
  ⟨(some 16), .pick (.t 11) (.t 15) (.c (.bool false)), none⟩,
  ⟨(some 4), .mv (.t 16), none⟩]) (.ret))
def A_spec_l11Leaf : AFun := ⟨C_spec_l11Leaf, 17, [.tmp 4]⟩
def C_spec_l12Frame : ACode := .seq (.reg false [⟨(some 4), .mv (.c (.bool false)), none⟩]) (.seq (.reg false [⟨(some 5), .mv (.t 0), none⟩,
  ⟨(some 6), .call F_spec_l11Log [(.t 5)], none⟩,
  ⟨(some 7), .mv (.t 6), none⟩,
  ⟨(some 8), .mv (.t 1), (some (7, true))⟩,
  ⟨(some 9), .bin .geq (.t 8) (.c (.int .i64 1)), (some (7, true))⟩,
  ⟨(some 10), .pick (.t 7) (.t 9) (.c (.bool false)), none⟩,
  ⟨(some 11), .mv (.t 10), none⟩,
  ⟨(some 12), .mv (.t 1), (some (11, true))⟩,
  ⟨(some 13), .bin .leq (.t 12) (.c (.int .i64 200)), (some (11, true))⟩,
  ⟨(some 14), .pick (.t 11) (.t 13) (.c (.bool false)), none⟩,
  ⟨(some 4), .mv (.t 14), none⟩]) (.ret))
def A_spec_l12Frame : AFun := ⟨C_spec_l12Frame, 15, [.tmp 4]⟩
def C_spec_BlockOk : ACode := .seq (.reg false [⟨(some 3), .box (.t 0), none⟩,
  ⟨(some 6), .mv (.c (.bool false)), none⟩]) (.seq (.reg false [⟨(some 7), .mv (.t 1), none⟩,
  ⟨(some 8), .mv (.t 2), none⟩,
  ⟨(some 9), .call F_spec_l12Frame [(.t 7), (.t 8)], none⟩,
  ⟨(some 10), .mv (.t 9), none⟩,
  ⟨(some 11), .fa 0 (.t 3), (some (10, true))⟩,
  ⟨(some 12), .load1 (.t 11), (some (10, true))⟩,
  ⟨(some 13), .bin .geq (.t 12) (.c (.int .i64 0)), (some (10, true))⟩,
  ⟨(some 14), .pick (.t 10) (.t 13) (.c (.bool false)), none⟩,
  ⟨(some 15), .mv (.t 14), none⟩,
  ⟨(some 16), .fa 0 (.t 3), (some (15, true))⟩,
  ⟨(some 17), .load1 (.t 16), (some (15, true))⟩,
  ⟨(some 18), .bin .leq (.t 17) (.c (.int .i64 255)), (some (15, true))⟩,
  ⟨(some 19), .pick (.t 15) (.t 18) (.c (.bool false)), none⟩,
  ⟨(some 20), .mv (.t 19), none⟩,
  ⟨(some 21), .mv (.t 1), (some (20, true))⟩,
  ⟨(some 22), .fa 1 (.t 3), (some (20, true))⟩,
  ⟨(some 23), .load1 (.t 22), (some (20, true))⟩,
  ⟨(some 24), .call F_spec_l11Leaf [(.t 21), (.t 23)], (some (20, true))⟩,
  ⟨(some 25), .pick (.t 20) (.t 24) (.c (.bool false)), none⟩,
  ⟨(some 26), .mv (.t 25), none⟩,
  ⟨(some 27), .fa 2 (.t 3), (some (26, true))⟩,
  ⟨(some 28), .load1 (.t 27), (some (26, true))⟩,
  ⟨(some 29), .len (.t 28), (some (26, true))⟩,
  ⟨(some 30), .mv (.t 2), (some (26, true))⟩,
  ⟨(some 31), .bin .eql (.t 29) (.t 30), (some (26, true))⟩,
  ⟨(some 32), .pick (.t 26) (.t 31) (.c (.bool false)), none⟩,
  ⟨(some 6), .mv (.t 32), none⟩]) (.ret))
def A_spec_BlockOk : AFun := ⟨C_spec_BlockOk, 33, [.tmp 6]⟩
def K_spec_BlocksOk_0 : List Bool := [true, true, true, false, false, false, false, true, false, false, false, false, false, false, false, false, false, false, false, false, false, false, false, false, false, false, false, false, false, false, false, false, false, false, false, false, false, false, false, false, false, false, false, false]
def B_spec_BlocksOk_0 : ACode := .seq (.seq (.reg false [⟨(some 12), .mv (.t 7), none⟩,
  ⟨(some 13), .mv (.t 0), none⟩,
  ⟨(some 14), .len (.t 13), none⟩,
  ⟨(some 15), .bin .lss (.t 12) (.t 14), none⟩]) (.cond (.t 15) (.skip) (.exit 0))) (.seq (.block 1 (.seq (.reg true [⟨(some 18), .mv (.t 0), none⟩,
  ⟨(some 19), .mv (.t 7), none⟩,
  ⟨(some 20), .ia 3 (.t 18) (.t 19), none⟩,
  ⟨(some 21), .loadn 3 (.t 20), none⟩,
  ⟨(some 22), .mv (.t 1), none⟩,
  ⟨(some 23), .mv (.t 2), none⟩,
  ⟨(some 24), .call F_spec_BlockOk [(.t 21), (.t 22), (.t 23)], none⟩,
  ⟨(some 25), .not (.t 24), none⟩,
  ⟨(some 26), .mv (.t 25), none⟩,
  ⟨(some 27), .mv (.t 7), (some (26, false))⟩,
  ⟨(some 28), .bin .gtr (.t 27) (.c (.int .i64 0)), (some (26, false))⟩,
  ⟨(some 29), .mv (.t 28), (some (26, false))⟩,
  ⟨(some 30), .mv (.t 0), (some (29, true))⟩,
  ⟨(some 31), .mv (.t 7), (some (29, true))⟩,
  ⟨(some 32), .bin .sub (.t 31) (.c (.int .i64 1)), (some (29, true))⟩,
  ⟨(some 33), .ia 3 (.t 30) (.t 32), (some (29, true))⟩,
  ⟨(some 34), .fa 0 (.t 33), (some (29, true))⟩,
  ⟨(some 35), .load1 (.t 34), (some (29, true))⟩,
  ⟨(some 36), .mv (.t 0), (some (29, true))⟩,
  ⟨(some 37), .mv (.t 7), (some (29, true))⟩,
  ⟨(some 38), .ia 3 (.t 36) (.t 37), (some (29, true))⟩,
  ⟨(some 39), .fa 0 (.t 38), (some (29, true))⟩,
  ⟨(some 40), .load1 (.t 39), (some (29, true))⟩,
  ⟨(some 41), .bin .geq (.t 35) (.t 40), (some (29, true))⟩,
  ⟨(some 42), .pick (.t 29) (.t 41) (.c (.bool false)), (some (26, false))⟩,
  ⟨(some 43), .pick (.t 26) (.c (.bool true)) (.t 42), none⟩]) (.cond (.t 43) (.seq (.reg false [⟨(some 6), .mv (.c (.bool false)), none⟩]) (.ret)) (.skip)))) (.reg false [⟨(some 16), .mv (.t 7), none⟩,
  ⟨(some 17), .bin .add (.t 16) (.c (.int .i64 1)), none⟩,
  ⟨(some 7), .mv (.t 17), none⟩]))
def L_spec_BlocksOk_0 : ACode := B_spec_BlocksOk_0
def C_spec_BlocksOk : ACode := .seq (.reg false [⟨(some 6), .mv (.c (.bool false)), none⟩]) (.seq (.seq (.reg false [⟨(some 8), .mv (.t 1), none⟩,
  ⟨(some 9), .mv (.t 2), none⟩,
  ⟨(some 10), .call F_spec_l12Frame [(.t 8), (.t 9)], none⟩,
  ⟨(some 11), .not (.t 10), none⟩]) (.cond (.t 11) (.seq (.reg false [⟨(some 6), .mv (.c (.bool false)), none⟩]) (.ret)) (.skip))) (.seq (.seq (.reg false [⟨(some 7), .mv (.c (.int .i64 0)), none⟩]) (.block 0 (.loop K_spec_BlocksOk_0 L_spec_BlocksOk_0))) (.seq (.reg false [⟨(some 6), .mv (.c (.bool true)), none⟩]) (.ret))))
def A_spec_BlocksOk : AFun := ⟨C_spec_BlocksOk, 44, [.tmp 6]⟩
def C_spec_StashOk : ACode := .seq (.reg false [⟨(some 6), .mv (.c (.bool false)), none⟩]) (.seq (.reg false [⟨(some 7), .mv (.t 0), none⟩,
  ⟨(some 8), .len (.t 7), none⟩,
  ⟨(some 9), .bin .leq (.t 8) (.c (.int .i64 128)), none⟩,
  ⟨(some 10), .mv (.t 9), none⟩,
  ⟨(some 11), .mv (.t 0), (some (10, true))⟩,
  ⟨(some 12), .mv (.t 1), (some (10, true))⟩,
  ⟨(some 13), .mv (.t 2), (some (10, true))⟩,
  ⟨(some 14), .call F_spec_BlocksOk [(.t 11), (.t 12), (.t 13)], (some (10, true))⟩,
  ⟨(some 15), .pick (.t 10) (.t 14) (.c (.bool false)), none⟩,
  ⟨(some 6), .mv (.t 15), none⟩]) (.ret))
def A_spec_StashOk : AFun := ⟨C_spec_StashOk, 16, [.tmp 6]⟩
def K_spec_l13Copy_0 : List Bool := [true, false, false, true, true, false, false, false, false, false, false, false, false, false, false, false, false, false, false, false, false, false, false, false, false, false, false, false, false, false, false, false, false, false]
def B_spec_l13Copy_0 : ACode := .seq (.seq (.reg false [⟨(some 6), .mv (.t 4), none⟩,
  ⟨(some 7), .mv (.t 0), none⟩,
  ⟨(some 8), .len (.t 7), none⟩,
  ⟨(some 9), .bin .lss (.t 6) (.t 8), none⟩]) (.cond (.t 9) (.skip) (.exit 0))) (.seq (.block 1 (.reg true [⟨(some 12), .mv (.t 3), none⟩,
  ⟨(some 13), .mv (.t 0), none⟩,
  ⟨(some 14), .mv (.t 4), none⟩,
  ⟨(some 15), .ia 3 (.t 13) (.t 14), none⟩,
  ⟨(some 16), .fa 0 (.t 15), none⟩,
  ⟨(some 17), .load1 (.t 16), none⟩,
  ⟨(some 18), .mv (.t 0), none⟩,
  ⟨(some 19), .mv (.t 4), none⟩,
  ⟨(some 20), .ia 3 (.t 18) (.t 19), none⟩,
  ⟨(some 21), .fa 1 (.t 20), none⟩,
  ⟨(some 22), .load1 (.t 21), none⟩,
  ⟨(some 23), .mkl 1 0 [] [], none⟩,
  ⟨(some 24), .mv (.t 0), none⟩,
  ⟨(some 25), .mv (.t 4), none⟩,
  ⟨(some 26), .ia 3 (.t 24) (.t 25), none⟩,
  ⟨(some 27), .fa 2 (.t 26), none⟩,
  ⟨(some 28), .load1 (.t 27), none⟩,
  ⟨(some 29), .app 1 1 (.t 23) (.t 28), none⟩,
  ⟨(some 30), .build [(.int .i64 0), (.int .i64 0), (.slice none 0 0)] [(0, 1, (.t 17)), (1, 1, (.t 22)), (2, 1, (.t 29))], none⟩,
  ⟨(some 31), .mkl 3 1 [(.int .i64 0), (.int .i64 0), (.slice none 0 0)] [(0, 3, (.t 30))], none⟩,
  ⟨(some 32), .app 3 40 (.t 12) (.t 31), none⟩,
  ⟨(some 3), .mv (.t 32), none⟩])) (.reg false [⟨(some 10), .mv (.t 4), none⟩,
  ⟨(some 11), .bin .add (.t 10) (.c (.int .i64 1)), none⟩,
  ⟨(some 4), .mv (.t 11), none⟩]))
def L_spec_l13Copy_0 : ACode := B_spec_l13Copy_0
def C_spec_l13Copy : ACode := .seq (.reg false [⟨(some 2), .mv (.c (.slice none 0 0)), none⟩]) (.seq (.reg false [⟨(some 5), .mkl 3 0 [] [], none⟩,
  ⟨(some 3), .mv (.t 5), none⟩]) (.seq (.seq (.reg false [⟨(some 4), .mv (.c (.int .i64 0)), none⟩]) (.block 0 (.loop K_spec_l13Copy_0 L_spec_l13Copy_0))) (.seq (.reg false [⟨(some 33), .mv (.t 3), none⟩,
  ⟨(some 2), .mv (.t 33), none⟩]) (.ret))))
def A_spec_l13Copy : AFun := ⟨C_spec_l13Copy, 34, [.tmp 2]⟩
def K_spec_StashFind_0 : List Bool := [true, true, false, false, true, false, true, false, false, false, false, false, false, false, false, false, false, false, false, false, false, false, false, false, false, false, false, false, false, false, false, false, false, false]
def B_spec_StashFind_0 : ACode := .seq (.seq (.reg false [⟨(some 7), .mv (.t 6), none⟩,
  ⟨(some 8), .mv (.t 0), none⟩,
  ⟨(some 9), .len (.t 8), none⟩,
  ⟨(some 10), .bin .lss (.t 7) (.t 9), none⟩,
  ⟨(some 11), .mv (.t 10), none⟩,
  ⟨(some 12), .mv (.t 0), (some (11, true))⟩,
  ⟨(some 13), .len (.t 12), (some (11, true))⟩,
  ⟨(some 14), .bin .leq (.t 13) (.c (.int .i64 128)), (some (11, true))⟩,
  ⟨(some 15), .pick (.t 11) (.t 14) (.c (.bool false)), none⟩]) (.cond (.t 15) (.skip) (.exit 0))) (.seq (.block 1 (.seq (.reg false [⟨(some 18), .mv (.t 0), none⟩,
  ⟨(some 19), .mv (.t 6), none⟩,
  ⟨(some 20), .ia 3 (.t 18) (.t 19), none⟩,
  ⟨(some 21), .fa 0 (.t 20), none⟩,
  ⟨(some 22), .load1 (.t 21), none⟩,
  ⟨(some 23), .mv (.t 1), none⟩,
  ⟨(some 24), .bin .eql (.t 22) (.t 23), none⟩]) (.cond (.t 24) (.seq (.reg false [⟨(some 25), .mv (.t 0), none⟩,
  ⟨(some 26), .mv (.t 6), none⟩,
  ⟨(some 27), .mv (.t 6), none⟩,
  ⟨(some 28), .bin .add (.t 27) (.c (.int .i64 1)), none⟩,
  ⟨(some 29), .slc 3 (.t 25) (some (.t 26)) (some (.t 28)), none⟩,
  ⟨(some 30), .call F_spec_l13Copy [(.t 29)], none⟩,
  ⟨(some 31), .ia 3 (.t 30) (.c (.int .i64 0)), none⟩,
  ⟨(some 32), .loadn 3 (.t 31), none⟩,
  ⟨none, .store 3 (.t 4) (.t 32), none⟩,
  ⟨(some 5), .mv (.c (.bool true)), none⟩]) (.ret)) (.skip)))) (.reg false [⟨(some 16), .mv (.t 6), none⟩,
  ⟨(some 17), .bin .add (.t 16) (.c (.int .i64 1)), none⟩,
  ⟨(some 6), .mv (.t 17), none⟩]))
def L_spec_StashFind_0 : ACode := B_spec_StashFind_0
def C_spec_StashFind : ACode := .seq (.reg false [⟨(some 4), .new [(.int .i64 0), (.int .i64 0), (.slice none 0 0)], none⟩,
  ⟨(some 5), .mv (.c (.bool false)), none⟩]) (.seq (.seq (.reg false [⟨(some 6), .mv (.c (.int .i64 0)), none⟩]) (.block 0 (.loop K_spec_StashFind_0 L_spec_StashFind_0))) (.seq (.reg false [⟨(some 33), .build [(.int .i64 0), (.int .i64 0), (.slice none 0 0)] [], none⟩,
  ⟨none, .store 3 (.t 4) (.t 33), none⟩,
  ⟨(some 5), .mv (.c (.bool false)), none⟩]) (.ret)))
def A_spec_StashFind : AFun := ⟨C_spec_StashFind, 34, [.celln 4 3, .tmp 5]⟩
def K_spec_PathNodes_0 : List Bool := [false, false, false, false, false, true, true, false, false, false, false, false, false, false, false, false, false, false, false, false, false, false, false, false, false]
def B_spec_PathNodes_0 : ACode := .seq (.seq (.reg false [⟨(some 16), .mv (.t 6), none⟩,
  ⟨(some 17), .bin .geq (.t 16) (.c (.int .i64 1)), none⟩]) (.cond (.t 17) (.skip) (.exit 0))) (.seq (.block 1 (.reg false [⟨(some 20), .mv (.t 6), none⟩,
  ⟨(some 21), .mkl 1 1 [(.int .i64 0)] [(0, 1, (.t 20))], none⟩,
  ⟨(some 22), .mv (.t 5), none⟩,
  ⟨(some 23), .app 1 8 (.t 21) (.t 22), none⟩,
  ⟨(some 5), .mv (.t 23), none⟩])) (.reg false [⟨(some 18), .mv (.t 6), none⟩,
  ⟨(some 19), .bin .quo (.t 18) (.c (.int .i64 2)), none⟩,
  ⟨(some 6), .mv (.t 19), none⟩]))
def L_spec_PathNodes_0 : ACode := B_spec_PathNodes_0
def C_spec_PathNodes : ACode := .seq (.reg false [⟨(some 4), .mv (.c (.slice none 0 0)), none⟩]) (.seq (.seq (.reg false [⟨(some 7), .mv (.t 0), none⟩,
  ⟨(some 8), .mv (.t 1), none⟩,
  ⟨(some 9), .call F_spec_l11Leaf [(.t 7), (.t 8)], none⟩,
  ⟨(some 10), .not (.t 9), none⟩]) (.cond (.t 10) (.seq (.reg false [⟨(some 4), .mv (.c (.slice none 0 0)), none⟩]) (.ret)) (.skip))) (.seq (.reg false [⟨(some 11), .mkl 1 0 [] [], none⟩,
  ⟨(some 5), .mv (.t 11), none⟩]) (.seq (.seq (.reg false [⟨(some 12), .mv (.t 0), none⟩,
  ⟨(some 13), .call F_spec_l02Pow [(.t 12)], none⟩,
  ⟨(some 14), .mv (.t 1), none⟩,
  ⟨(some 15), .bin .add (.t 13) (.t 14), none⟩,
  ⟨(some 6), .mv (.t 15), none⟩]) (.block 0 (.loop K_spec_PathNodes_0 L_spec_PathNodes_0))) (.seq (.reg false [⟨(some 24), .mv (.t 5), none⟩,
  ⟨(some 4), .mv (.t 24), none⟩]) (.ret)))))
def A_spec_PathNodes : AFun := ⟨C_spec_PathNodes, 25, [.tmp 4]⟩
def K_spec_Meet_0 : List Bool := [false, false, false, false, false, false, false, true, true, true, true, false, false, false, false, false, false, false, false, false, false, false, false, false, false, false, false, false, false, false, false, false, false, false, false, false, false, false, false, false, false, false, false, false]
def B_spec_Meet_0 : ACode := .seq (.seq (.reg false [⟨(some 27), .mv (.t 10), none⟩,
  ⟨(some 28), .mv (.t 7), none⟩,
  ⟨(some 29), .len (.t 28), none⟩,
  ⟨(some 30), .bin .lss (.t 27) (.t 29), none⟩]) (.cond (.t 30) (.skip) (.exit 0))) (.seq (.block 1 (.seq (.reg true [⟨(some 33), .mv (.t 7), none⟩,
  ⟨(some 34), .mv (.t 10), none⟩,
  ⟨(some 35), .ia 1 (.t 33) (.t 34), none⟩,
  ⟨(some 36), .load1 (.t 35), none⟩,
  ⟨(some 37), .mv (.t 8), none⟩,
  ⟨(some 38), .mv (.t 10), none⟩,
  ⟨(some 39), .ia 1 (.t 37) (.t 38), none⟩,
  ⟨(some 40), .load1 (.t 39), none⟩,
  ⟨(some 41), .bin .eql (.t 36) (.t 40), none⟩]) (.cond (.t 41) (.reg false [⟨(some 42), .mv (.t 10), none⟩,
  ⟨(some 9), .mv (.t 42), none⟩]) (.skip)))) (.reg false [⟨(some 31), .mv (.t 10), none⟩,
  ⟨(some 32), .bin .add (.t 31) (.c (.int .i64 1)), none⟩,
  ⟨(some 10), .mv (.t 32), none⟩]))
def L_spec_Meet_0 : ACode := B_spec_Meet_0
def C_spec_Meet : ACode := .seq (.reg false [⟨(some 6), .mv (.c (.int .i64 0)), none⟩]) (.seq (.seq (.reg false [⟨(some 11), .mv (.t 0), none⟩,
  ⟨(some 12), .mv (.t 1), none⟩,
  ⟨(some 13), .call F_spec_l11Leaf [(.t 11), (.t 12)], none⟩,
  ⟨(some 14), .not (.t 13), none⟩,
  ⟨(some 15), .mv (.t 14), none⟩,
  ⟨(some 16), .mv (.t 0), (some (15, false))⟩,
  ⟨(some 17), .mv (.t 2), (some (15, false))⟩,
  ⟨(some 18), .call F_spec_l11Leaf [(.t 16), (.t 17)], (some (15, false))⟩,
  ⟨(some 19), .not (.t 18), (some (15, false))⟩,
  ⟨(some 20), .pick (.t 15) (.c (.bool true)) (.t 19), none⟩]) (.cond (.t 20) (.seq (.reg false [⟨(some 6), .mv (.c (.int .i64 (-1))), none⟩]) (.ret)) (.skip))) (.seq (.reg false [⟨(some 21), .mv (.t 0), none⟩,
  ⟨(some 22), .mv (.t 1), none⟩,
  ⟨(some 23), .call F_spec_PathNodes [(.t 21), (.t 22)], none⟩,
  ⟨(some 7), .mv (.t 23), none⟩]) (.seq (.reg false [⟨(some 24), .mv (.t 0), none⟩,
  ⟨(some 25), .mv (.t 2), none⟩,
  ⟨(some 26), .call F_spec_PathNodes [(.t 24), (.t 25)], none⟩,
  ⟨(some 8), .mv (.t 26), none⟩]) (.seq (.reg false [⟨(some 9), .mv (.c (.int .i64 0)), none⟩]) (.seq (.seq (.reg false [⟨(some 10), .mv (.c (.int .i64 0)), none⟩]) (.block 0 (.loop K_spec_Meet_0 L_spec_Meet_0))) (.seq (.reg false [⟨(some 43), .mv (.t 9), none⟩,
  ⟨(some 6), .mv (.t 43), none⟩]) (.ret)))))))
def A_spec_Meet : AFun := ⟨C_spec_Meet, 44, [.tmp 6]⟩
def K_spec_l13Without_0 : List Bool := [true, true, false, false, false, true, true, false, false, false, false, false, false, false, false, false, false, false, false, false, false, false, false, false, false, false, false, false, false, false]
def B_spec_l13Without_0 : ACode := .seq (.seq (.reg false [⟨(some 8), .mv (.t 6), none⟩,
  ⟨(some 9), .mv (.t 0), none⟩,
  ⟨(some 10), .len (.t 9), none⟩,
  ⟨(some 11), .bin .lss (.t 8) (.t 10), none⟩]) (.cond (.t 11) (.skip) (.exit 0))) (.seq (.block 1 (.seq (.reg false [⟨(some 14), .mv (.t 0), none⟩,
  ⟨(some 15), .mv (.t 6), none⟩,
  ⟨(some 16), .ia 3 (.t 14) (.t 15), none⟩,
  ⟨(some 17), .fa 0 (.t 16), none⟩,
  ⟨(some 18), .load1 (.t 17), none⟩,
  ⟨(some 19), .mv (.t 1), none⟩,
  ⟨(some 20), .bin .neq (.t 18) (.t 19), none⟩]) (.cond (.t 20) (.reg false [⟨(some 21), .mv (.t 5), none⟩,
  ⟨(some 22), .mv (.t 0), none⟩,
  ⟨(some 23), .mv (.t 6), none⟩,
  ⟨(some 24), .ia 3 (.t 22) (.t 23), none⟩,
  ⟨(some 25), .loadn 3 (.t 24), none⟩,
  ⟨(some 26), .mkl 3 1 [(.int .i64 0), (.int .i64 0), (.slice none 0 0)] [(0, 3, (.t 25))], none⟩,
  ⟨(some 27), .app 3 40 (.t 21) (.t 26), none⟩,
  ⟨(some 5), .mv (.t 27), none⟩]) (.skip)))) (.reg false [⟨(some 12), .mv (.t 6), none⟩,
  ⟨(some 13), .bin .add (.t 12) (.c (.int .i64 1)), none⟩,
  ⟨(some 6), .mv (.t 13), none⟩]))
def L_spec_l13Without_0 : ACode := B_spec_l13Without_0
def C_spec_l13Without : ACode := .seq (.reg false [⟨(some 4), .mv (.c (.slice none 0 0)), none⟩]) (.seq (.reg false [⟨(some 7), .mkl 3 0 [] [], none⟩,
  ⟨(some 5), .mv (.t 7), none⟩]) (.seq (.seq (.reg false [⟨(some 6), .mv (.c (.int .i64 0)), none⟩]) (.block 0 (.loop K_spec_l13Without_0 L_spec_l13Without_0))) (.seq (.reg false [⟨(some 28), .mv (.t 5), none⟩,
  ⟨(some 29), .call F_spec_l13Copy [(.t 28)], none⟩,
  ⟨(some 4), .mv (.t 29), none⟩]) (.ret))))
def A_spec_l13Without : AFun := ⟨C_spec_l13Without, 30, [.tmp 4]⟩
def K_spec_EvictPlan_1 : List Bool := [true, true, false, true, false, false, false, false, false, true, true, true, true, true, false, false, false, false, false, false, false, false, false, false, false, false, false, false, false, false, false, false, false, false, false, false, false, false, false, false, false, false, false, false, false, false, false, false, false, false, false, false, false, false, false, false, false, false, false, false, false, false, false, false, false, false, false, false, false, false, false, false, false, false, false, false, false, false, false, false, false, false, false, false, false, false, false, false]
def B_spec_EvictPlan_1 : ACode := .seq (.seq (.reg false [⟨(some 35), .mv (.t 13), none⟩,
  ⟨(some 36), .mv (.t 0), none⟩,
  ⟨(some 37), .len (.t 36), none⟩,
  ⟨(some 38), .bin .lss (.t 35) (.t 37), none⟩]) (.cond (.t 38) (.skip) (.exit 2))) (.seq (.block 3 (.seq (.reg false [⟨(some 42), .mv (.t 10), none⟩,
  ⟨(some 43), .mv (.t 0), none⟩,
  ⟨(some 44), .mv (.t 13), none⟩,
  ⟨(some 45), .ia 3 (.t 43) (.t 44), none⟩,
  ⟨(some 46), .fa 0 (.t 45), none⟩,
  ⟨(some 47), .load1 (.t 46), none⟩,
  ⟨(some 48), .call F_spec_StashFind [(.t 42), (.t 47)], none⟩,
  ⟨(some 41), .mv (.t 48), none⟩,
  ⟨(some 49), .ext (.t 41) 0, none⟩,
  ⟨(some 50), .ext (.t 41) 1, none⟩,
  ⟨(some 14), .new [(.int .i64 0), (.int .i64 0), (.slice none 0 0)], none⟩,
  ⟨none, .store 3 (.t 14) (.t 49), none⟩,
  ⟨(some 15), .mv (.t 50), none⟩]) (.seq (.reg false [⟨(some 51), .mv (.t 15), none⟩,
  ⟨(some 52), .mv (.t 51), none⟩,
  ⟨(some 53), .mv (.t 12), (some (52, true))⟩,
  ⟨(some 54), .bin .lss (.t 53) (.c (.int .i64 4)), (some (52, true))⟩,
  ⟨(some 55), .pick (.t 52) (.t 54) (.c (.bool false)), none⟩,
  ⟨(some 56), .mv (.t 55), none⟩,
  ⟨(some 57), .mv (.t 1), (some (56, true))⟩,
  ⟨(some 58), .mv (.t 0), (some (56, true))⟩,
  ⟨(some 59), .mv (.t 13), (some (56, true))⟩,
  ⟨(some 60), .ia 3 (.t 58) (.t 59), (some (56, true))⟩,
  ⟨(some 61), .fa 1 (.t 60), (some (56, true))⟩,
  ⟨(some 62), .load1 (.t 61), (some (56, true))⟩,
  ⟨(some 63), .mv (.t 3), (some (56, true))⟩,
  ⟨(some 64), .call F_spec_Meet [(.t 57), (.t 62), (.t 63)], (some (56, true))⟩,
  ⟨(some 65), .mv (.t 11), (some (56, true))⟩,
  ⟨(some 66), .bin .geq (.t 64) (.t 65), (some (56, true))⟩,
  ⟨(some 67), .pick (.t 56) (.t 66) (.c (.bool false)), none⟩]) (.cond (.t 67) (.seq (.reg false [⟨(some 68), .mv (.t 9), none⟩,
  ⟨(some 69), .mv (.t 11), none⟩,
  ⟨(some 70), .mv (.t 0), none⟩,
  ⟨(some 71), .mv (.t 13), none⟩,
  ⟨(some 72), .ia 3 (.t 70) (.t 71), none⟩,
  ⟨(some 73), .fa 0 (.t 72), none⟩,
  ⟨(some 74), .load1 (.t 73), none⟩,
  ⟨(some 75), .build [(.int .i64 0), (.int .i64 0)] [(0, 1, (.t 69)), (1, 1, (.t 74))], none⟩,
  ⟨(some 76), .mkl 2 1 [(.int .i64 0), (.int .i64 0)] [(0, 2, (.t 75))], none⟩,
  ⟨(some 77), .app 2 16 (.t 68) (.t 76), none⟩,
  ⟨(some 9), .mv (.t 77), none⟩]) (.seq (.reg false [⟨(some 78), .mv (.t 10), none⟩,
  ⟨(some 79), .mv (.t 0), none⟩,
  ⟨(some 80), .mv (.t 13), none⟩,
  ⟨(some 81), .ia 3 (.t 79) (.t 80), none⟩,
  ⟨(some 82), .fa 0 (.t 81), none⟩,
  ⟨(some 83), .load1 (.t 82), none⟩,
  ⟨(some 84), .call F_spec_l13Without [(.t 78), (.t 83)], none⟩,
  ⟨(some 10), .mv (.t 84), none⟩]) (.reg false [⟨(some 85), .mv (.t 12), none⟩,
  ⟨(some 86), .bin .add (.t 85) (.c (.int .i64 1)), none⟩,
  ⟨(some 12), .mv (.t 86), none⟩]))) (.skip))))) (.reg false [⟨(some 39), .mv (.t 13), none⟩,
  ⟨(some 40), .bin .add (.t 39) (.c (.int .i64 1)), none⟩,
  ⟨(some 13), .mv (.t 40), none⟩]))
def L_spec_EvictPlan_1 : ACode := B_spec_EvictPlan_1
def K_spec_EvictPlan_0 : List Bool := [true, true, false, true, false, false, false, false, false, true, true, true, false, false, false, false, false, false, false, false, false, false, false, false, false, false, false, false, false, false, false, false, false, false, false, false, false, false, false, false, false, false, false, false, false, false, false, false, false, false, false, false, false, false, false, false, false, false, false, false, false, false, false, false, false, false, false, false, false, false, false, false, false, false, false, false, false, false, false, false, false, false, false, false, false, false, false, false]
def B_spec_EvictPlan_0 : ACode := .seq (.seq (.reg false [⟨(some 31), .mv (.t 11), none⟩,
  ⟨(some 32), .bin .geq (.t 31) (.c (.int .i64 0)), none⟩]) (.cond (.t 32) (.skip) (.exit 0))) (.seq (.block 1 (.seq (.reg false [⟨(some 12), .mv (.c (.int .i64 0)), none⟩]) (.seq (.reg false [⟨(some 13), .mv (.c (.int .i64 0)), none⟩]) (.block 2 (.loop K_spec_EvictPlan_1 L_spec_EvictPlan_1))))) (.reg false [⟨(some 33), .mv (.t 11), none⟩,
  ⟨(some 34), .bin .sub (.t 33) (.c (.int .i64 1)), none⟩,
  ⟨(some 11), .mv (.t 34), none⟩]))
def L_spec_EvictPlan_0 : ACode := B_spec_EvictPlan_0
def C_spec_EvictPlan : ACode := .seq (.reg false [⟨(some 8), .mv (.c (.slice none 0 0)), none⟩]) (.seq (.seq (.reg false [⟨(some 16), .mv (.t 0), none⟩,
  ⟨(some 17), .mv (.t 1), none⟩,
  ⟨(some 18), .mv (.t 2), none⟩,
  ⟨(some 19), .call F_spec_StashOk [(.t 16), (.t 17), (.t 18)], none⟩,
  ⟨(some 20), .not (.t 19), none⟩,
  ⟨(some 21), .mv (.t 20), none⟩,
  ⟨(some 22), .mv (.t 1), (some (21, false))⟩,
  ⟨(some 23), .mv (.t 3), (some (21, false))⟩,
  ⟨(some 24), .call F_spec_l11Leaf [(.t 22), (.t 23)], (some (21, false))⟩,
  ⟨(some 25), .not (.t 24), (some (21, false))⟩,
  ⟨(some 26), .pick (.t 21) (.c (.bool true)) (.t 25), none⟩]) (.cond (.t 26) (.seq (.reg false [⟨(some 8), .mv (.c (.slice none 0 0)), none⟩]) (.ret)) (.skip))) (.seq (.reg false [⟨(some 27), .mkl 2 0 [] [], none⟩,
  ⟨(some 9), .mv (.t 27), none⟩]) (.seq (.reg false [⟨(some 28), .mv (.t 0), none⟩,
  ⟨(some 29), .call F_spec_l13Copy [(.t 28)], none⟩,
  ⟨(some 10), .mv (.t 29), none⟩]) (.seq (.seq (.reg false [⟨(some 30), .mv (.t 1), none⟩,
  ⟨(some 11), .mv (.t 30), none⟩]) (.block 0 (.loop K_spec_EvictPlan_0 L_spec_EvictPlan_0))) (.seq (.reg false [⟨(some 87), .mv (.t 9), none⟩,
  ⟨(some 8), .mv (.t 87), none⟩]) (.ret))))))
def A_spec_EvictPlan : AFun := ⟨C_spec_EvictPlan, 88, [.tmp 8]⟩
def K_spec_EvictRest_0 : List Bool := [false, false, false, false, false, false, false, false, false, true, true, true, false, false, false, false, false, false, false, false, false, false, false, false, false, false, false, false, false, false, false, false, false, false, false, false, false, false, false, false, false, false, false, false]
def B_spec_EvictRest_0 : ACode := .seq (.seq (.reg false [⟨(some 30), .mv (.t 11), none⟩,
  ⟨(some 31), .mv (.t 10), none⟩,
  ⟨(some 32), .len (.t 31), none⟩,
  ⟨(some 33), .bin .lss (.t 30) (.t 32), none⟩]) (.cond (.t 33) (.skip) (.exit 0))) (.seq (.block 1 (.reg false [⟨(some 36), .mv (.t 9), none⟩,
  ⟨(some 37), .mv (.t 10), none⟩,
  ⟨(some 38), .mv (.t 11), none⟩,
  ⟨(some 39), .ia 2 (.t 37) (.t 38), none⟩,
  ⟨(some 40), .fa 1 (.t 39), none⟩,
  ⟨(some 41), .load1 (.t 40), none⟩,
  ⟨(some 42), .call F_spec_l13Without [(.t 36), (.t 41)], none⟩,
  ⟨(some 9), .mv (.t 42), none⟩])) (.reg false [⟨(some 34), .mv (.t 11), none⟩,
  ⟨(some 35), .bin .add (.t 34) (.c (.int .i64 1)), none⟩,
  ⟨(some 11), .mv (.t 35), none⟩]))
def L_spec_EvictRest_0 : ACode := B_spec_EvictRest_0
def C_spec_EvictRest : ACode := .seq (.reg false [⟨(some 8), .mv (.c (.slice none 0 0)), none⟩]) (.seq (.seq (.reg false [⟨(some 12), .mv (.t 0), none⟩,
  ⟨(some 13), .mv (.t 1), none⟩,
  ⟨(some 14), .mv (.t 2), none⟩,
  ⟨(some 15), .call F_spec_StashOk [(.t 12), (.t 13), (.t 14)], none⟩,
  ⟨(some 16), .not (.t 15), none⟩,
  ⟨(some 17), .mv (.t 16), none⟩,
  ⟨(some 18), .mv (.t 1), (some (17, false))⟩,
  ⟨(some 19), .mv (.t 3), (some (17, false))⟩,
  ⟨(some 20), .call F_spec_l11Leaf [(.t 18), (.t 19)], (some (17, false))⟩,
  ⟨(some 21), .not (.t 20), (some (17, false))⟩,
  ⟨(some 22), .pick (.t 17) (.c (.bool true)) (.t 21), none⟩]) (.cond (.t 22) (.seq (.reg false [⟨(some 8), .mv (.c (.slice none 0 0)), none⟩]) (.ret)) (.skip))) (.seq (.reg false [⟨(some 23), .mv (.t 0), none⟩,
  ⟨(some 24), .call F_spec_l13Copy [(.t 23)], none⟩,
  ⟨(some 9), .mv (.t 24), none⟩]) (.seq (.reg false [⟨(some 25), .mv (.t 0), none⟩,
  ⟨(some 26), .mv (.t 1), none⟩,
  ⟨(some 27), .mv (.t 2), none⟩,
  ⟨(some 28), .mv (.t 3), none⟩,
  ⟨(some 29), .call F_spec_EvictPlan [(.t 25), (.t 26), (.t 27), (.t 28)], none⟩,
  ⟨(some 10), .mv (.t 29), none⟩]) (.seq (.seq (.reg false [⟨(some 11), .mv (.c (.int .i64 0)), none⟩]) (.block 0 (.loop K_spec_EvictRest_0 L_spec_EvictRest_0))) (.seq (.reg false [⟨(some 43), .mv (.t 9), none⟩,
  ⟨(some 8), .mv (.t 43), none⟩]) (.ret))))))
def A_spec_EvictRest : AFun := ⟨C_spec_EvictRest, 44, [.tmp 8]⟩
def C_impl_within : ACode := .seq (.reg false [⟨(some 6), .mv (.c (.bool false)), none⟩]) (.seq (.reg false [⟨(some 7), .mv (.t 0), none⟩,
  ⟨(some 8), .mv (.t 1), none⟩,
  ⟨(some 9), .bin .geq (.t 7) (.t 8), none⟩,
  ⟨(some 10), .mv (.t 9), none⟩,
  ⟨(some 11), .mv (.t 0), (some (10, true))⟩,
  ⟨(some 12), .mv (.t 2), (some (10, true))⟩,
  ⟨(some 13), .bin .leq (.t 11) (.t 12), (some (10, true))⟩,
  ⟨(some 14), .pick (.t 10) (.t 13) (.c (.bool false)), none⟩,
  ⟨(some 6), .mv (.t 14), none⟩]) (.ret))
def A_impl_within : AFun := ⟨C_impl_within, 15, [.tmp 6]⟩
def C_impl_isLog : ACode := .seq (.reg false [⟨(some 2), .mv (.c (.bool false)), none⟩]) (.seq (.reg false [⟨(some 3), .mv (.t 0), none⟩,
  ⟨(some 4), .call F_impl_within [(.t 3), (.c (.int .i64 0)), (.c (.int .i64 6))], none⟩,
  ⟨(some 2), .mv (.t 4), none⟩]) (.ret))
def A_impl_isLog : AFun := ⟨C_impl_isLog, 5, [.tmp 2]⟩
def C_impl_isLeaf : ACode := .seq (.reg false [⟨(some 4), .mv (.c (.bool false)), none⟩]) (.seq (.reg false [⟨(some 5), .mv (.t 0), none⟩,
  ⟨(some 6), .call F_impl_isLog [(.t 5)], none⟩,
  ⟨(some 7), .mv (.t 6), none⟩,
  ⟨(some 8), .mv (.t 1), (some (7, true))⟩,
  ⟨(some 9), .mv (.t 0), (some (7, true))⟩,
  ⟨(some 10), .bin .shl (.c (.int .i64 1)) (.t 9), (some (7, true))⟩,
  ⟨(some 11), .bin .sub (.t 10) (.c (.int .i64 1)), (some (7, true))⟩,
  ⟨(some 12), .call F_impl_within [(.t 8), (.c (.int .i64 0)), (.t 11)], (some (7, true))⟩,
  ⟨(some 13), .pick (.t 7) (.t 12) (.c (.bool false)), none⟩,
  ⟨(some 4), .mv (.t 13), none⟩]) (.ret))
def A_impl_isLeaf : AFun := ⟨C_impl_isLeaf, 14, [.tmp 4]⟩
def C_impl_isBlock : ACode := .seq (.reg false [⟨(some 3), .box (.t 0), none⟩,
  ⟨(some 6), .mv (.c (.bool false)), none⟩]) (.seq (.reg false [⟨(some 7), .mv (.t 1), none⟩,
  ⟨(some 8), .fa 1 (.t 3), none⟩,
  ⟨(some 9), .load1 (.t 8), none⟩,
  ⟨(some 10), .call F_impl_isLeaf [(.t 7), (.t 9)], none⟩,
  ⟨(some 11), .mv (.t 10), none⟩,
  ⟨(some 12), .mv (.t 2), (some (11, true))⟩,
  ⟨(some 13), .call F_impl_within [(.t 12), (.c (.int .i64 1)), (.c (.int .i64 200))], (some (11, true))⟩,
  ⟨(some 14), .pick (.t 11) (.t 13) (.c (.bool false)), none⟩,
  ⟨(some 15), .mv (.t 14), none⟩,
  ⟨(some 16), .fa 0 (.t 3), (some (15, true))⟩,
  ⟨(some 17), .load1 (.t 16), (some (15, true))⟩,
  ⟨(some 18), .call F_impl_within [(.t 17), (.c (.int .i64 0)), (.c (.int .i64 255))], (some (15, true))⟩,
  ⟨(some 19), .pick (.t 15) (.t 18) (.c (.bool false)), none⟩,
  ⟨(some 20), .mv (.t 19), none⟩,
  ⟨(some 21), .fa 2 (.t 3), (some (20, true))⟩,
  ⟨(some 22), .load1 (.t 21), (some (20, true))⟩,
  ⟨(some 23), .len (.t 22), (some (20, true))⟩,
  ⟨(some 24), .mv (.t 2), (some (20, true))⟩,
  ⟨(some 25), .bin .eql (.t 23) (.t 24), (some (20, true))⟩,
  ⟨(some 26), .pick (.t 20) (.t 25) (.c (.bool false)), none⟩,
  ⟨(some 6), .mv (.t 26), none⟩]) (.ret))
def A_impl_isBlock : AFun := ⟨C_impl_isBlock, 27, [.tmp 6]⟩
def K_impl_areBlocks_0 : List Bool := [true, true, true, false, false, false, false, false, false, true, true, true, false, false, false, false, false, false, false, false, false, false, false, false, false, false, false, false, false, false, false, false, false, false, false, false, false, false, false, false, false, false, false]
def B_impl_areBlocks_0 : ACode := .seq (.reg false [⟨(some 12), .bin .lss (.t 11) (.t 10), none⟩]) (.seq (.cond (.t 12) (.skip) (.exit 0)) (.seq (.block 1 (.seq (.reg false [⟨(some 13), .mv (.t 11), none⟩,
  ⟨(some 14), .ia 3 (.t 9) (.t 11), none⟩,
  ⟨(some 15), .loadn 3 (.t 14), none⟩,
  ⟨(some 8), .new [(.int .i64 0), (.int .i64 0), (.slice none 0 0)], none⟩,
  ⟨(some 7), .mv (.t 13), none⟩,
  ⟨none, .store 3 (.t 8) (.t 15), none⟩]) (.seq (.reg true [⟨(some 16), .loadn 3 (.t 8), none⟩,
  ⟨(some 17), .mv (.t 1), none⟩,
  ⟨(some 18), .mv (.t 2), none⟩,
  ⟨(some 19), .call F_impl_isBlock [(.t 16), (.t 17), (.t 18)], none⟩,
  ⟨(some 20), .not (.t 19), none⟩,
  ⟨(some 21), .mv (.t 20), none⟩,
  ⟨(some 22), .mv (.t 7), (some (21, false))⟩,
  ⟨(some 23), .bin .gtr (.t 22) (.c (.int .i64 0)), (some (21, false))⟩,
  ⟨(some 24), .mv (.t 23), (some (21, false))⟩,
  ⟨(some 25), .mv (.t 0), (some (24, true))⟩,
  ⟨(some 26), .mv (.t 7), (some (24, true))⟩,
  ⟨(some 27), .bin .sub (.t 26) (.c (.int .i64 1)), (some (24, true))⟩,
  ⟨(some 28), .ia 3 (.t 25) (.t 27), (some (24, true))⟩,
  ⟨(some 29), .fa 0 (.t 28), (some (24, true))⟩,
  ⟨(some 30), .load1 (.t 29), (some (24, true))⟩,
  ⟨(some 31), .fa 0 (.t 8), (some (24, true))⟩,
  ⟨(some 32), .load1 (.t 31), (some (24, true))⟩,
  ⟨(some 33), .bin .geq (.t 30) (.t 32), (some (24, true))⟩,
  ⟨(some 34), .pick (.t 24) (.t 33) (.c (.bool false)), (some (21, false))⟩,
  ⟨(some 35), .pick (.t 21) (.c (.bool true)) (.t 34), none⟩]) (.cond (.t 35) (.seq (.reg false [⟨(some 6), .mv (.c (.bool false)), none⟩]) (.ret)) (.skip))))) (.reg false [⟨(some 36), .bin .add (.t 11) (.c (.int .i64 1)), none⟩,
  ⟨(some 11), .mv (.t 36), none⟩])))
def L_impl_areBlocks_0 : ACode := B_impl_areBlocks_0
def C_impl_areBlocks : ACode := .seq (.reg false [⟨(some 6), .mv (.c (.bool false)), none⟩]) (.seq (.seq (.reg false [⟨(some 9), .mv (.t 0), none⟩,
  ⟨(some 10), .len (.t 9), none⟩,
  ⟨(some 11), .mv (.c (.int .i64 0)), none⟩]) (.block 0 (.loop K_impl_areBlocks_0 L_impl_areBlocks_0))) (.seq (.reg false [⟨(some 37), .mv (.t 1), none⟩,
  ⟨(some 38), .call F_impl_isLog [(.t 37)], none⟩,
  ⟨(some 39), .mv (.t 38), none⟩,
  ⟨(some 40), .mv (.t 2), (some (39, true))⟩,
  ⟨(some 41), .call F_impl_within [(.t 40), (.c (.int .i64 1)), (.c (.int .i64 200))], (some (39, true))⟩,
  ⟨(some 42), .pick (.t 39) (.t 41) (.c (.bool false)), none⟩,
  ⟨(some 6), .mv (.t 42), none⟩]) (.ret)))
def A_impl_areBlocks : AFun := ⟨C_impl_areBlocks, 43, [.tmp 6]⟩
def C_impl_isStash : ACode := .seq (.reg false [⟨(some 6), .mv (.c (.bool false)), none⟩]) (.seq (.reg false [⟨(some 7), .mv (.t 0), none⟩,
  ⟨(some 8), .len (.t 7), none⟩,
  ⟨(some 9), .bin .leq (.t 8) (.c (.int .i64 128)), none⟩,
  ⟨(some 10), .mv (.t 9), none⟩,
  ⟨(some 11), .mv (.t 0), (some (10, true))⟩,
  ⟨(some 12), .mv (.t 1), (some (10, true))⟩,
  ⟨(some 13), .mv (.t 2), (some (10, true))⟩,
  ⟨(some 14), .call F_impl_areBlocks [(.t 11), (.t 12), (.t 13)], (some (10, true))⟩,
  ⟨(some 15), .pick (.t 10) (.t 14) (.c (.bool false)), none⟩,
  ⟨(some 6), .mv (.t 15), none⟩]) (.ret))
def A_impl_isStash : AFun := ⟨C_impl_isStash, 16, [.tmp 6]⟩
def K_slices_IndexFunc_impl_Block_impl_Block_0 : List Bool := [true, true, false, false, false, false, false, true, true, false, false, false, false, false, false, false, false, false, false]
def B_slices_IndexFunc_impl_Block_impl_Block_0 : ACode := .seq (.reg false [⟨(some 9), .bin .lss (.t 8) (.t 7), none⟩]) (.seq (.cond (.t 9) (.skip) (.exit 0)) (.seq (.block 1 (.seq (.reg false [⟨(some 10), .mv (.t 8), none⟩,
  ⟨(some 5), .mv (.t 10), none⟩]) (.seq (.reg false [⟨(some 11), .mv (.t 1), none⟩,
  ⟨(some 12), .mv (.t 0), none⟩,
  ⟨(some 13), .mv (.t 5), none⟩,
  ⟨(some 14), .ia 3 (.t 12) (.t 13), none⟩,
  ⟨(some 15), .loadn 3 (.t 14), none⟩,
  ⟨(some 16), .callv (.t 11) [(.t 15)], none⟩]) (.cond (.t 16) (.seq (.reg false [⟨(some 17), .mv (.t 5), none⟩,
  ⟨(some 4), .mv (.t 17), none⟩]) (.ret)) (.skip))))) (.reg false [⟨(some 18), .bin .add (.t 8) (.c (.int .i64 1)), none⟩,
  ⟨(some 8), .mv (.t 18), none⟩])))
def L_slices_IndexFunc_impl_Block_impl_Block_0 : ACode := B_slices_IndexFunc_impl_Block_impl_Block_0
def C_slices_IndexFunc_impl_Block_impl_Block : ACode := .seq (.reg false [⟨(some 4), .mv (.c (.int .i64 0)), none⟩]) (.seq (.seq (.reg false [⟨(some 6), .mv (.t 0), none⟩,
  ⟨(some 7), .len (.t 6), none⟩,
  ⟨(some 8), .mv (.c (.int .i64 0)), none⟩]) (.block 0 (.loop K_slices_IndexFunc_impl_Block_impl_Block_0 L_slices_IndexFunc_impl_Block_impl_Block_0))) (.seq (.reg false [⟨(some 4), .mv (.c (.int .i64 (-1))), none⟩]) (.ret)))
def A_slices_IndexFunc_impl_Block_impl_Block : AFun := ⟨C_slices_IndexFunc_impl_Block_impl_Block, 19, [.tmp 4]⟩
def K_slices_DeleteFunc_impl_Block_impl_Block_0 : List Bool := [true, true, false, false, false, true, true, false, false, false, false, false, false, false, false, false, false, false, false, false, false, false, false, false, false, false, false, false, false, false, false, false, false, false, false, false, false, false, false, false, false, false]
def B_slices_DeleteFunc_impl_Block_impl_Block_0 : ACode := .seq (.seq (.reg false [⟨(some 16), .mv (.t 6), none⟩,
  ⟨(some 17), .mv (.t 0), none⟩,
  ⟨(some 18), .len (.t 17), none⟩,
  ⟨(some 19), .bin .lss (.t 16) (.t 18), none⟩]) (.cond (.t 19) (.skip) (.exit 0))) (.seq (.block 1 (.seq (.reg false [⟨(some 22), .mv (.t 0), none⟩,
  ⟨(some 23), .mv (.t 6), none⟩,
  ⟨(some 24), .ia 3 (.t 22) (.t 23), none⟩,
  ⟨(some 25), .loadn 3 (.t 24), none⟩,
  ⟨(some 7), .new [(.int .i64 0), (.int .i64 0), (.slice none 0 0)], none⟩,
  ⟨none, .store 3 (.t 7) (.t 25), none⟩]) (.seq (.reg false [⟨(some 26), .mv (.t 1), none⟩,
  ⟨(some 27), .loadn 3 (.t 7), none⟩,
  ⟨(some 28), .callv (.t 26) [(.t 27)], none⟩,
  ⟨(some 29), .not (.t 28), none⟩]) (.cond (.t 29) (.seq (.reg false [⟨(some 30), .mv (.t 0), none⟩,
  ⟨(some 31), .mv (.t 5), none⟩,
  ⟨(some 32), .loadn 3 (.t 7), none⟩,
  ⟨(some 33), .ia 3 (.t 30) (.t 31), none⟩,
  ⟨none, .store 3 (.t 33) (.t 32), none⟩]) (.reg false [⟨(some 34), .mv (.t 5), none⟩,
  ⟨(some 35), .bin .add (.t 34) (.c (.int .i64 1)), none⟩,
  ⟨(some 5), .mv (.t 35), none⟩])) (.skip))))) (.reg false [⟨(some 20), .mv (.t 6), none⟩,
  ⟨(some 21), .bin .add (.t 20) (.c (.int .i64 1)), none⟩,
  ⟨(some 6), .mv (.t 21), none⟩]))
def L_slices_DeleteFunc_impl_Block_impl_Block_0 : ACode := B_slices_DeleteFunc_impl_Block_impl_Block_0
def C_slices_DeleteFunc_impl_Block_impl_Block : ACode := .seq (.reg false [⟨(some 4), .mv (.c (.slice none 0 0)), none⟩]) (.seq (.reg false [⟨(some 8), .mv (.t 0), none⟩,
  ⟨(some 9), .mv (.t 1), none⟩,
  ⟨(some 10), .call F_slices_IndexFunc_impl_Block_impl_Block [(.t 8), (.t 9)], none⟩,
  ⟨(some 5), .mv (.t 10), none⟩]) (.seq (.seq (.reg false [⟨(some 11), .mv (.t 5), none⟩,
  ⟨(some 12), .bin .eql (.t 11) (.c (.int .i64 (-1))), none⟩]) (.cond (.t 12) (.seq (.reg false [⟨(some 13), .mv (.t 0), none⟩,
  ⟨(some 4), .mv (.t 13), none⟩]) (.ret)) (.skip))) (.seq (.seq (.reg false [⟨(some 14), .mv (.t 5), none⟩,
  ⟨(some 15), .bin .add (.t 14) (.c (.int .i64 1)), none⟩,
  ⟨(some 6), .mv (.t 15), none⟩]) (.block 0 (.loop K_slices_DeleteFunc_impl_Block_impl_Block_0 L_slices_DeleteFunc_impl_Block_impl_Block_0))) (.seq (.reg false [⟨(some 36), .mv (.t 0), none⟩,
  ⟨(some 37), .mv (.t 5), none⟩,
  ⟨(some 38), .slc 3 (.t 36) (some (.t 37)) none, none⟩,
  ⟨none, .clr 3 [(.int .i64 0), (.int .i64 0), (.slice none 0 0)] (.t 38), none⟩]) (.seq (.reg false [⟨(some 39), .mv (.t 0), none⟩,
  ⟨(some 40), .mv (.t 5), none⟩,
  ⟨(some 41), .slc 3 (.t 39) none (some (.t 40)), none⟩,
  ⟨(some 4), .mv (.t 41), none⟩]) (.ret))))))
def A_slices_DeleteFunc_impl_Block_impl_Block : AFun := ⟨C_slices_DeleteFunc_impl_Block_impl_Block, 42, [.tmp 4]⟩
def C_slices_Clone_impl_Block_impl_Block : ACode := .seq (.reg false [⟨(some 2), .mv (.c (.slice none 0 0)), none⟩]) (.seq (.seq (.reg false [⟨(some 3), .mv (.t 0), none⟩,
  ⟨(some 4), .eqnil false (.t 3), none⟩]) (.cond (.t 4) (.seq (.reg false [⟨(some 2), .mv (.c (.slice none 0 0)), none⟩]) (.ret)) (.skip))) (.seq (.reg false [⟨(some 5), .mkl 3 0 [] [], none⟩,
  ⟨(some 6), .mv (.t 0), none⟩,
  ⟨(some 7), .app 3 40 (.t 5) (.t 6), none⟩,
  ⟨(some 2), .mv (.t 7), none⟩]) (.ret)))
def A_slices_Clone_impl_Block_impl_Block : AFun := ⟨C_slices_Clone_impl_Block_impl_Block, 8, [.tmp 2]⟩
def C_math_bits_Len32 : ACode := .seq (.reg false [⟨(some 2), .mv (.c (.int .i64 0)), none⟩]) (.seq (.seq (.reg false [⟨(some 3), .mv (.t 0), none⟩,
  ⟨(some 4), .bin .geq (.t 3) (.c (.int .u32 65536)), none⟩]) (.cond (.t 4) (.seq (.reg false [⟨(some 5), .mv (.t 0), none⟩,
  ⟨(some 6), .bin .shr (.t 5) (.c (.int .u64 16)), none⟩,
  ⟨(some 0), .mv (.t 6), none⟩]) (.reg false [⟨(some 2), .mv (.c (.int .i64 16)), none⟩])) (.skip))) (.seq (.seq (.reg false [⟨(some 7), .mv (.t 0), none⟩,
  ⟨(some 8), .bin .geq (.t 7) (.c (.int .u32 256)), none⟩]) (.cond (.t 8) (.seq (.reg false [⟨(some 9), .mv (.t 0), none⟩,
  ⟨(some 10), .bin .shr (.t 9) (.c (.int .u64 8)), none⟩,
  ⟨(some 0), .mv (.t 10), none⟩]) (.reg false [⟨(some 11), .mv (.t 2), none⟩,
  ⟨(some 12), .bin .add (.t 11) (.c (.int .i64 8)), none⟩,
  ⟨(some 2), .mv (.t 12), none⟩])) (.skip))) (.seq (.reg false [⟨(some 13), .mv (.t 2), none⟩,
  ⟨(some 14), .mv (.t 0), none⟩,
  ⟨(some 15), .conv .u8 (.t 14), none⟩,
  ⟨(some 16), .ix (.c (.string ⟨#[0, 1, 2, 2, 3, 3, 3, 3, 4, 4, 4, 4, 4, 4, 4, 4, 5, 5, 5, 5, 5, 5, 5, 5, 5, 5, 5, 5, 5, 5, 5, 5, 6, 6, 6, 6, 6, 6, 6, 6, 6, 6, 6, 6, 6, 6, 6, 6, 6, 6, 6, 6, 6, 6, 6, 6, 6, 6, 6, 6, 6, 6, 6, 6, 7, 7, 7, 7, 7, 7, 7, 7, 7, 7, 7, 7, 7, 7, 7, 7, 7, 7, 7, 7, 7, 7, 7, 7, 7, 7, 7, 7, 7, 7, 7, 7, 7, 7, 7, 7, 7, 7, 7, 7, 7, 7, 7, 7, 7, 7, 7, 7, 7, 7, 7, 7, 7, 7, 7, 7, 7, 7, 7, 7, 7, 7, 7, 7, 8, 8, 8, 8, 8, 8, 8, 8, 8, 8, 8, 8, 8, 8, 8, 8, 8, 8, 8, 8, 8, 8, 8, 8, 8, 8, 8, 8, 8, 8, 8, 8, 8, 8, 8, 8, 8, 8, 8, 8, 8, 8, 8, 8, 8, 8, 8, 8, 8, 8, 8, 8, 8, 8, 8, 8, 8, 8, 8, 8, 8, 8, 8, 8, 8, 8, 8, 8, 8, 8, 8, 8, 8, 8, 8, 8, 8, 8, 8, 8, 8, 8, 8, 8, 8, 8, 8, 8, 8, 8, 8, 8, 8, 8, 8, 8, 8, 8, 8, 8, 8, 8, 8, 8, 8, 8, 8, 8, 8, 8, 8, 8, 8, 8, 8, 8, 8, 8, 8, 8, 8, 8, 8, 8, 8, 8, 8, 8]⟩)) (.t 15), none⟩,
  ⟨(some 17), .conv .i64 (.t 16), none⟩,
  ⟨(some 18), .bin .add (.t 13) (.t 17), none⟩,
  ⟨(some 2), .mv (.t 18), none⟩]) (.ret))))
def A_math_bits_Len32 : AFun := ⟨C_math_bits_Len32, 19, [.tmp 2]⟩
def C_math_bits_Len64 : ACode := .seq (.reg false [⟨(some 2), .mv (.c (.int .i64 0)), none⟩]) (.seq (.seq (.reg false [⟨(some 3), .mv (.t 0), none⟩,
  ⟨(some 4), .bin .geq (.t 3) (.c (.int .u64 4294967296)), none⟩]) (.cond (.t 4) (.seq (.reg false [⟨(some 5), .mv (.t 0), none⟩,
  ⟨(some 6), .bin .shr (.t 5) (.c (.int .u64 32)), none⟩,
  ⟨(some 0), .mv (.t 6), none⟩]) (.reg false [⟨(some 2), .mv (.c (.int .i64 32)), none⟩])) (.skip))) (.seq (.seq (.reg false [⟨(some 7), .mv (.t 0), none⟩,
  ⟨(some 8), .bin .geq (.t 7) (.c (.int .u64 65536)), none⟩]) (.cond (.t 8) (.seq (.reg false [⟨(some 9), .mv (.t 0), none⟩,
  ⟨(some 10), .bin .shr (.t 9) (.c (.int .u64 16)), none⟩,
  ⟨(some 0), .mv (.t 10), none⟩]) (.reg false [⟨(some 11), .mv (.t 2), none⟩,
  ⟨(some 12), .bin .add (.t 11) (.c (.int .i64 16)), none⟩,
  ⟨(some 2), .mv (.t 12), none⟩])) (.skip))) (.seq (.seq (.reg false [⟨(some 13), .mv (.t 0), none⟩,
  ⟨(some 14), .bin .geq (.t 13) (.c (.int .u64 256)), none⟩]) (.cond (.t 14) (.seq (.reg false [⟨(some 15), .mv (.t 0), none⟩,
  ⟨(some 16), .bin .shr (.t 15) (.c (.int .u64 8)), none⟩,
  ⟨(some 0), .mv (.t 16), none⟩]) (.reg false [⟨(some 17), .mv (.t 2), none⟩,
  ⟨(some 18), .bin .add (.t 17) (.c (.int .i64 8)), none⟩,
  ⟨(some 2), .mv (.t 18), none⟩])) (.skip))) (.seq (.reg false [⟨(some 19), .mv (.t 2), none⟩,
  ⟨(some 20), .mv (.t 0), none⟩,
  ⟨(some 21), .conv .u8 (.t 20), none⟩,
  ⟨(some 22), .ix (.c (.string ⟨#[0, 1, 2, 2, 3, 3, 3, 3, 4, 4, 4, 4, 4, 4, 4, 4, 5, 5, 5, 5, 5, 5, 5, 5, 5, 5, 5, 5, 5, 5, 5, 5, 6, 6, 6, 6, 6, 6, 6, 6, 6, 6, 6, 6, 6, 6, 6, 6, 6, 6, 6, 6, 6, 6, 6, 6, 6, 6, 6, 6, 6, 6, 6, 6, 7, 7, 7, 7, 7, 7, 7, 7, 7, 7, 7, 7, 7, 7, 7, 7, 7, 7, 7, 7, 7, 7, 7, 7, 7, 7, 7, 7, 7, 7, 7, 7, 7, 7, 7, 7, 7, 7, 7, 7, 7, 7, 7, 7, 7, 7, 7, 7, 7, 7, 7, 7, 7, 7, 7, 7, 7, 7, 7, 7, 7, 7, 7, 7, 8, 8, 8, 8, 8, 8, 8, 8, 8, 8, 8, 8, 8, 8, 8, 8, 8, 8, 8, 8, 8, 8, 8, 8, 8, 8, 8, 8, 8, 8, 8, 8, 8, 8, 8, 8, 8, 8, 8, 8, 8, 8, 8, 8, 8, 8, 8, 8, 8, 8, 8, 8, 8, 8, 8, 8, 8, 8, 8, 8, 8, 8, 8, 8, 8, 8, 8, 8, 8, 8, 8, 8, 8, 8, 8, 8, 8, 8, 8, 8, 8, 8, 8, 8, 8, 8, 8, 8, 8, 8, 8, 8, 8, 8, 8, 8, 8, 8, 8, 8, 8, 8, 8, 8, 8, 8, 8, 8, 8, 8, 8, 8, 8, 8, 8, 8, 8, 8, 8, 8, 8, 8, 8, 8, 8, 8, 8, 8]⟩)) (.t 21), none⟩,
  ⟨(some 23), .conv .i64 (.t 22), none⟩,
  ⟨(some 24), .bin .add (.t 19) (.t 23), none⟩,
  ⟨(some 2), .mv (.t 24), none⟩]) (.ret)))))
def A_math_bits_Len64 : AFun := ⟨C_math_bits_Len64, 25, [.tmp 2]⟩
def C_math_bits_Len : ACode := .seq (.reg false [⟨(some 2), .mv (.c (.int .i64 0)), none⟩]) (.seq (.cond (.c (.bool false)) (.seq (.reg false [⟨(some 3), .mv (.t 0), none⟩,
  ⟨(some 4), .conv .u32 (.t 3), none⟩,
  ⟨(some 5), .call F_math_bits_Len32 [(.t 4)], none⟩,
  ⟨(some 2), .mv (.t 5), none⟩]) (.ret)) (.skip)) (.seq (.reg false [⟨(some 6), .mv (.t 0), none⟩,
  ⟨(some 7), .call F_math_bits_Len64 [(.t 6)], none⟩,
  ⟨(some 2), .mv (.t 7), none⟩]) (.ret)))
def A_math_bits_Len : AFun := ⟨C_math_bits_Len, 8, [.tmp 2]⟩
def C_impl_meet : ACode := .seq (.reg false [⟨(some 6), .mv (.c (.int .i64 0)), none⟩]) (.seq (.reg false [⟨(some 7), .mv (.t 0), none⟩,
  ⟨(some 8), .mv (.t 1), none⟩,
  ⟨(some 9), .mv (.t 2), none⟩,
  ⟨(some 10), .bin .xor (.t 8) (.t 9), none⟩,
  ⟨(some 11), .conv .u64 (.t 10), none⟩,
  ⟨(some 12), .call F_math_bits_Len [(.t 11)], none⟩,
  ⟨(some 13), .bin .sub (.t 7) (.t 12), none⟩,
  ⟨(some 6), .mv (.t 13), none⟩]) (.ret))
def A_impl_meet : AFun := ⟨C_impl_meet, 14, [.tmp 6]⟩
def C_impl_evict_1 : ACode := .seq (.reg false [⟨(some 6), .box (.t 0), none⟩,
  ⟨(some 7), .mv (.c (.bool false)), none⟩]) (.seq (.seq (.reg true [⟨(some 8), .load1 (.t 1), none⟩,
  ⟨(some 9), .bin .eql (.t 8) (.c (.int .i64 4)), none⟩,
  ⟨(some 10), .mv (.t 9), none⟩,
  ⟨(some 11), .load1 (.t 2), (some (10, false))⟩,
  ⟨(some 12), .fa 1 (.t 6), (some (10, false))⟩,
  ⟨(some 13), .load1 (.t 12), (some (10, false))⟩,
  ⟨(some 14), .load1 (.t 3), (some (10, false))⟩,
  ⟨(some 15), .call F_impl_meet [(.t 11), (.t 13), (.t 14)], (some (10, false))⟩,
  ⟨(some 16), .load1 (.t 4), (some (10, false))⟩,
  ⟨(some 17), .bin .lss (.t 15) (.t 16), (some (10, false))⟩,
  ⟨(some 18), .pick (.t 10) (.c (.bool true)) (.t 17), none⟩]) (.cond (.t 18) (.seq (.reg false [⟨(some 7), .mv (.c (.bool false)), none⟩]) (.ret)) (.skip))) (.seq (.reg false [⟨(some 19), .load1 (.t 1), none⟩,
  ⟨(some 20), .bin .add (.t 19) (.c (.int .i64 1)), none⟩,
  ⟨none, .store 1 (.t 1) (.t 20), none⟩]) (.seq (.reg false [⟨(some 21), .load1 (.t 5), none⟩,
  ⟨(some 22), .load1 (.t 4), none⟩,
  ⟨(some 23), .fa 0 (.t 6), none⟩,
  ⟨(some 24), .load1 (.t 23), none⟩,
  ⟨(some 25), .build [(.int .i64 0), (.int .i64 0)] [(0, 1, (.t 22)), (1, 1, (.t 24))], none⟩,
  ⟨(some 26), .mkl 2 1 [(.int .i64 0), (.int .i64 0)] [(0, 2, (.t 25))], none⟩,
  ⟨(some 27), .app 2 16 (.t 21) (.t 26), none⟩,
  ⟨none, .store 1 (.t 5) (.t 27), none⟩]) (.seq (.reg false [⟨(some 7), .mv (.c (.bool true)), none⟩]) (.ret)))))
def A_impl_evict_1 : AFun := ⟨C_impl_evict_1, 28, [.tmp 7]⟩
def K_impl_evict_0 : List Bool := [false, false, false, false, true, true, false, false, true, true, true, false, false, false, false, false, false, false, false, false, false, false, false, false, false]
def B_impl_evict_0 : ACode := .seq (.seq (.reg false [⟨(some 15), .load1 (.t 10), none⟩,
  ⟨(some 16), .bin .geq (.t 15) (.c (.int .i64 0)), none⟩]) (.cond (.t 16) (.skip) (.exit 0))) (.seq (.block 1 (.seq (.reg false [⟨(some 11), .new [(.int .i64 0)], none⟩,
  ⟨none, .store 1 (.t 11) (.c (.int .i64 0)), none⟩]) (.reg false [⟨(some 19), .mv (.t 9), none⟩,
  ⟨(some 20), .fn F_impl_evict_1 [(.t 11), (.t 4), (.t 5), (.t 10), (.t 8)], none⟩,
  ⟨(some 21), .call F_slices_DeleteFunc_impl_Block_impl_Block [(.t 19), (.t 20)], none⟩,
  ⟨(some 9), .mv (.t 21), none⟩]))) (.seq (.seq (.reg false [⟨(some 22), .load1 (.t 10), none⟩]) (.reg false [⟨(some 10), .new [(.int .i64 0)], none⟩,
  ⟨none, .store 1 (.t 10) (.t 22), none⟩])) (.reg false [⟨(some 17), .load1 (.t 10), none⟩,
  ⟨(some 18), .bin .sub (.t 17) (.c (.int .i64 1)), none⟩,
  ⟨none, .store 1 (.t 10) (.t 18), none⟩])))
def L_impl_evict_0 : ACode := B_impl_evict_0
def C_impl_evict : ACode := .seq (.reg false [⟨(some 4), .box (.t 1), none⟩,
  ⟨(some 5), .box (.t 2), none⟩,
  ⟨(some 6), .mv (.c (.slice none 0 0)), none⟩,
  ⟨(some 7), .mv (.c (.slice none 0 0)), none⟩]) (.seq (.reg false [⟨(some 8), .new [(.slice none 0 0)], none⟩]) (.seq (.reg false [⟨(some 12), .mv (.t 0), none⟩,
  ⟨(some 13), .call F_slices_Clone_impl_Block_impl_Block [(.t 12)], none⟩,
  ⟨(some 9), .mv (.t 13), none⟩]) (.seq (.seq (.reg false [⟨(some 14), .load1 (.t 4), none⟩,
  ⟨(some 10), .new [(.int .i64 0)], none⟩,
  ⟨none, .store 1 (.t 10) (.t 14), none⟩]) (.block 0 (.loop K_impl_evict_0 L_impl_evict_0))) (.seq (.reg false [⟨(some 23), .load1 (.t 8), none⟩,
  ⟨(some 24), .mv (.t 9), none⟩,
  ⟨(some 6), .mv (.t 23), none⟩,
  ⟨(some 7), .mv (.t 24), none⟩]) (.ret)))))
def A_impl_evict : AFun := ⟨C_impl_evict, 25, [.tmp 6, .tmp 7]⟩
def C_bytes_Clone : ACode := .seq (.reg false [⟨(some 2), .mv (.c (.slice none 0 0)), none⟩]) (.seq (.seq (.reg false [⟨(some 3), .mv (.t 0), none⟩,
  ⟨(some 4), .eqnil false (.t 3), none⟩]) (.cond (.t 4) (.seq (.reg false [⟨(some 2), .mv (.c (.slice none 0 0)), none⟩]) (.ret)) (.skip))) (.seq (.reg false [⟨(some 5), .mkl 1 0 [] [], none⟩,
  ⟨(some 6), .mv (.t 0), none⟩,
  ⟨(some 7), .app 1 1 (.t 5) (.t 6), none⟩,
  ⟨(some 2), .mv (.t 7), none⟩]) (.ret)))
def A_bytes_Clone : AFun := ⟨C_bytes_Clone, 8, [.tmp 2]⟩
def K_impl_cloneBlocks_0 : List Bool := [false, false, false, true, false, false, false, false, true, true, true, false, false, false, false, false, false, false, false, false, false, false, false, false]
def B_impl_cloneBlocks_0 : ACode := .seq (.reg false [⟨(some 11), .bin .lss (.t 10) (.t 9), none⟩]) (.seq (.cond (.t 11) (.skip) (.exit 0)) (.seq (.block 1 (.seq (.reg false [⟨(some 12), .mv (.t 10), none⟩,
  ⟨(some 13), .ia 3 (.t 8) (.t 10), none⟩,
  ⟨(some 14), .loadn 3 (.t 13), none⟩,
  ⟨(some 5), .new [(.int .i64 0), (.int .i64 0), (.slice none 0 0)], none⟩,
  ⟨(some 4), .mv (.t 12), none⟩,
  ⟨none, .store 3 (.t 5) (.t 14), none⟩]) (.reg false [⟨(some 15), .mv (.t 3), none⟩,
  ⟨(some 16), .mv (.t 4), none⟩,
  ⟨(some 17), .fa 2 (.t 5), none⟩,
  ⟨(some 18), .load1 (.t 17), none⟩,
  ⟨(some 19), .call F_bytes_Clone [(.t 18)], none⟩,
  ⟨(some 20), .ia 3 (.t 15) (.t 16), none⟩,
  ⟨(some 21), .fa 2 (.t 20), none⟩,
  ⟨none, .store 1 (.t 21) (.t 19), none⟩]))) (.reg false [⟨(some 22), .bin .add (.t 10) (.c (.int .i64 1)), none⟩,
  ⟨(some 10), .mv (.t 22), none⟩])))
def L_impl_cloneBlocks_0 : ACode := B_impl_cloneBlocks_0
def C_impl_cloneBlocks : ACode := .seq (.reg false [⟨(some 2), .mv (.c (.slice none 0 0)), none⟩]) (.seq (.reg false [⟨(some 6), .mv (.t 0), none⟩,
  ⟨(some 7), .call F_slices_Clone_impl_Block_impl_Block [(.t 6)], none⟩,
  ⟨(some 3), .mv (.t 7), none⟩]) (.seq (.seq (.reg false [⟨(some 8), .mv (.t 3), none⟩,
  ⟨(some 9), .len (.t 8), none⟩,
  ⟨(some 10), .mv (.c (.int .i64 0)), none⟩]) (.block 0 (.loop K_impl_cloneBlocks_0 L_impl_cloneBlocks_0))) (.seq (.reg false [⟨(some 23), .mv (.t 3), none⟩,
  ⟨(some 2), .mv (.t 23), none⟩]) (.ret))))
def A_impl_cloneBlocks : AFun := ⟨C_impl_cloneBlocks, 24, [.tmp 2]⟩
def C_impl_EvictRest : ACode := .seq (.reg false [⟨(some 8), .mv (.c (.slice none 0 0)), none⟩]) (.seq (.seq (.reg false [⟨(some 11), .mv (.t 0), none⟩,
  ⟨(some 12), .mv (.t 1), none⟩,
  ⟨(some 13), .mv (.t 2), none⟩,
  ⟨(some 14), .call F_impl_isStash [(.t 11), (.t 12), (.t 13)], none⟩,
  ⟨(some 15), .not (.t 14), none⟩,
  ⟨(some 16), .mv (.t 15), none⟩,
  ⟨(some 17), .mv (.t 1), (some (16, false))⟩,
  ⟨(some 18), .mv (.t 3), (some (16, false))⟩,
  ⟨(some 19), .call F_impl_isLeaf [(.t 17), (.t 18)], (some (16, false))⟩,
  ⟨(some 20), .not (.t 19), (some (16, false))⟩,
  ⟨(some 21), .pick (.t 16) (.c (.bool true)) (.t 20), none⟩]) (.cond (.t 21) (.seq (.reg false [⟨(some 8), .mv (.c (.slice none 0 0)), none⟩]) (.ret)) (.skip))) (.seq (.reg false [⟨(some 23), .mv (.t 0), none⟩,
  ⟨(some 24), .call F_impl_cloneBlocks [(.t 23)], none⟩,
  ⟨(some 25), .mv (.t 1), none⟩,
  ⟨(some 26), .mv (.t 3), none⟩,
  ⟨(some 27), .call F_impl_evict [(.t 24), (.t 25), (.t 26)], none⟩,
  ⟨(some 22), .mv (.t 27), none⟩,
  ⟨(some 28), .ext (.t 22) 0, none⟩,
  ⟨(some 29), .ext (.t 22) 1, none⟩,
  ⟨(some 9), .mv (.t 28), none⟩,
  ⟨(some 10), .mv (.t 29), none⟩]) (.seq (.reg false [⟨(some 30), .mv (.t 10), none⟩,
  ⟨(some 8), .mv (.t 30), none⟩]) (.ret))))
def A_impl_EvictRest : AFun := ⟨C_impl_EvictRest, 31, [.tmp 8]⟩
def K_laws_heldByteS_0 : List Bool := [true, true, false, false, false, true, false, false, false, false, false, false, false, false, false, false, false, false, false, false, false, false]
def B_laws_heldByteS_0 : ACode := .seq (.seq (.reg false [⟨(some 6), .mv (.t 5), none⟩,
  ⟨(some 7), .mv (.t 0), none⟩,
  ⟨(some 8), .len (.t 7), none⟩,
  ⟨(some 9), .bin .lss (.t 6) (.t 8), none⟩]) (.cond (.t 9) (.skip) (.exit 0))) (.seq (.block 1 (.seq (.seq (.reg false [⟨(some 12), .mv (.t 0), none⟩,
  ⟨(some 13), .mv (.t 5), none⟩,
  ⟨(some 14), .ia 1 (.t 12) (.t 13), none⟩,
  ⟨(some 15), .load1 (.t 14), none⟩,
  ⟨(some 16), .mv (.t 1), none⟩,
  ⟨(some 17), .conv .u8 (.t 16), none⟩,
  ⟨(some 18), .bin .neq (.t 15) (.t 17), none⟩]) (.cond (.t 18) (.seq (.reg false [⟨(some 4), .mv (.c (.int .i64 (-1))), none⟩]) (.ret)) (.skip))) (.reg false [⟨(some 19), .mv (.t 1), none⟩,
  ⟨(some 20), .bin .add (.t 19) (.c (.int .i64 1)), none⟩,
  ⟨(some 1), .mv (.t 20), none⟩]))) (.reg false [⟨(some 10), .mv (.t 5), none⟩,
  ⟨(some 11), .bin .add (.t 10) (.c (.int .i64 1)), none⟩,
  ⟨(some 5), .mv (.t 11), none⟩]))
def L_laws_heldByteS_0 : ACode := B_laws_heldByteS_0
def C_laws_heldByteS : ACode := .seq (.reg false [⟨(some 4), .mv (.c (.int .i64 0)), none⟩]) (.seq (.seq (.reg false [⟨(some 5), .mv (.c (.int .i64 0)), none⟩]) (.block 0 (.loop K_laws_heldByteS_0 L_laws_heldByteS_0))) (.seq (.reg false [⟨(some 21), .mv (.t 1), none⟩,
  ⟨(some 4), .mv (.t 21), none⟩]) (.ret)))
def A_laws_heldByteS : AFun := ⟨C_laws_heldByteS, 22, [.tmp 4]⟩
def K_laws_heldBlockS_0 : List Bool := [true, true, false, false, false, true, false, false, false, false, false, false, false, false, false, false, false, false, false, false, false, false, false, false, false, false, false, false, false, false, false, false, false, false, false, false, false, false, false, false]
def B_laws_heldBlockS_0 : ACode := .seq (.seq (.reg false [⟨(some 6), .mv (.t 5), none⟩,
  ⟨(some 7), .mv (.t 0), none⟩,
  ⟨(some 8), .len (.t 7), none⟩,
  ⟨(some 9), .bin .lss (.t 6) (.t 8), none⟩]) (.cond (.t 9) (.skip) (.exit 0))) (.seq (.block 1 (.seq (.seq (.reg false [⟨(some 12), .mv (.t 0), none⟩,
  ⟨(some 13), .mv (.t 5), none⟩,
  ⟨(some 14), .ia 3 (.t 12) (.t 13), none⟩,
  ⟨(some 15), .fa 0 (.t 14), none⟩,
  ⟨(some 16), .load1 (.t 15), none⟩,
  ⟨(some 17), .mv (.t 1), none⟩,
  ⟨(some 18), .bin .neq (.t 16) (.t 17), none⟩]) (.cond (.t 18) (.seq (.reg false [⟨(some 4), .mv (.c (.int .i64 (-1))), none⟩]) (.ret)) (.skip))) (.seq (.reg false [⟨(some 19), .mv (.t 1), none⟩,
  ⟨(some 20), .bin .add (.t 19) (.c (.int .i64 1)), none⟩,
  ⟨(some 1), .mv (.t 20), none⟩]) (.seq (.seq (.reg false [⟨(some 21), .mv (.t 0), none⟩,
  ⟨(some 22), .mv (.t 5), none⟩,
  ⟨(some 23), .ia 3 (.t 21) (.t 22), none⟩,
  ⟨(some 24), .fa 1 (.t 23), none⟩,
  ⟨(some 25), .load1 (.t 24), none⟩,
  ⟨(some 26), .mv (.t 1), none⟩,
  ⟨(some 27), .bin .neq (.t 25) (.t 26), none⟩]) (.cond (.t 27) (.seq (.reg false [⟨(some 4), .mv (.c (.int .i64 (-1))), none⟩]) (.ret)) (.skip))) (.seq (.reg false [⟨(some 28), .mv (.t 1), none⟩,
  ⟨(some 29), .bin .add (.t 28) (.c (.int .i64 1)), none⟩,
  ⟨(some 1), .mv (.t 29), none⟩]) (.seq (.reg false [⟨(some 30), .mv (.t 0), none⟩,
  ⟨(some 31), .mv (.t 5), none⟩,
  ⟨(some 32), .ia 3 (.t 30) (.t 31), none⟩,
  ⟨(some 33), .fa 2 (.t 32), none⟩,
  ⟨(some 34), .load1 (.t 33), none⟩,
  ⟨(some 35), .mv (.t 1), none⟩,
  ⟨(some 36), .call F_laws_heldByteS [(.t 34), (.t 35)], none⟩,
  ⟨(some 1), .mv (.t 36), none⟩]) (.seq (.reg false [⟨(some 37), .mv (.t 1), none⟩,
  ⟨(some 38), .bin .lss (.t 37) (.c (.int .i64 0)), none⟩]) (.cond (.t 38) (.seq (.reg false [⟨(some 4), .mv (.c (.int .i64 (-1))), none⟩]) (.ret)) (.skip))))))))) (.reg false [⟨(some 10), .mv (.t 5), none⟩,
  ⟨(some 11), .bin .add (.t 10) (.c (.int .i64 1)), none⟩,
  ⟨(some 5), .mv (.t 11), none⟩]))
def L_laws_heldBlockS_0 : ACode := B_laws_heldBlockS_0
def C_laws_heldBlockS : ACode := .seq (.reg false [⟨(some 4), .mv (.c (.int .i64 0)), none⟩]) (.seq (.seq (.reg false [⟨(some 5), .mv (.c (.int .i64 0)), none⟩]) (.block 0 (.loop K_laws_heldBlockS_0 L_laws_heldBlockS_0))) (.seq (.reg false [⟨(some 39), .mv (.t 1), none⟩,
  ⟨(some 4), .mv (.t 39), none⟩]) (.ret)))
def A_laws_heldBlockS : AFun := ⟨C_laws_heldBlockS, 40, [.tmp 4]⟩
def C_laws_FnExactEvictRest : ACode := .seq (.reg false [⟨(some 8), .mv (.c (.bool false)), none⟩]) (.seq (.reg false [⟨(some 9), .mv (.c (.int .i64 1048576)), none⟩]) (.seq (.reg false [⟨(some 17), .mv (.t 0), none⟩,
  ⟨(some 18), .mv (.t 9), none⟩,
  ⟨(some 19), .call F_laws_szBlockS [(.t 17), (.t 18)], none⟩,
  ⟨(some 9), .mv (.t 19), none⟩]) (.seq (.seq (.reg false [⟨(some 20), .mv (.t 9), none⟩,
  ⟨(some 21), .bin .lss (.t 20) (.c (.int .i64 0)), none⟩]) (.cond (.t 21) (.seq (.reg false [⟨(some 8), .mv (.c (.bool true)), none⟩]) (.ret)) (.skip))) (.seq (.reg false [⟨(some 22), .mv (.t 0), none⟩,
  ⟨(some 23), .call F_laws_toBlockS [(.t 22)], none⟩,
  ⟨(some 24), .mv (.t 1), none⟩,
  ⟨(some 25), .mv (.t 2), none⟩,
  ⟨(some 26), .mv (.t 3), none⟩,
  ⟨(some 27), .call F_spec_EvictRest [(.t 23), (.t 24), (.t 25), (.t 26)], none⟩,
  ⟨(some 10), .mv (.t 27), none⟩]) (.seq (.reg false [⟨(some 28), .mv (.t 0), none⟩,
  ⟨(some 29), .call F_laws_toBlockS [(.t 28)], none⟩,
  ⟨(some 11), .mv (.t 29), none⟩]) (.seq (.reg false [⟨(some 30), .mv (.t 11), none⟩,
  ⟨(some 31), .mv (.t 1), none⟩,
  ⟨(some 32), .mv (.t 2), none⟩,
  ⟨(some 33), .mv (.t 3), none⟩,
  ⟨(some 34), .call F_impl_EvictRest [(.t 30), (.t 31), (.t 32), (.t 33)], none⟩,
  ⟨(some 12), .mv (.t 34), none⟩]) (.seq (.seq (.reg false [⟨(some 35), .mv (.t 12), none⟩,
  ⟨(some 36), .mv (.t 10), none⟩,
  ⟨(some 37), .call F_laws_eqBlockS [(.t 35), (.t 36)], none⟩,
  ⟨(some 38), .not (.t 37), none⟩]) (.cond (.t 38) (.seq (.reg false [⟨(some 8), .mv (.c (.bool false)), none⟩]) (.ret)) (.skip))) (.seq (.seq (.reg false [⟨(some 39), .mv (.t 11), none⟩,
  ⟨(some 40), .mv (.t 0), none⟩,
  ⟨(some 41), .call F_laws_toBlockS [(.t 40)], none⟩,
  ⟨(some 42), .call F_laws_eqBlockS [(.t 39), (.t 41)], none⟩,
  ⟨(some 43), .not (.t 42), none⟩]) (.cond (.t 43) (.seq (.reg false [⟨(some 8), .mv (.c (.bool false)), none⟩]) (.ret)) (.skip))) (.seq (.reg false [⟨(some 13), .mv (.c (.int .i64 1)), none⟩]) (.seq (.reg false [⟨(some 44), .mv (.t 11), none⟩,
  ⟨(some 45), .mv (.t 13), none⟩,
  ⟨(some 46), .call F_laws_markBlockS [(.t 44), (.t 45)], none⟩,
  ⟨(some 13), .mv (.t 46), none⟩]) (.seq (.seq (.reg false [⟨(some 47), .mv (.t 13), none⟩,
  ⟨(some 48), .bin .lss (.t 47) (.c (.int .i64 0)), none⟩,
  ⟨(some 49), .mv (.t 48), none⟩,
  ⟨(some 50), .mv (.t 12), (some (49, false))⟩,
  ⟨(some 51), .mv (.t 10), (some (49, false))⟩,
  ⟨(some 52), .call F_laws_eqBlockS [(.t 50), (.t 51)], (some (49, false))⟩,
  ⟨(some 53), .not (.t 52), (some (49, false))⟩,
  ⟨(some 54), .pick (.t 49) (.c (.bool true)) (.t 53), none⟩]) (.cond (.t 54) (.seq (.reg false [⟨(some 8), .mv (.c (.bool false)), none⟩]) (.ret)) (.skip))) (.seq (.reg false [⟨(some 14), .mv (.c (.int .i64 1)), none⟩]) (.seq (.reg false [⟨(some 55), .mv (.t 12), none⟩,
  ⟨(some 56), .mv (.t 14), none⟩,
  ⟨(some 57), .call F_laws_markBlockS [(.t 55), (.t 56)], none⟩,
  ⟨(some 14), .mv (.t 57), none⟩]) (.seq (.reg false [⟨(some 15), .mv (.c (.int .i64 1)), none⟩]) (.seq (.reg false [⟨(some 58), .mv (.t 12), none⟩,
  ⟨(some 59), .mv (.t 15), none⟩,
  ⟨(some 60), .call F_laws_heldBlockS [(.t 58), (.t 59)], none⟩,
  ⟨(some 15), .mv (.t 60), none⟩]) (.seq (.seq (.reg false [⟨(some 61), .mv (.t 15), none⟩,
  ⟨(some 62), .bin .lss (.t 61) (.c (.int .i64 0)), none⟩]) (.cond (.t 62) (.seq (.reg false [⟨(some 8), .mv (.c (.bool false)), none⟩]) (.ret)) (.skip))) (.seq (.seq (.reg false [⟨(some 63), .mv (.t 15), none⟩,
  ⟨(some 64), .mv (.t 14), none⟩,
  ⟨(some 65), .bin .neq (.t 63) (.t 64), none⟩]) (.cond (.t 65) (.seq (.reg false [⟨(some 8), .mv (.c (.bool false)), none⟩]) (.ret)) (.skip))) (.seq (.reg false [⟨(some 66), .mv (.t 0), none⟩,
  ⟨(some 67), .call F_laws_toBlockS [(.t 66)], none⟩,
  ⟨(some 68), .mv (.t 1), none⟩,
  ⟨(some 69), .mv (.t 2), none⟩,
  ⟨(some 70), .mv (.t 3), none⟩,
  ⟨(some 71), .call F_impl_EvictRest [(.t 67), (.t 68), (.t 69), (.t 70)], none⟩,
  ⟨(some 16), .mv (.t 71), none⟩]) (.seq (.seq (.reg false [⟨(some 72), .mv (.t 16), none⟩,
  ⟨(some 73), .mv (.t 10), none⟩,
  ⟨(some 74), .call F_laws_eqBlockS [(.t 72), (.t 73)], none⟩,
  ⟨(some 75), .not (.t 74), none⟩]) (.cond (.t 75) (.seq (.reg false [⟨(some 8), .mv (.c (.bool false)), none⟩]) (.ret)) (.skip))) (.seq (.reg false [⟨(some 15), .mv (.c (.int .i64 1)), none⟩]) (.seq (.reg false [⟨(some 76), .mv (.t 12), none⟩,
  ⟨(some 77), .mv (.t 15), none⟩,
  ⟨(some 78), .call F_laws_heldBlockS [(.t 76), (.t 77)], none⟩,
  ⟨(some 15), .mv (.t 78), none⟩]) (.seq (.seq (.reg false [⟨(some 79), .mv (.t 15), none⟩,
  ⟨(some 80), .bin .lss (.t 79) (.c (.int .i64 0)), none⟩]) (.cond (.t 80) (.seq (.reg false [⟨(some 8), .mv (.c (.bool false)), none⟩]) (.ret)) (.skip))) (.seq (.seq (.reg false [⟨(some 81), .mv (.t 15), none⟩,
  ⟨(some 82), .mv (.t 14), none⟩,
  ⟨(some 83), .bin .neq (.t 81) (.t 82), none⟩]) (.cond (.t 83) (.seq (.reg false [⟨(some 8), .mv (.c (.bool false)), none⟩]) (.ret)) (.skip))) (.seq (.reg false [⟨(some 8), .mv (.c (.bool true)), none⟩]) (.ret)))))))))))))))))))))))))
def A_laws_FnExactEvictRest : AFun := ⟨C_laws_FnExactEvictRest, 84, [.tmp 8]⟩
end GoAm
