/- The code that the law reaches, for the abstract machine: printed by a program. -/
import Derived.Test.YtdljidfkiopiiaaAmDef
set_option autoImplicit false
set_option linter.unusedVariables false
set_option linter.unusedSimpArgs false
namespace GoAm
open Go
def F_spec_l15Right : Go.FuncId := 68
def F_spec_l15Coord : Go.FuncId := 69
def F_spec_Coords : Go.FuncId := 29
def F_laws_toIntS : Go.FuncId := 30
def F_impl_within : Go.FuncId := 62
def F_slices_IndexFunc_int_int : Go.FuncId := 100
def F_slices_ContainsFunc_int_int : Go.FuncId := 89
def F_impl_isSeq_1 : Go.FuncId := 90
def F_impl_isSeq : Go.FuncId := 70
def F_impl_coords : Go.FuncId := 71
def F_impl_Coords : Go.FuncId := 31
def F_laws_eqIntS : Go.FuncId := 32
def F_laws_markIntS : Go.FuncId := 33
def F_laws_heldIntS : Go.FuncId := 34
def F_laws_FnExactCoords : Go.FuncId := 9
def K_spec_l15Right_0 : List Bool := [true, true, false, false, false, true, false, false, false, false, false, false, false, false, false, false, false, false, false, false, false, false, false, false, false, false, false, false, false, false, false, false, false, false, false, false]
def B_spec_l15Right_0 : ACode := .seq (.seq (.reg false [⟨(some 17), .mv (.t 5), none⟩,
  ⟨(some 18), .mv (.t 1), none⟩,
  ⟨(some 19), .len (.t 18), none⟩,
  ⟨(some 20), .bin .lss (.t 17) (.t 19), none⟩]) (.cond (.t 20) (.skip) (.exit 0))) (.seq (.block 1 (.seq (.reg false [⟨(some 23), .mv (.t 1), none⟩,
  ⟨(some 24), .mv (.t 5), none⟩,
  ⟨(some 25), .ia 1 (.t 23) (.t 24), none⟩,
  ⟨(some 26), .load1 (.t 25), none⟩,
  ⟨(some 27), .bin .lss (.t 26) (.c (.int .i64 (-1))), none⟩,
  ⟨(some 28), .mv (.t 27), none⟩,
  ⟨(some 29), .mv (.t 1), (some (28, false))⟩,
  ⟨(some 30), .mv (.t 5), (some (28, false))⟩,
  ⟨(some 31), .ia 1 (.t 29) (.t 30), (some (28, false))⟩,
  ⟨(some 32), .load1 (.t 31), (some (28, false))⟩,
  ⟨(some 33), .mv (.t 0), (some (28, false))⟩,
  ⟨(some 34), .bin .geq (.t 32) (.t 33), (some (28, false))⟩,
  ⟨(some 35), .pick (.t 28) (.c (.bool true)) (.t 34), none⟩]) (.cond (.t 35) (.seq (.reg false [⟨(some 4), .mv (.c (.bool false)), none⟩]) (.ret)) (.skip)))) (.reg false [⟨(some 21), .mv (.t 5), none⟩,
  ⟨(some 22), .bin .add (.t 21) (.c (.int .i64 1)), none⟩,
  ⟨(some 5), .mv (.t 22), none⟩]))
def L_spec_l15Right_0 : ACode := B_spec_l15Right_0
def C_spec_l15Right : ACode := .seq (.reg false [⟨(some 4), .mv (.c (.bool false)), none⟩]) (.seq (.seq (.reg false [⟨(some 6), .mv (.t 0), none⟩,
  ⟨(some 7), .bin .lss (.t 6) (.c (.int .i64 0)), none⟩,
  ⟨(some 8), .mv (.t 7), none⟩,
  ⟨(some 9), .mv (.t 0), (some (8, false))⟩,
  ⟨(some 10), .bin .gtr (.t 9) (.c (.int .i64 256)), (some (8, false))⟩,
  ⟨(some 11), .pick (.t 8) (.c (.bool true)) (.t 10), none⟩,
  ⟨(some 12), .mv (.t 11), none⟩,
  ⟨(some 13), .mv (.t 1), (some (12, false))⟩,
  ⟨(some 14), .len (.t 13), (some (12, false))⟩,
  ⟨(some 15), .bin .gtr (.t 14) (.c (.int .i64 700)), (some (12, false))⟩,
  ⟨(some 16), .pick (.t 12) (.c (.bool true)) (.t 15), none⟩]) (.cond (.t 16) (.seq (.reg false [⟨(some 4), .mv (.c (.bool false)), none⟩]) (.ret)) (.skip))) (.seq (.seq (.reg false [⟨(some 5), .mv (.c (.int .i64 0)), none⟩]) (.block 0 (.loop K_spec_l15Right_0 L_spec_l15Right_0))) (.seq (.reg false [⟨(some 4), .mv (.c (.bool true)), none⟩]) (.ret))))
def A_spec_l15Right : AFun := ⟨C_spec_l15Right, 36, [.tmp 4]⟩
def K_spec_l15Coord_0 : List Bool := [true, true, true, false, false, false, false, true, false, false, false, false, false, false, false, false, false, false, false, false, false, false, false, false, false, false, false, false, false, false, false, false, false, false, false, false, false, false]
def B_spec_l15Coord_0 : ACode := .seq (.seq (.reg false [⟨(some 18), .mv (.t 7), none⟩,
  ⟨(some 19), .bin .geq (.t 18) (.c (.int .i64 0)), none⟩]) (.cond (.t 19) (.skip) (.exit 0))) (.seq (.block 1 (.seq (.reg true [⟨(some 22), .mv (.t 1), none⟩,
  ⟨(some 23), .mv (.t 7), none⟩,
  ⟨(some 24), .ia 1 (.t 22) (.t 23), none⟩,
  ⟨(some 25), .load1 (.t 24), none⟩,
  ⟨(some 26), .mv (.t 1), none⟩,
  ⟨(some 27), .mv (.t 2), none⟩,
  ⟨(some 28), .ia 1 (.t 26) (.t 27), none⟩,
  ⟨(some 29), .load1 (.t 28), none⟩,
  ⟨(some 30), .bin .eql (.t 25) (.t 29), none⟩]) (.cond (.t 30) (.seq (.reg false [⟨(some 31), .mv (.t 0), none⟩,
  ⟨(some 32), .mv (.t 7), none⟩,
  ⟨(some 33), .bin .add (.t 31) (.t 32), none⟩,
  ⟨(some 6), .mv (.t 33), none⟩]) (.ret)) (.skip)))) (.reg false [⟨(some 20), .mv (.t 7), none⟩,
  ⟨(some 21), .bin .sub (.t 20) (.c (.int .i64 1)), none⟩,
  ⟨(some 7), .mv (.t 21), none⟩]))
def L_spec_l15Coord_0 : ACode := B_spec_l15Coord_0
def C_spec_l15Coord : ACode := .seq (.reg false [⟨(some 6), .mv (.c (.int .i64 0)), none⟩]) (.seq (.seq (.reg false [⟨(some 8), .mv (.t 1), none⟩,
  ⟨(some 9), .mv (.t 2), none⟩,
  ⟨(some 10), .ia 1 (.t 8) (.t 9), none⟩,
  ⟨(some 11), .load1 (.t 10), none⟩,
  ⟨(some 12), .bin .lss (.t 11) (.c (.int .i64 0)), none⟩]) (.cond (.t 12) (.seq (.reg false [⟨(some 13), .mv (.t 0), none⟩,
  ⟨(some 14), .mv (.t 2), none⟩,
  ⟨(some 15), .bin .add (.t 13) (.t 14), none⟩,
  ⟨(some 6), .mv (.t 15), none⟩]) (.ret)) (.skip))) (.seq (.seq (.reg false [⟨(some 16), .mv (.t 2), none⟩,
  ⟨(some 17), .bin .sub (.t 16) (.c (.int .i64 1)), none⟩,
  ⟨(some 7), .mv (.t 17), none⟩]) (.block 0 (.loop K_spec_l15Coord_0 L_spec_l15Coord_0))) (.seq (.reg false [⟨(some 34), .mv (.t 1), none⟩,
  ⟨(some 35), .mv (.t 2), none⟩,
  ⟨(some 36), .ia 1 (.t 34) (.t 35), none⟩,
  ⟨(some 37), .load1 (.t 36), none⟩,
  ⟨(some 6), .mv (.t 37), none⟩]) (.ret))))
def A_spec_l15Coord : AFun := ⟨C_spec_l15Coord, 38, [.tmp 6]⟩
def K_spec_Coords_0 : List Bool := [true, true, false, false, false, false, true, true, false, false, false, false, false, false, false, false, false, false, false, false, false, false, false, false, false, false, false]
def B_spec_Coords_0 : ACode := .seq (.seq (.reg false [⟨(some 13), .mv (.t 7), none⟩,
  ⟨(some 14), .mv (.t 1), none⟩,
  ⟨(some 15), .len (.t 14), none⟩,
  ⟨(some 16), .bin .lss (.t 13) (.t 15), none⟩]) (.cond (.t 16) (.skip) (.exit 0))) (.seq (.block 1 (.reg false [⟨(some 19), .mv (.t 6), none⟩,
  ⟨(some 20), .mv (.t 0), none⟩,
  ⟨(some 21), .mv (.t 1), none⟩,
  ⟨(some 22), .mv (.t 7), none⟩,
  ⟨(some 23), .call F_spec_l15Coord [(.t 20), (.t 21), (.t 22)], none⟩,
  ⟨(some 24), .mkl 1 1 [(.int .i64 0)] [(0, 1, (.t 23))], none⟩,
  ⟨(some 25), .app 1 8 (.t 19) (.t 24), none⟩,
  ⟨(some 6), .mv (.t 25), none⟩])) (.reg false [⟨(some 17), .mv (.t 7), none⟩,
  ⟨(some 18), .bin .add (.t 17) (.c (.int .i64 1)), none⟩,
  ⟨(some 7), .mv (.t 18), none⟩]))
def L_spec_Coords_0 : ACode := B_spec_Coords_0
def C_spec_Coords : ACode := .seq (.reg false [⟨(some 4), .mv (.c (.slice none 0 0)), none⟩,
  ⟨(some 5), .mv (.c (.bool false)), none⟩]) (.seq (.seq (.reg false [⟨(some 8), .mv (.t 0), none⟩,
  ⟨(some 9), .mv (.t 1), none⟩,
  ⟨(some 10), .call F_spec_l15Right [(.t 8), (.t 9)], none⟩,
  ⟨(some 11), .not (.t 10), none⟩]) (.cond (.t 11) (.seq (.reg false [⟨(some 4), .mv (.c (.slice none 0 0)), none⟩,
  ⟨(some 5), .mv (.c (.bool false)), none⟩]) (.ret)) (.skip))) (.seq (.reg false [⟨(some 12), .mkl 1 0 [] [], none⟩,
  ⟨(some 6), .mv (.t 12), none⟩]) (.seq (.seq (.reg false [⟨(some 7), .mv (.c (.int .i64 0)), none⟩]) (.block 0 (.loop K_spec_Coords_0 L_spec_Coords_0))) (.seq (.reg false [⟨(some 26), .mv (.t 6), none⟩,
  ⟨(some 4), .mv (.t 26), none⟩,
  ⟨(some 5), .mv (.c (.bool true)), none⟩]) (.ret)))))
def A_spec_Coords : AFun := ⟨C_spec_Coords, 27, [.tmp 4, .tmp 5]⟩
def K_laws_toIntS_0 : List Bool := [true, false, false, true, true, false, false, false, false, false, false, false, false, false, false, false, false, false, false, false, false, false]
def B_laws_toIntS_0 : ACode := .seq (.seq (.reg false [⟨(some 8), .mv (.t 4), none⟩,
  ⟨(some 9), .mv (.t 0), none⟩,
  ⟨(some 10), .len (.t 9), none⟩,
  ⟨(some 11), .bin .lss (.t 8) (.t 10), none⟩]) (.cond (.t 11) (.skip) (.exit 0))) (.seq (.block 1 (.reg false [⟨(some 14), .mv (.t 3), none⟩,
  ⟨(some 15), .mv (.t 4), none⟩,
  ⟨(some 16), .mv (.t 0), none⟩,
  ⟨(some 17), .mv (.t 4), none⟩,
  ⟨(some 18), .ia 1 (.t 16) (.t 17), none⟩,
  ⟨(some 19), .load1 (.t 18), none⟩,
  ⟨(some 20), .ia 1 (.t 14) (.t 15), none⟩,
  ⟨none, .store 1 (.t 20) (.t 19), none⟩])) (.reg false [⟨(some 12), .mv (.t 4), none⟩,
  ⟨(some 13), .bin .add (.t 12) (.c (.int .i64 1)), none⟩,
  ⟨(some 4), .mv (.t 13), none⟩]))
def L_laws_toIntS_0 : ACode := B_laws_toIntS_0
def C_laws_toIntS : ACode := .seq (.reg false [⟨(some 2), .mv (.c (.slice none 0 0)), none⟩]) (.seq (.reg false [⟨(some 5), .mv (.t 0), none⟩,
  ⟨(some 6), .len (.t 5), none⟩,
  ⟨(some 7), .make 1 8 [(.int .i64 0)] (.t 6), none⟩,
  ⟨(some 3), .mv (.t 7), none⟩]) (.seq (.seq (.reg false [⟨(some 4), .mv (.c (.int .i64 0)), none⟩]) (.block 0 (.loop K_laws_toIntS_0 L_laws_toIntS_0))) (.seq (.reg false [⟨(some 21), .mv (.t 3), none⟩,
  ⟨(some 2), .mv (.t 21), none⟩]) (.ret))))
def A_laws_toIntS : AFun := ⟨C_laws_toIntS, 22, [.tmp 2]⟩
def C_impl_within : ACode := .seq (.reg false [⟨(some 6), .mv (.c (.bool false)), none⟩]) (.seq (.reg false [⟨(some 7), .mv (.t 0), none⟩,
  ⟨(some 8), .mv (.t 1), none⟩,
  ⟨(some 9), .bin .geq (.t 7) (.t 8), none⟩,
  ⟨(some 10), .mv (.t 9), none⟩,
  ⟨(some 11), .mv (.t 0), (some (10, true))⟩,
  ⟨(some 12), .mv (.t 2), (some (10, true))⟩,
  ⟨(some 13), .bin .leq (.t 11) (.t 12), (some (10, true))⟩,
  ⟨(some 14), .pick (.t 10) (.t 13) (.c (.bool false)), none⟩,
  ⟨(some 6), .mv (.t 14), none⟩]) (.ret))
def A_impl_within : AFun := ⟨C_impl_within, 15, [.tmp 6]⟩
def K_slices_IndexFunc_int_int_0 : List Bool := [true, true, false, false, false, false, false, true, true, false, false, false, false, false, false, false, false, false, false]
def B_slices_IndexFunc_int_int_0 : ACode := .seq (.reg false [⟨(some 9), .bin .lss (.t 8) (.t 7), none⟩]) (.seq (.cond (.t 9) (.skip) (.exit 0)) (.seq (.block 1 (.seq (.reg false [⟨(some 10), .mv (.t 8), none⟩,
  ⟨(some 5), .mv (.t 10), none⟩]) (.seq (.reg false [⟨(some 11), .mv (.t 1), none⟩,
  ⟨(some 12), .mv (.t 0), none⟩,
  ⟨(some 13), .mv (.t 5), none⟩,
  ⟨(some 14), .ia 1 (.t 12) (.t 13), none⟩,
  ⟨(some 15), .load1 (.t 14), none⟩,
  ⟨(some 16), .callv (.t 11) [(.t 15)], none⟩]) (.cond (.t 16) (.seq (.reg false [⟨(some 17), .mv (.t 5), none⟩,
  ⟨(some 4), .mv (.t 17), none⟩]) (.ret)) (.skip))))) (.reg false [⟨(some 18), .bin .add (.t 8) (.c (.int .i64 1)), none⟩,
  ⟨(some 8), .mv (.t 18), none⟩])))
def L_slices_IndexFunc_int_int_0 : ACode := B_slices_IndexFunc_int_int_0
def C_slices_IndexFunc_int_int : ACode := .seq (.reg false [⟨(some 4), .mv (.c (.int .i64 0)), none⟩]) (.seq (.seq (.reg false [⟨(some 6), .mv (.t 0), none⟩,
  ⟨(some 7), .len (.t 6), none⟩,
  ⟨(some 8), .mv (.c (.int .i64 0)), none⟩]) (.block 0 (.loop K_slices_IndexFunc_int_int_0 L_slices_IndexFunc_int_int_0))) (.seq (.reg false [⟨(some 4), .mv (.c (.int .i64 (-1))), none⟩]) (.ret)))
def A_slices_IndexFunc_int_int : AFun := ⟨C_slices_IndexFunc_int_int, 19, [.tmp 4]⟩
def C_slices_ContainsFunc_int_int : ACode := .seq (.reg false [⟨(some 4), .mv (.c (.bool false)), none⟩]) (.seq (.reg false [⟨(some 5), .mv (.t 0), none⟩,
  ⟨(some 6), .mv (.t 1), none⟩,
  ⟨(some 7), .call F_slices_IndexFunc_int_int [(.t 5), (.t 6)], none⟩,
  ⟨(some 8), .bin .geq (.t 7) (.c (.int .i64 0)), none⟩,
  ⟨(some 4), .mv (.t 8), none⟩]) (.ret))
def A_slices_ContainsFunc_int_int : AFun := ⟨C_slices_ContainsFunc_int_int, 9, [.tmp 4]⟩
def C_impl_isSeq_1 : ACode := .seq (.reg false [⟨(some 3), .mv (.c (.bool false)), none⟩]) (.seq (.reg false [⟨(some 4), .mv (.t 0), none⟩,
  ⟨(some 5), .load1 (.t 1), none⟩,
  ⟨(some 6), .bin .sub (.t 5) (.c (.int .i64 1)), none⟩,
  ⟨(some 7), .call F_impl_within [(.t 4), (.c (.int .i64 (-1))), (.t 6)], none⟩,
  ⟨(some 8), .not (.t 7), none⟩,
  ⟨(some 3), .mv (.t 8), none⟩]) (.ret))
def A_impl_isSeq_1 : AFun := ⟨C_impl_isSeq_1, 9, [.tmp 3]⟩
def C_impl_isSeq : ACode := .seq (.reg false [⟨(some 2), .box (.t 0), none⟩,
  ⟨(some 4), .mv (.c (.bool false)), none⟩]) (.seq (.reg false [⟨(some 5), .load1 (.t 2), none⟩,
  ⟨(some 6), .call F_impl_within [(.t 5), (.c (.int .i64 0)), (.c (.int .i64 256))], none⟩,
  ⟨(some 7), .mv (.t 6), none⟩,
  ⟨(some 8), .mv (.t 1), (some (7, true))⟩,
  ⟨(some 9), .len (.t 8), (some (7, true))⟩,
  ⟨(some 10), .bin .leq (.t 9) (.c (.int .i64 700)), (some (7, true))⟩,
  ⟨(some 11), .pick (.t 7) (.t 10) (.c (.bool false)), none⟩,
  ⟨(some 12), .mv (.t 11), none⟩,
  ⟨(some 13), .mv (.t 1), (some (12, true))⟩,
  ⟨(some 14), .fn F_impl_isSeq_1 [(.t 2)], (some (12, true))⟩,
  ⟨(some 15), .call F_slices_ContainsFunc_int_int [(.t 13), (.t 14)], (some (12, true))⟩,
  ⟨(some 16), .not (.t 15), (some (12, true))⟩,
  ⟨(some 17), .pick (.t 12) (.t 16) (.c (.bool false)), none⟩,
  ⟨(some 4), .mv (.t 17), none⟩]) (.ret))
def A_impl_isSeq : AFun := ⟨C_impl_isSeq, 18, [.tmp 4]⟩
def K_impl_coords_1 : List Bool := [true, false, false, false, false, true, false, true, false, false, false, false, false, false, false, false, false, false, false, false, false, false, false, false, false, true, true, true, false, false, false, false, false, false, false, false, false, false, false, false, false, false, false, false, false, false, false, false, false, false, false, false, false, false, false]
def B_impl_coords_1 : ACode := .seq (.reg false [⟨(some 28), .bin .lss (.t 27) (.t 26), none⟩]) (.seq (.cond (.t 28) (.skip) (.exit 2)) (.seq (.block 3 (.seq (.reg false [⟨(some 29), .mv (.t 27), none⟩,
  ⟨(some 30), .ia 1 (.t 25) (.t 27), none⟩,
  ⟨(some 31), .load1 (.t 30), none⟩,
  ⟨(some 8), .mv (.t 29), none⟩,
  ⟨(some 9), .mv (.t 31), none⟩]) (.seq (.reg false [⟨(some 32), .mv (.t 7), none⟩,
  ⟨(some 33), .mv (.t 8), none⟩,
  ⟨(some 34), .mv (.t 0), none⟩,
  ⟨(some 35), .mv (.t 8), none⟩,
  ⟨(some 36), .bin .add (.t 34) (.t 35), none⟩,
  ⟨(some 37), .ia 1 (.t 32) (.t 33), none⟩,
  ⟨none, .store 1 (.t 37) (.t 36), none⟩]) (.seq (.reg false [⟨(some 38), .mv (.t 9), none⟩,
  ⟨(some 39), .bin .geq (.t 38) (.c (.int .i64 0)), none⟩]) (.cond (.t 39) (.reg false [⟨(some 40), .mv (.t 7), none⟩,
  ⟨(some 41), .mv (.t 8), none⟩,
  ⟨(some 42), .mv (.t 5), none⟩,
  ⟨(some 43), .mv (.t 9), none⟩,
  ⟨(some 44), .mv (.t 5), none⟩,
  ⟨(some 45), .mv (.t 9), none⟩,
  ⟨(some 46), .ia 1 (.t 44) (.t 45), none⟩,
  ⟨(some 47), .load1 (.t 46), none⟩,
  ⟨(some 48), .mv (.t 0), none⟩,
  ⟨(some 49), .mv (.t 8), none⟩,
  ⟨(some 50), .bin .add (.t 48) (.t 49), none⟩,
  ⟨(some 51), .ia 1 (.t 40) (.t 41), none⟩,
  ⟨none, .store 1 (.t 51) (.t 47), none⟩,
  ⟨(some 52), .ia 1 (.t 42) (.t 43), none⟩,
  ⟨none, .store 1 (.t 52) (.t 50), none⟩]) (.skip)))))) (.reg false [⟨(some 53), .bin .add (.t 27) (.c (.int .i64 1)), none⟩,
  ⟨(some 27), .mv (.t 53), none⟩])))
def L_impl_coords_1 : ACode := B_impl_coords_1
def K_impl_coords_0 : List Bool := [true, true, false, false, false, true, false, false, false, false, false, false, false, true, true, false, false, false, false, false, false, false, false, false, false, false, false, false, false, false, false, false, false, false, false, false, false, false, false, false, false, false, false, false, false, false, false, false, false, false, false, false, false, false, false]
def B_impl_coords_0 : ACode := .seq (.reg false [⟨(some 15), .bin .lss (.t 14) (.t 13), none⟩]) (.seq (.cond (.t 15) (.skip) (.exit 0)) (.seq (.block 1 (.seq (.reg false [⟨(some 16), .mv (.t 14), none⟩,
  ⟨(some 6), .mv (.t 16), none⟩]) (.reg false [⟨(some 17), .mv (.t 5), none⟩,
  ⟨(some 18), .mv (.t 6), none⟩,
  ⟨(some 19), .mv (.t 6), none⟩,
  ⟨(some 20), .ia 1 (.t 17) (.t 18), none⟩,
  ⟨none, .store 1 (.t 20) (.t 19), none⟩]))) (.reg false [⟨(some 21), .bin .add (.t 14) (.c (.int .i64 1)), none⟩,
  ⟨(some 14), .mv (.t 21), none⟩])))
def L_impl_coords_0 : ACode := B_impl_coords_0
def C_impl_coords : ACode := .seq (.reg false [⟨(some 4), .mv (.c (.slice none 0 0)), none⟩]) (.seq (.reg false [⟨(some 10), .mv (.t 0), none⟩,
  ⟨(some 11), .make 1 8 [(.int .i64 0)] (.t 10), none⟩,
  ⟨(some 5), .mv (.t 11), none⟩]) (.seq (.seq (.reg false [⟨(some 12), .mv (.t 5), none⟩,
  ⟨(some 13), .len (.t 12), none⟩,
  ⟨(some 14), .mv (.c (.int .i64 0)), none⟩]) (.block 0 (.loop K_impl_coords_0 L_impl_coords_0))) (.seq (.reg false [⟨(some 22), .mv (.t 1), none⟩,
  ⟨(some 23), .len (.t 22), none⟩,
  ⟨(some 24), .make 1 8 [(.int .i64 0)] (.t 23), none⟩,
  ⟨(some 7), .mv (.t 24), none⟩]) (.seq (.seq (.reg false [⟨(some 25), .mv (.t 1), none⟩,
  ⟨(some 26), .len (.t 25), none⟩,
  ⟨(some 27), .mv (.c (.int .i64 0)), none⟩]) (.block 2 (.loop K_impl_coords_1 L_impl_coords_1))) (.seq (.reg false [⟨(some 54), .mv (.t 7), none⟩,
  ⟨(some 4), .mv (.t 54), none⟩]) (.ret))))))
def A_impl_coords : AFun := ⟨C_impl_coords, 55, [.tmp 4]⟩
def C_impl_Coords : ACode := .seq (.reg false [⟨(some 4), .mv (.c (.slice none 0 0)), none⟩,
  ⟨(some 5), .mv (.c (.bool false)), none⟩]) (.seq (.seq (.reg false [⟨(some 6), .mv (.t 0), none⟩,
  ⟨(some 7), .mv (.t 1), none⟩,
  ⟨(some 8), .call F_impl_isSeq [(.t 6), (.t 7)], none⟩,
  ⟨(some 9), .not (.t 8), none⟩]) (.cond (.t 9) (.seq (.reg false [⟨(some 4), .mv (.c (.slice none 0 0)), none⟩,
  ⟨(some 5), .mv (.c (.bool false)), none⟩]) (.ret)) (.skip))) (.seq (.reg false [⟨(some 10), .mv (.t 0), none⟩,
  ⟨(some 11), .mv (.t 1), none⟩,
  ⟨(some 12), .call F_impl_coords [(.t 10), (.t 11)], none⟩,
  ⟨(some 4), .mv (.t 12), none⟩,
  ⟨(some 5), .mv (.c (.bool true)), none⟩]) (.ret)))
def A_impl_Coords : AFun := ⟨C_impl_Coords, 13, [.tmp 4, .tmp 5]⟩
def K_laws_eqIntS_0 : List Bool := [true, true, false, false, false, true, false, false, false, false, false, false, false, false, false, false, false, false, false, false, false, false, false, false, false, false]
def B_laws_eqIntS_0 : ACode := .seq (.seq (.reg false [⟨(some 11), .mv (.t 5), none⟩,
  ⟨(some 12), .mv (.t 0), none⟩,
  ⟨(some 13), .len (.t 12), none⟩,
  ⟨(some 14), .bin .lss (.t 11) (.t 13), none⟩]) (.cond (.t 14) (.skip) (.exit 0))) (.seq (.block 1 (.seq (.reg true [⟨(some 17), .mv (.t 0), none⟩,
  ⟨(some 18), .mv (.t 5), none⟩,
  ⟨(some 19), .ia 1 (.t 17) (.t 18), none⟩,
  ⟨(some 20), .load1 (.t 19), none⟩,
  ⟨(some 21), .mv (.t 1), none⟩,
  ⟨(some 22), .mv (.t 5), none⟩,
  ⟨(some 23), .ia 1 (.t 21) (.t 22), none⟩,
  ⟨(some 24), .load1 (.t 23), none⟩,
  ⟨(some 25), .bin .neq (.t 20) (.t 24), none⟩]) (.cond (.t 25) (.seq (.reg false [⟨(some 4), .mv (.c (.bool false)), none⟩]) (.ret)) (.skip)))) (.reg false [⟨(some 15), .mv (.t 5), none⟩,
  ⟨(some 16), .bin .add (.t 15) (.c (.int .i64 1)), none⟩,
  ⟨(some 5), .mv (.t 16), none⟩]))
def L_laws_eqIntS_0 : ACode := B_laws_eqIntS_0
def C_laws_eqIntS : ACode := .seq (.reg false [⟨(some 4), .mv (.c (.bool false)), none⟩]) (.seq (.seq (.reg false [⟨(some 6), .mv (.t 0), none⟩,
  ⟨(some 7), .len (.t 6), none⟩,
  ⟨(some 8), .mv (.t 1), none⟩,
  ⟨(some 9), .len (.t 8), none⟩,
  ⟨(some 10), .bin .neq (.t 7) (.t 9), none⟩]) (.cond (.t 10) (.seq (.reg false [⟨(some 4), .mv (.c (.bool false)), none⟩]) (.ret)) (.skip))) (.seq (.seq (.reg false [⟨(some 5), .mv (.c (.int .i64 0)), none⟩]) (.block 0 (.loop K_laws_eqIntS_0 L_laws_eqIntS_0))) (.seq (.reg false [⟨(some 4), .mv (.c (.bool true)), none⟩]) (.ret))))
def A_laws_eqIntS : AFun := ⟨C_laws_eqIntS, 26, [.tmp 4]⟩
def K_laws_markIntS_0 : List Bool := [true, true, false, false, false, true, false, false, false, false, false, false, false, false, false, false, false, false, false]
def B_laws_markIntS_0 : ACode := .seq (.seq (.reg false [⟨(some 6), .mv (.t 5), none⟩,
  ⟨(some 7), .mv (.t 0), none⟩,
  ⟨(some 8), .len (.t 7), none⟩,
  ⟨(some 9), .bin .lss (.t 6) (.t 8), none⟩]) (.cond (.t 9) (.skip) (.exit 0))) (.seq (.block 1 (.seq (.reg false [⟨(some 12), .mv (.t 0), none⟩,
  ⟨(some 13), .mv (.t 5), none⟩,
  ⟨(some 14), .mv (.t 1), none⟩,
  ⟨(some 15), .ia 1 (.t 12) (.t 13), none⟩,
  ⟨none, .store 1 (.t 15) (.t 14), none⟩]) (.reg false [⟨(some 16), .mv (.t 1), none⟩,
  ⟨(some 17), .bin .add (.t 16) (.c (.int .i64 1)), none⟩,
  ⟨(some 1), .mv (.t 17), none⟩]))) (.reg false [⟨(some 10), .mv (.t 5), none⟩,
  ⟨(some 11), .bin .add (.t 10) (.c (.int .i64 1)), none⟩,
  ⟨(some 5), .mv (.t 11), none⟩]))
def L_laws_markIntS_0 : ACode := B_laws_markIntS_0
def C_laws_markIntS : ACode := .seq (.reg false [⟨(some 4), .mv (.c (.int .i64 0)), none⟩]) (.seq (.seq (.reg false [⟨(some 5), .mv (.c (.int .i64 0)), none⟩]) (.block 0 (.loop K_laws_markIntS_0 L_laws_markIntS_0))) (.seq (.reg false [⟨(some 18), .mv (.t 1), none⟩,
  ⟨(some 4), .mv (.t 18), none⟩]) (.ret)))
def A_laws_markIntS : AFun := ⟨C_laws_markIntS, 19, [.tmp 4]⟩
def K_laws_heldIntS_0 : List Bool := [true, true, false, false, false, true, false, false, false, false, false, false, false, false, false, false, false, false, false, false, false]
def B_laws_heldIntS_0 : ACode := .seq (.seq (.reg false [⟨(some 6), .mv (.t 5), none⟩,
  ⟨(some 7), .mv (.t 0), none⟩,
  ⟨(some 8), .len (.t 7), none⟩,
  ⟨(some 9), .bin .lss (.t 6) (.t 8), none⟩]) (.cond (.t 9) (.skip) (.exit 0))) (.seq (.block 1 (.seq (.seq (.reg false [⟨(some 12), .mv (.t 0), none⟩,
  ⟨(some 13), .mv (.t 5), none⟩,
  ⟨(some 14), .ia 1 (.t 12) (.t 13), none⟩,
  ⟨(some 15), .load1 (.t 14), none⟩,
  ⟨(some 16), .mv (.t 1), none⟩,
  ⟨(some 17), .bin .neq (.t 15) (.t 16), none⟩]) (.cond (.t 17) (.seq (.reg false [⟨(some 4), .mv (.c (.int .i64 (-1))), none⟩]) (.ret)) (.skip))) (.reg false [⟨(some 18), .mv (.t 1), none⟩,
  ⟨(some 19), .bin .add (.t 18) (.c (.int .i64 1)), none⟩,
  ⟨(some 1), .mv (.t 19), none⟩]))) (.reg false [⟨(some 10), .mv (.t 5), none⟩,
  ⟨(some 11), .bin .add (.t 10) (.c (.int .i64 1)), none⟩,
  ⟨(some 5), .mv (.t 11), none⟩]))
def L_laws_heldIntS_0 : ACode := B_laws_heldIntS_0
def C_laws_heldIntS : ACode := .seq (.reg false [⟨(some 4), .mv (.c (.int .i64 0)), none⟩]) (.seq (.seq (.reg false [⟨(some 5), .mv (.c (.int .i64 0)), none⟩]) (.block 0 (.loop K_laws_heldIntS_0 L_laws_heldIntS_0))) (.seq (.reg false [⟨(some 20), .mv (.t 1), none⟩,
  ⟨(some 4), .mv (.t 20), none⟩]) (.ret)))
def A_laws_heldIntS : AFun := ⟨C_laws_heldIntS, 21, [.tmp 4]⟩
def C_laws_FnExactCoords : ACode := .seq (.reg false [⟨(some 4), .mv (.c (.bool false)), none⟩]) (.seq (.seq (.reg false [⟨(some 15), .mv (.t 1), none⟩,
  ⟨(some 16), .len (.t 15), none⟩,
  ⟨(some 17), .bin .gtr (.t 16) (.c (.int .i64 1048576)), none⟩]) (.cond (.t 17) (.seq (.reg false [⟨(some 4), .mv (.c (.bool true)), none⟩]) (.ret)) (.skip))) (.seq (.reg false [⟨(some 19), .mv (.t 0), none⟩,
  ⟨(some 20), .mv (.t 1), none⟩,
  ⟨(some 21), .call F_laws_toIntS [(.t 20)], none⟩,
  ⟨(some 22), .call F_spec_Coords [(.t 19), (.t 21)], none⟩,
  ⟨(some 18), .mv (.t 22), none⟩,
  ⟨(some 23), .ext (.t 18) 0, none⟩,
  ⟨(some 24), .ext (.t 18) 1, none⟩,
  ⟨(some 5), .mv (.t 23), none⟩,
  ⟨(some 6), .mv (.t 24), none⟩]) (.seq (.reg false [⟨(some 25), .mv (.t 1), none⟩,
  ⟨(some 26), .call F_laws_toIntS [(.t 25)], none⟩,
  ⟨(some 7), .mv (.t 26), none⟩]) (.seq (.reg false [⟨(some 28), .mv (.t 0), none⟩,
  ⟨(some 29), .mv (.t 7), none⟩,
  ⟨(some 30), .call F_impl_Coords [(.t 28), (.t 29)], none⟩,
  ⟨(some 27), .mv (.t 30), none⟩,
  ⟨(some 31), .ext (.t 27) 0, none⟩,
  ⟨(some 32), .ext (.t 27) 1, none⟩,
  ⟨(some 8), .mv (.t 31), none⟩,
  ⟨(some 9), .mv (.t 32), none⟩]) (.seq (.seq (.reg false [⟨(some 33), .mv (.t 8), none⟩,
  ⟨(some 34), .mv (.t 5), none⟩,
  ⟨(some 35), .call F_laws_eqIntS [(.t 33), (.t 34)], none⟩,
  ⟨(some 36), .not (.t 35), none⟩,
  ⟨(some 37), .mv (.t 36), none⟩,
  ⟨(some 38), .mv (.t 9), (some (37, false))⟩,
  ⟨(some 39), .mv (.t 6), (some (37, false))⟩,
  ⟨(some 40), .beq true (.t 38) (.t 39), (some (37, false))⟩,
  ⟨(some 41), .pick (.t 37) (.c (.bool true)) (.t 40), none⟩]) (.cond (.t 41) (.seq (.reg false [⟨(some 4), .mv (.c (.bool false)), none⟩]) (.ret)) (.skip))) (.seq (.seq (.reg false [⟨(some 42), .mv (.t 7), none⟩,
  ⟨(some 43), .mv (.t 1), none⟩,
  ⟨(some 44), .call F_laws_toIntS [(.t 43)], none⟩,
  ⟨(some 45), .call F_laws_eqIntS [(.t 42), (.t 44)], none⟩,
  ⟨(some 46), .not (.t 45), none⟩]) (.cond (.t 46) (.seq (.reg false [⟨(some 4), .mv (.c (.bool false)), none⟩]) (.ret)) (.skip))) (.seq (.reg false [⟨(some 10), .mv (.c (.int .i64 1)), none⟩]) (.seq (.reg false [⟨(some 47), .mv (.t 7), none⟩,
  ⟨(some 48), .mv (.t 10), none⟩,
  ⟨(some 49), .call F_laws_markIntS [(.t 47), (.t 48)], none⟩,
  ⟨(some 10), .mv (.t 49), none⟩]) (.seq (.seq (.reg false [⟨(some 50), .mv (.t 10), none⟩,
  ⟨(some 51), .bin .lss (.t 50) (.c (.int .i64 0)), none⟩,
  ⟨(some 52), .mv (.t 51), none⟩,
  ⟨(some 53), .mv (.t 8), (some (52, false))⟩,
  ⟨(some 54), .mv (.t 5), (some (52, false))⟩,
  ⟨(some 55), .call F_laws_eqIntS [(.t 53), (.t 54)], (some (52, false))⟩,
  ⟨(some 56), .not (.t 55), (some (52, false))⟩,
  ⟨(some 57), .pick (.t 52) (.c (.bool true)) (.t 56), none⟩,
  ⟨(some 58), .mv (.t 57), none⟩,
  ⟨(some 59), .mv (.t 9), (some (58, false))⟩,
  ⟨(some 60), .mv (.t 6), (some (58, false))⟩,
  ⟨(some 61), .beq true (.t 59) (.t 60), (some (58, false))⟩,
  ⟨(some 62), .pick (.t 58) (.c (.bool true)) (.t 61), none⟩]) (.cond (.t 62) (.seq (.reg false [⟨(some 4), .mv (.c (.bool false)), none⟩]) (.ret)) (.skip))) (.seq (.reg false [⟨(some 11), .mv (.c (.int .i64 1)), none⟩]) (.seq (.reg false [⟨(some 63), .mv (.t 8), none⟩,
  ⟨(some 64), .mv (.t 11), none⟩,
  ⟨(some 65), .call F_laws_markIntS [(.t 63), (.t 64)], none⟩,
  ⟨(some 11), .mv (.t 65), none⟩]) (.seq (.reg false [⟨(some 12), .mv (.c (.int .i64 1)), none⟩]) (.seq (.reg false [⟨(some 66), .mv (.t 8), none⟩,
  ⟨(some 67), .mv (.t 12), none⟩,
  ⟨(some 68), .call F_laws_heldIntS [(.t 66), (.t 67)], none⟩,
  ⟨(some 12), .mv (.t 68), none⟩]) (.seq (.seq (.reg false [⟨(some 69), .mv (.t 12), none⟩,
  ⟨(some 70), .bin .lss (.t 69) (.c (.int .i64 0)), none⟩]) (.cond (.t 70) (.seq (.reg false [⟨(some 4), .mv (.c (.bool false)), none⟩]) (.ret)) (.skip))) (.seq (.seq (.reg false [⟨(some 71), .mv (.t 12), none⟩,
  ⟨(some 72), .mv (.t 11), none⟩,
  ⟨(some 73), .bin .neq (.t 71) (.t 72), none⟩]) (.cond (.t 73) (.seq (.reg false [⟨(some 4), .mv (.c (.bool false)), none⟩]) (.ret)) (.skip))) (.seq (.reg false [⟨(some 75), .mv (.t 0), none⟩,
  ⟨(some 76), .mv (.t 1), none⟩,
  ⟨(some 77), .call F_laws_toIntS [(.t 76)], none⟩,
  ⟨(some 78), .call F_impl_Coords [(.t 75), (.t 77)], none⟩,
  ⟨(some 74), .mv (.t 78), none⟩,
  ⟨(some 79), .ext (.t 74) 0, none⟩,
  ⟨(some 80), .ext (.t 74) 1, none⟩,
  ⟨(some 13), .mv (.t 79), none⟩,
  ⟨(some 14), .mv (.t 80), none⟩]) (.seq (.seq (.reg false [⟨(some 81), .mv (.t 13), none⟩,
  ⟨(some 82), .mv (.t 5), none⟩,
  ⟨(some 83), .call F_laws_eqIntS [(.t 81), (.t 82)], none⟩,
  ⟨(some 84), .not (.t 83), none⟩,
  ⟨(some 85), .mv (.t 84), none⟩,
  ⟨(some 86), .mv (.t 14), (some (85, false))⟩,
  ⟨(some 87), .mv (.t 6), (some (85, false))⟩,
  ⟨(some 88), .beq true (.t 86) (.t 87), (some (85, false))⟩,
  ⟨(some 89), .pick (.t 85) (.c (.bool true)) (.t 88), none⟩]) (.cond (.t 89) (.seq (.reg false [⟨(some 4), .mv (.c (.bool false)), none⟩]) (.ret)) (.skip))) (.seq (.reg false [⟨(some 12), .mv (.c (.int .i64 1)), none⟩]) (.seq (.reg false [⟨(some 90), .mv (.t 8), none⟩,
  ⟨(some 91), .mv (.t 12), none⟩,
  ⟨(some 92), .call F_laws_heldIntS [(.t 90), (.t 91)], none⟩,
  ⟨(some 12), .mv (.t 92), none⟩]) (.seq (.seq (.reg false [⟨(some 93), .mv (.t 12), none⟩,
  ⟨(some 94), .bin .lss (.t 93) (.c (.int .i64 0)), none⟩]) (.cond (.t 94) (.seq (.reg false [⟨(some 4), .mv (.c (.bool false)), none⟩]) (.ret)) (.skip))) (.seq (.seq (.reg false [⟨(some 95), .mv (.t 12), none⟩,
  ⟨(some 96), .mv (.t 11), none⟩,
  ⟨(some 97), .bin .neq (.t 95) (.t 96), none⟩]) (.cond (.t 97) (.seq (.reg false [⟨(some 4), .mv (.c (.bool false)), none⟩]) (.ret)) (.skip))) (.seq (.reg false [⟨(some 4), .mv (.c (.bool true)), none⟩]) (.ret)))))))))))))))))))))))
def A_laws_FnExactCoords : AFun := ⟨C_laws_FnExactCoords, 98, [.tmp 4]⟩
end GoAm
