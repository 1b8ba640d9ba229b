/- The table of the functions that the law reaches. -/
import Derived.Test.YtcikkbcneeakiaaOramNewc
import Derived.Test.YtcikkbcneeakiaaAmOwn
set_option autoImplicit false
set_option linter.unusedVariables false
set_option linter.unusedSimpArgs false
namespace GoAm
open Go
def TL : List (Nat × AFun) := [(F_spec_l11Log, A_spec_l11Log), (F_spec_l12Frame, A_spec_l12Frame), (F_spec_MemNew, A_spec_MemNew), (F_spec_l02Pow, A_spec_l02Pow), (F_spec_TreeNodes, A_spec_TreeNodes), (F_spec_NodeSize, A_spec_NodeSize), (F_spec_OramNew, A_spec_OramNew), (F_impl_within, A_impl_within), (F_impl_isLog, A_impl_isLog), (F_impl_newMem, A_impl_newMem), (F_impl_treeNodes, A_impl_treeNodes), (F_impl_oramNew, A_impl_oramNew), (F_impl_OramNew, A_impl_OramNew), (F_laws_eqByteS, A_laws_eqByteS), (F_laws_eqBlock, A_laws_eqBlock), (F_laws_eqBlockS, A_laws_eqBlockS), (F_laws_eqCell, A_laws_eqCell), (F_laws_eqCellS, A_laws_eqCellS), (F_laws_eqTouch, A_laws_eqTouch), (F_laws_eqTouchS, A_laws_eqTouchS), (F_laws_eqMem, A_laws_eqMem), (F_laws_eqOram, A_laws_eqOram), (F_laws_markByteS, A_laws_markByteS), (F_laws_markBlockS, A_laws_markBlockS), (F_laws_markCellS, A_laws_markCellS), (F_laws_markTouchS, A_laws_markTouchS), (F_laws_markMem, A_laws_markMem), (F_laws_markOram, A_laws_markOram), (F_laws_heldByteS, A_laws_heldByteS), (F_laws_heldBlockS, A_laws_heldBlockS), (F_laws_heldCellS, A_laws_heldCellS), (F_laws_heldTouchS, A_laws_heldTouchS), (F_laws_heldMem, A_laws_heldMem), (F_laws_heldOram, A_laws_heldOram), (F_laws_FnExactOramNew, A_laws_FnExactOramNew)]
def T0 : Tab := lookTab TL
theorem T_spec_l11Log : T0 F_spec_l11Log = some A_spec_l11Log := rfl
theorem T_spec_l12Frame : T0 F_spec_l12Frame = some A_spec_l12Frame := rfl
theorem T_spec_MemNew : T0 F_spec_MemNew = some A_spec_MemNew := rfl
theorem T_spec_l02Pow : T0 F_spec_l02Pow = some A_spec_l02Pow := rfl
theorem T_spec_TreeNodes : T0 F_spec_TreeNodes = some A_spec_TreeNodes := rfl
theorem T_spec_NodeSize : T0 F_spec_NodeSize = some A_spec_NodeSize := rfl
theorem T_spec_OramNew : T0 F_spec_OramNew = some A_spec_OramNew := rfl
theorem T_impl_within : T0 F_impl_within = some A_impl_within := rfl
theorem T_impl_isLog : T0 F_impl_isLog = some A_impl_isLog := rfl
theorem T_impl_newMem : T0 F_impl_newMem = some A_impl_newMem := rfl
theorem T_impl_treeNodes : T0 F_impl_treeNodes = some A_impl_treeNodes := rfl
theorem T_impl_oramNew : T0 F_impl_oramNew = some A_impl_oramNew := rfl
theorem T_impl_OramNew : T0 F_impl_OramNew = some A_impl_OramNew := rfl
theorem T_laws_eqByteS : T0 F_laws_eqByteS = some A_laws_eqByteS := rfl
theorem T_laws_eqBlock : T0 F_laws_eqBlock = some A_laws_eqBlock := rfl
theorem T_laws_eqBlockS : T0 F_laws_eqBlockS = some A_laws_eqBlockS := rfl
theorem T_laws_eqCell : T0 F_laws_eqCell = some A_laws_eqCell := rfl
theorem T_laws_eqCellS : T0 F_laws_eqCellS = some A_laws_eqCellS := rfl
theorem T_laws_eqTouch : T0 F_laws_eqTouch = some A_laws_eqTouch := rfl
theorem T_laws_eqTouchS : T0 F_laws_eqTouchS = some A_laws_eqTouchS := rfl
theorem T_laws_eqMem : T0 F_laws_eqMem = some A_laws_eqMem := rfl
theorem T_laws_eqOram : T0 F_laws_eqOram = some A_laws_eqOram := rfl
theorem T_laws_markByteS : T0 F_laws_markByteS = some A_laws_markByteS := rfl
theorem T_laws_markBlockS : T0 F_laws_markBlockS = some A_laws_markBlockS := rfl
theorem T_laws_markCellS : T0 F_laws_markCellS = some A_laws_markCellS := rfl
theorem T_laws_markTouchS : T0 F_laws_markTouchS = some A_laws_markTouchS := rfl
theorem T_laws_markMem : T0 F_laws_markMem = some A_laws_markMem := rfl
theorem T_laws_markOram : T0 F_laws_markOram = some A_laws_markOram := rfl
theorem T_laws_heldByteS : T0 F_laws_heldByteS = some A_laws_heldByteS := rfl
theorem T_laws_heldBlockS : T0 F_laws_heldBlockS = some A_laws_heldBlockS := rfl
theorem T_laws_heldCellS : T0 F_laws_heldCellS = some A_laws_heldCellS := rfl
theorem T_laws_heldTouchS : T0 F_laws_heldTouchS = some A_laws_heldTouchS := rfl
theorem T_laws_heldMem : T0 F_laws_heldMem = some A_laws_heldMem := rfl
theorem T_laws_heldOram : T0 F_laws_heldOram = some A_laws_heldOram := rfl
theorem T_laws_FnExactOramNew : T0 F_laws_FnExactOramNew = some A_laws_FnExactOramNew := rfl
theorem S_spec_MemNew_0 (fr : List V) (M : Mem) : lp (aCall T0) K_spec_MemNew_0 L_spec_MemNew_0 fr M = thenL (aCode (aCall T0) B_spec_MemNew_0 (maskF K_spec_MemNew_0 fr) M) (aCall T0) K_spec_MemNew_0 L_spec_MemNew_0 := lp_eq _ _ _ _ _
@[simp] theorem m_spec_MemNew_0 (a0 a1 a2 a3 a4 a5 a6 a7 a8 a9 a10 a11 a12 a13 a14 a15 a16 a17 a18 a19 a20 a21 a22 a23 a24 a25 a26 a27 a28 a29 a30 a31 a32 a33 a34 a35 a36 a37 : V) : maskF K_spec_MemNew_0 [a0, a1, a2, a3, a4, a5, a6, a7, a8, a9, a10, a11, a12, a13, a14, a15, a16, a17, a18, a19, a20, a21, a22, a23, a24, a25, a26, a27, a28, a29, a30, a31, a32, a33, a34, a35, a36, a37] = [a0, a1, und, und, a4, a5, a6, und, und, und, und, und, und, und, und, und, und, und, und, und, und, und, und, und, und, und, und, und, und, und, und, und, und, und, und, und, und, und] := rfl
theorem S_spec_l02Pow_0 (fr : List V) (M : Mem) : lp (aCall T0) K_spec_l02Pow_0 L_spec_l02Pow_0 fr M = thenL (aCode (aCall T0) B_spec_l02Pow_0 (maskF K_spec_l02Pow_0 fr) M) (aCall T0) K_spec_l02Pow_0 L_spec_l02Pow_0 := lp_eq _ _ _ _ _
@[simp] theorem m_spec_l02Pow_0 (a0 a1 a2 a3 a4 a5 a6 a7 a8 a9 a10 : V) : maskF K_spec_l02Pow_0 [a0, a1, a2, a3, a4, a5, a6, a7, a8, a9, a10] = [a0, und, und, a3, und, und, und, und, und, und, und] := rfl
theorem S_impl_newMem_0 (fr : List V) (M : Mem) : lp (aCall T0) K_impl_newMem_0 L_impl_newMem_0 fr M = thenL (aCode (aCall T0) B_impl_newMem_0 (maskF K_impl_newMem_0 fr) M) (aCall T0) K_impl_newMem_0 L_impl_newMem_0 := lp_eq _ _ _ _ _
@[simp] theorem m_impl_newMem_0 (a0 a1 a2 a3 a4 a5 a6 a7 a8 a9 a10 a11 a12 a13 a14 a15 a16 a17 a18 a19 a20 : V) : maskF K_impl_newMem_0 [a0, a1, a2, a3, a4, a5, a6, a7, a8, a9, a10, a11, a12, a13, a14, a15, a16, a17, a18, a19, a20] = [und, a1, und, und, a4, a5, und, und, a8, a9, und, und, und, und, und, und, und, und, und, und, und] := rfl
theorem S_laws_eqByteS_0 (fr : List V) (M : Mem) : lp (aCall T0) K_laws_eqByteS_0 L_laws_eqByteS_0 fr M = thenL (aCode (aCall T0) B_laws_eqByteS_0 (maskF K_laws_eqByteS_0 fr) M) (aCall T0) K_laws_eqByteS_0 L_laws_eqByteS_0 := lp_eq _ _ _ _ _
@[simp] theorem m_laws_eqByteS_0 (a0 a1 a2 a3 a4 a5 a6 a7 a8 a9 a10 a11 a12 a13 a14 a15 a16 a17 a18 a19 a20 a21 a22 a23 a24 a25 : V) : maskF K_laws_eqByteS_0 [a0, a1, a2, a3, a4, a5, a6, a7, a8, a9, a10, a11, a12, a13, a14, a15, a16, a17, a18, a19, a20, a21, a22, a23, a24, a25] = [a0, a1, und, und, und, a5, und, und, und, und, und, und, und, und, und, und, und, und, und, und, und, und, und, und, und, und] := rfl
theorem S_laws_eqBlockS_0 (fr : List V) (M : Mem) : lp (aCall T0) K_laws_eqBlockS_0 L_laws_eqBlockS_0 fr M = thenL (aCode (aCall T0) B_laws_eqBlockS_0 (maskF K_laws_eqBlockS_0 fr) M) (aCall T0) K_laws_eqBlockS_0 L_laws_eqBlockS_0 := lp_eq _ _ _ _ _
@[simp] theorem m_laws_eqBlockS_0 (a0 a1 a2 a3 a4 a5 a6 a7 a8 a9 a10 a11 a12 a13 a14 a15 a16 a17 a18 a19 a20 a21 a22 a23 a24 a25 a26 : V) : maskF K_laws_eqBlockS_0 [a0, a1, a2, a3, a4, a5, a6, a7, a8, a9, a10, a11, a12, a13, a14, a15, a16, a17, a18, a19, a20, a21, a22, a23, a24, a25, a26] = [a0, a1, und, und, und, a5, und, und, und, und, und, und, und, und, und, und, und, und, und, und, und, und, und, und, und, und, und] := rfl
theorem S_laws_eqCellS_0 (fr : List V) (M : Mem) : lp (aCall T0) K_laws_eqCellS_0 L_laws_eqCellS_0 fr M = thenL (aCode (aCall T0) B_laws_eqCellS_0 (maskF K_laws_eqCellS_0 fr) M) (aCall T0) K_laws_eqCellS_0 L_laws_eqCellS_0 := lp_eq _ _ _ _ _
@[simp] theorem m_laws_eqCellS_0 (a0 a1 a2 a3 a4 a5 a6 a7 a8 a9 a10 a11 a12 a13 a14 a15 a16 a17 a18 a19 a20 a21 a22 a23 a24 a25 a26 : V) : maskF K_laws_eqCellS_0 [a0, a1, a2, a3, a4, a5, a6, a7, a8, a9, a10, a11, a12, a13, a14, a15, a16, a17, a18, a19, a20, a21, a22, a23, a24, a25, a26] = [a0, a1, und, und, und, a5, und, und, und, und, und, und, und, und, und, und, und, und, und, und, und, und, und, und, und, und, und] := rfl
theorem S_laws_eqTouchS_0 (fr : List V) (M : Mem) : lp (aCall T0) K_laws_eqTouchS_0 L_laws_eqTouchS_0 fr M = thenL (aCode (aCall T0) B_laws_eqTouchS_0 (maskF K_laws_eqTouchS_0 fr) M) (aCall T0) K_laws_eqTouchS_0 L_laws_eqTouchS_0 := lp_eq _ _ _ _ _
@[simp] theorem m_laws_eqTouchS_0 (a0 a1 a2 a3 a4 a5 a6 a7 a8 a9 a10 a11 a12 a13 a14 a15 a16 a17 a18 a19 a20 a21 a22 a23 a24 a25 a26 : V) : maskF K_laws_eqTouchS_0 [a0, a1, a2, a3, a4, a5, a6, a7, a8, a9, a10, a11, a12, a13, a14, a15, a16, a17, a18, a19, a20, a21, a22, a23, a24, a25, a26] = [a0, a1, und, und, und, a5, und, und, und, und, und, und, und, und, und, und, und, und, und, und, und, und, und, und, und, und, und] := rfl
theorem S_laws_markByteS_0 (fr : List V) (M : Mem) : lp (aCall T0) K_laws_markByteS_0 L_laws_markByteS_0 fr M = thenL (aCode (aCall T0) B_laws_markByteS_0 (maskF K_laws_markByteS_0 fr) M) (aCall T0) K_laws_markByteS_0 L_laws_markByteS_0 := lp_eq _ _ _ _ _
@[simp] theorem m_laws_markByteS_0 (a0 a1 a2 a3 a4 a5 a6 a7 a8 a9 a10 a11 a12 a13 a14 a15 a16 a17 a18 a19 : V) : maskF K_laws_markByteS_0 [a0, a1, a2, a3, a4, a5, a6, a7, a8, a9, a10, a11, a12, a13, a14, a15, a16, a17, a18, a19] = [a0, a1, und, und, und, a5, und, und, und, und, und, und, und, und, und, und, und, und, und, und] := rfl
theorem S_laws_markBlockS_0 (fr : List V) (M : Mem) : lp (aCall T0) K_laws_markBlockS_0 L_laws_markBlockS_0 fr M = thenL (aCode (aCall T0) B_laws_markBlockS_0 (maskF K_laws_markBlockS_0 fr) M) (aCall T0) K_laws_markBlockS_0 L_laws_markBlockS_0 := lp_eq _ _ _ _ _
@[simp] theorem m_laws_markBlockS_0 (a0 a1 a2 a3 a4 a5 a6 a7 a8 a9 a10 a11 a12 a13 a14 a15 a16 a17 a18 a19 a20 a21 a22 a23 a24 a25 a26 a27 a28 a29 a30 a31 a32 a33 : V) : maskF K_laws_markBlockS_0 [a0, a1, a2, a3, a4, a5, a6, a7, a8, a9, a10, a11, a12, a13, a14, a15, a16, a17, a18, a19, a20, a21, a22, a23, a24, a25, a26, a27, a28, a29, a30, a31, a32, a33] = [a0, a1, und, und, und, a5, und, und, und, und, und, und, und, und, und, und, und, und, und, und, und, und, und, und, und, und, und, und, und, und, und, und, und, und] := rfl
theorem S_laws_markCellS_0 (fr : List V) (M : Mem) : lp (aCall T0) K_laws_markCellS_0 L_laws_markCellS_0 fr M = thenL (aCode (aCall T0) B_laws_markCellS_0 (maskF K_laws_markCellS_0 fr) M) (aCall T0) K_laws_markCellS_0 L_laws_markCellS_0 := lp_eq _ _ _ _ _
@[simp] theorem m_laws_markCellS_0 (a0 a1 a2 a3 a4 a5 a6 a7 a8 a9 a10 a11 a12 a13 a14 a15 a16 a17 a18 a19 : V) : maskF K_laws_markCellS_0 [a0, a1, a2, a3, a4, a5, a6, a7, a8, a9, a10, a11, a12, a13, a14, a15, a16, a17, a18, a19] = [a0, a1, und, und, und, a5, und, und, und, und, und, und, und, und, und, und, und, und, und, und] := rfl
theorem S_laws_markTouchS_0 (fr : List V) (M : Mem) : lp (aCall T0) K_laws_markTouchS_0 L_laws_markTouchS_0 fr M = thenL (aCode (aCall T0) B_laws_markTouchS_0 (maskF K_laws_markTouchS_0 fr) M) (aCall T0) K_laws_markTouchS_0 L_laws_markTouchS_0 := lp_eq _ _ _ _ _
@[simp] theorem m_laws_markTouchS_0 (a0 a1 a2 a3 a4 a5 a6 a7 a8 a9 a10 a11 a12 a13 a14 a15 a16 a17 a18 a19 a20 a21 a22 a23 a24 a25 a26 a27 a28 a29 a30 a31 a32 a33 : V) : maskF K_laws_markTouchS_0 [a0, a1, a2, a3, a4, a5, a6, a7, a8, a9, a10, a11, a12, a13, a14, a15, a16, a17, a18, a19, a20, a21, a22, a23, a24, a25, a26, a27, a28, a29, a30, a31, a32, a33] = [a0, a1, und, und, und, a5, und, und, und, und, und, und, und, und, und, und, und, und, und, und, und, und, und, und, und, und, und, und, und, und, und, und, und, und] := rfl
theorem S_laws_heldByteS_0 (fr : List V) (M : Mem) : lp (aCall T0) K_laws_heldByteS_0 L_laws_heldByteS_0 fr M = thenL (aCode (aCall T0) B_laws_heldByteS_0 (maskF K_laws_heldByteS_0 fr) M) (aCall T0) K_laws_heldByteS_0 L_laws_heldByteS_0 := lp_eq _ _ _ _ _
@[simp] theorem m_laws_heldByteS_0 (a0 a1 a2 a3 a4 a5 a6 a7 a8 a9 a10 a11 a12 a13 a14 a15 a16 a17 a18 a19 a20 a21 : V) : maskF K_laws_heldByteS_0 [a0, a1, a2, a3, a4, a5, a6, a7, a8, a9, a10, a11, a12, a13, a14, a15, a16, a17, a18, a19, a20, a21] = [a0, a1, und, und, und, a5, und, und, und, und, und, und, und, und, und, und, und, und, und, und, und, und] := rfl
theorem S_laws_heldBlockS_0 (fr : List V) (M : Mem) : lp (aCall T0) K_laws_heldBlockS_0 L_laws_heldBlockS_0 fr M = thenL (aCode (aCall T0) B_laws_heldBlockS_0 (maskF K_laws_heldBlockS_0 fr) M) (aCall T0) K_laws_heldBlockS_0 L_laws_heldBlockS_0 := lp_eq _ _ _ _ _
@[simp] theorem m_laws_heldBlockS_0 (a0 a1 a2 a3 a4 a5 a6 a7 a8 a9 a10 a11 a12 a13 a14 a15 a16 a17 a18 a19 a20 a21 a22 a23 a24 a25 a26 a27 a28 a29 a30 a31 a32 a33 a34 a35 a36 a37 a38 a39 : V) : maskF K_laws_heldBlockS_0 [a0, a1, a2, a3, a4, a5, a6, a7, a8, a9, a10, a11, a12, a13, a14, a15, a16, a17, a18, a19, a20, a21, a22, a23, a24, a25, a26, a27, a28, a29, a30, a31, a32, a33, a34, a35, a36, a37, a38, a39] = [a0, a1, und, und, und, a5, und, und, und, und, und, und, und, und, und, und, und, und, und, und, und, und, und, und, und, und, und, und, und, und, und, und, und, und, und, und, und, und, und, und] := rfl
theorem S_laws_heldCellS_0 (fr : List V) (M : Mem) : lp (aCall T0) K_laws_heldCellS_0 L_laws_heldCellS_0 fr M = thenL (aCode (aCall T0) B_laws_heldCellS_0 (maskF K_laws_heldCellS_0 fr) M) (aCall T0) K_laws_heldCellS_0 L_laws_heldCellS_0 := lp_eq _ _ _ _ _
@[simp] theorem m_laws_heldCellS_0 (a0 a1 a2 a3 a4 a5 a6 a7 a8 a9 a10 a11 a12 a13 a14 a15 a16 a17 a18 a19 a20 a21 : V) : maskF K_laws_heldCellS_0 [a0, a1, a2, a3, a4, a5, a6, a7, a8, a9, a10, a11, a12, a13, a14, a15, a16, a17, a18, a19, a20, a21] = [a0, a1, und, und, und, a5, und, und, und, und, und, und, und, und, und, und, und, und, und, und, und, und] := rfl
theorem S_laws_heldTouchS_0 (fr : List V) (M : Mem) : lp (aCall T0) K_laws_heldTouchS_0 L_laws_heldTouchS_0 fr M = thenL (aCode (aCall T0) B_laws_heldTouchS_0 (maskF K_laws_heldTouchS_0 fr) M) (aCall T0) K_laws_heldTouchS_0 L_laws_heldTouchS_0 := lp_eq _ _ _ _ _
@[simp] theorem m_laws_heldTouchS_0 (a0 a1 a2 a3 a4 a5 a6 a7 a8 a9 a10 a11 a12 a13 a14 a15 a16 a17 a18 a19 a20 a21 a22 a23 a24 a25 a26 a27 a28 a29 a30 a31 a32 a33 a34 a35 a36 a37 a38 a39 : V) : maskF K_laws_heldTouchS_0 [a0, a1, a2, a3, a4, a5, a6, a7, a8, a9, a10, a11, a12, a13, a14, a15, a16, a17, a18, a19, a20, a21, a22, a23, a24, a25, a26, a27, a28, a29, a30, a31, a32, a33, a34, a35, a36, a37, a38, a39] = [a0, a1, und, und, und, a5, und, und, und, und, und, und, und, und, und, und, und, und, und, und, und, und, und, und, und, und, und, und, und, und, und, und, und, und, und, und, und, und, und, und] := rfl
end GoAm
