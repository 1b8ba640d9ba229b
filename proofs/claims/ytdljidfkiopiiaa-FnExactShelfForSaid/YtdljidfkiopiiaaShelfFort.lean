/- The table of the functions that the law reaches. -/
import Derived.Test.YtdljidfkiopiiaaShelfForc
import Derived.Test.YtdljidfkiopiiaaAmArith
set_option autoImplicit false
set_option linter.unusedVariables false
set_option linter.unusedSimpArgs false
namespace GoAm
open Go
def TL : List (Nat × AFun) := [(F_spec_WordOk, A_spec_WordOk), (F_spec_Pad, A_spec_Pad), (F_spec_HashWord, A_spec_HashWord), (F_spec_l02Pow, A_spec_l02Pow), (F_spec_l11Log, A_spec_l11Log), (F_spec_ShelfFor, A_spec_ShelfFor), (F_impl_within, A_impl_within), (F_impl_isWord, A_impl_isWord), (F_impl_isLog, A_impl_isLog), (F_impl_pad, A_impl_pad), (F_impl_hashWord, A_impl_hashWord), (F_impl_shelfFor, A_impl_shelfFor), (F_impl_ShelfFor, A_impl_ShelfFor), (F_laws_FnExactShelfFor, A_laws_FnExactShelfFor)]
def T0 : Tab := lookTab TL
theorem T_spec_WordOk : T0 F_spec_WordOk = some A_spec_WordOk := rfl
theorem T_spec_Pad : T0 F_spec_Pad = some A_spec_Pad := rfl
theorem T_spec_HashWord : T0 F_spec_HashWord = some A_spec_HashWord := rfl
theorem T_spec_l02Pow : T0 F_spec_l02Pow = some A_spec_l02Pow := rfl
theorem T_spec_l11Log : T0 F_spec_l11Log = some A_spec_l11Log := rfl
theorem T_spec_ShelfFor : T0 F_spec_ShelfFor = some A_spec_ShelfFor := rfl
theorem T_impl_within : T0 F_impl_within = some A_impl_within := rfl
theorem T_impl_isWord : T0 F_impl_isWord = some A_impl_isWord := rfl
theorem T_impl_isLog : T0 F_impl_isLog = some A_impl_isLog := rfl
theorem T_impl_pad : T0 F_impl_pad = some A_impl_pad := rfl
theorem T_impl_hashWord : T0 F_impl_hashWord = some A_impl_hashWord := rfl
theorem T_impl_shelfFor : T0 F_impl_shelfFor = some A_impl_shelfFor := rfl
theorem T_impl_ShelfFor : T0 F_impl_ShelfFor = some A_impl_ShelfFor := rfl
theorem T_laws_FnExactShelfFor : T0 F_laws_FnExactShelfFor = some A_laws_FnExactShelfFor := rfl
theorem S_spec_WordOk_0 (fr : List V) (M : Mem) : lp (aCall T0) K_spec_WordOk_0 L_spec_WordOk_0 fr M = thenL (aCode (aCall T0) B_spec_WordOk_0 (maskF K_spec_WordOk_0 fr) M) (aCall T0) K_spec_WordOk_0 L_spec_WordOk_0 := lp_eq _ _ _ _ _
@[simp] theorem m_spec_WordOk_0 (a0 a1 a2 a3 a4 a5 a6 a7 a8 a9 a10 a11 a12 a13 a14 a15 a16 a17 a18 a19 a20 a21 a22 a23 a24 a25 a26 a27 : V) : maskF K_spec_WordOk_0 [a0, a1, a2, a3, a4, a5, a6, a7, a8, a9, a10, a11, a12, a13, a14, a15, a16, a17, a18, a19, a20, a21, a22, a23, a24, a25, a26, a27] = [a0, und, und, a3, und, und, und, und, und, und, und, und, und, und, und, und, und, und, und, und, und, und, und, und, und, und, und, und] := rfl
theorem S_spec_Pad_0 (fr : List V) (M : Mem) : lp (aCall T0) K_spec_Pad_0 L_spec_Pad_0 fr M = thenL (aCode (aCall T0) B_spec_Pad_0 (maskF K_spec_Pad_0 fr) M) (aCall T0) K_spec_Pad_0 L_spec_Pad_0 := lp_eq _ _ _ _ _
@[simp] theorem m_spec_Pad_0 (a0 a1 a2 a3 a4 a5 a6 a7 a8 a9 a10 a11 a12 a13 a14 a15 a16 a17 a18 a19 a20 a21 a22 a23 a24 a25 a26 a27 a28 : V) : maskF K_spec_Pad_0 [a0, a1, a2, a3, a4, a5, a6, a7, a8, a9, a10, a11, a12, a13, a14, a15, a16, a17, a18, a19, a20, a21, a22, a23, a24, a25, a26, a27, a28] = [a0, und, und, a3, a4, und, und, und, und, und, und, und, und, und, und, und, und, und, und, und, und, und, und, und, und, und, und, und, und] := rfl
theorem S_spec_HashWord_0 (fr : List V) (M : Mem) : lp (aCall T0) K_spec_HashWord_0 L_spec_HashWord_0 fr M = thenL (aCode (aCall T0) B_spec_HashWord_0 (maskF K_spec_HashWord_0 fr) M) (aCall T0) K_spec_HashWord_0 L_spec_HashWord_0 := lp_eq _ _ _ _ _
@[simp] theorem m_spec_HashWord_0 (a0 a1 a2 a3 a4 a5 a6 a7 a8 a9 a10 a11 a12 a13 a14 a15 a16 a17 a18 a19 a20 a21 a22 a23 a24 a25 a26 a27 a28 a29 a30 a31 a32 a33 a34 a35 a36 a37 a38 a39 a40 : V) : maskF K_spec_HashWord_0 [a0, a1, a2, a3, a4, a5, a6, a7, a8, a9, a10, a11, a12, a13, a14, a15, a16, a17, a18, a19, a20, a21, a22, a23, a24, a25, a26, a27, a28, a29, a30, a31, a32, a33, a34, a35, a36, a37, a38, a39, a40] = [und, und, und, und, und, a5, a6, a7, und, und, und, und, und, und, und, und, und, und, und, und, und, und, und, und, und, und, und, und, und, und, und, und, und, und, und, und, und, und, und, und, und] := rfl
theorem S_spec_l02Pow_0 (fr : List V) (M : Mem) : lp (aCall T0) K_spec_l02Pow_0 L_spec_l02Pow_0 fr M = thenL (aCode (aCall T0) B_spec_l02Pow_0 (maskF K_spec_l02Pow_0 fr) M) (aCall T0) K_spec_l02Pow_0 L_spec_l02Pow_0 := lp_eq _ _ _ _ _
@[simp] theorem m_spec_l02Pow_0 (a0 a1 a2 a3 a4 a5 a6 a7 a8 a9 a10 : V) : maskF K_spec_l02Pow_0 [a0, a1, a2, a3, a4, a5, a6, a7, a8, a9, a10] = [a0, und, und, a3, und, und, und, und, und, und, und] := rfl
theorem S_impl_isWord_0 (fr : List V) (M : Mem) : lp (aCall T0) K_impl_isWord_0 L_impl_isWord_0 fr M = thenL (aCode (aCall T0) B_impl_isWord_0 (maskF K_impl_isWord_0 fr) M) (aCall T0) K_impl_isWord_0 L_impl_isWord_0 := lp_eq _ _ _ _ _
@[simp] theorem m_impl_isWord_0 (a0 a1 a2 a3 a4 a5 a6 a7 a8 a9 a10 a11 a12 a13 a14 a15 a16 a17 a18 a19 a20 a21 a22 : V) : maskF K_impl_isWord_0 [a0, a1, a2, a3, a4, a5, a6, a7, a8, a9, a10, a11, a12, a13, a14, a15, a16, a17, a18, a19, a20, a21, a22] = [a0, und, und, und, und, a5, a6, und, und, und, und, und, und, und, und, und, und, und, und, und, und, und, und] := rfl
theorem S_impl_hashWord_0 (fr : List V) (M : Mem) : lp (aCall T0) K_impl_hashWord_0 L_impl_hashWord_0 fr M = thenL (aCode (aCall T0) B_impl_hashWord_0 (maskF K_impl_hashWord_0 fr) M) (aCall T0) K_impl_hashWord_0 L_impl_hashWord_0 := lp_eq _ _ _ _ _
@[simp] theorem m_impl_hashWord_0 (a0 a1 a2 a3 a4 a5 a6 a7 a8 a9 a10 a11 a12 a13 a14 a15 a16 a17 a18 a19 a20 a21 a22 a23 a24 a25 a26 a27 : V) : maskF K_impl_hashWord_0 [a0, a1, a2, a3, a4, a5, a6, a7, a8, a9, a10, a11, a12, a13, a14, a15, a16, a17, a18, a19, a20, a21, a22, a23, a24, a25, a26, a27] = [und, und, und, und, und, a5, und, und, und, und, und, a11, a12, a13, und, und, und, und, und, und, und, und, und, und, und, und, und, und] := rfl
end GoAm
