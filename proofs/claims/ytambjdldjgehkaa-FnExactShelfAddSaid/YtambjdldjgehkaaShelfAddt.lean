/- The table of the functions that the law reaches. -/
import Derived.Test.YtambjdldjgehkaaShelfAddc
import Derived.Test.YtambjdldjgehkaaAmOwn
set_option autoImplicit false
set_option linter.unusedVariables false
set_option linter.unusedSimpArgs false
namespace GoAm
open Go
def TL : List (Nat × AFun) := [(F_laws_szEntry, A_laws_szEntry), (F_laws_szEntryS, A_laws_szEntryS), (F_laws_szShelf, A_laws_szShelf), (F_laws_toEntry, A_laws_toEntry), (F_laws_toEntryS, A_laws_toEntryS), (F_laws_toShelf, A_laws_toShelf), (F_laws_eqEntry, A_laws_eqEntry), (F_laws_eqEntryS, A_laws_eqEntryS), (F_laws_eqShelf, A_laws_eqShelf), (F_laws_markText, A_laws_markText), (F_laws_markEntryS, A_laws_markEntryS), (F_laws_markShelf, A_laws_markShelf), (F_laws_heldEntryS, A_laws_heldEntryS), (F_laws_heldShelf, A_laws_heldShelf), (F_spec_l17At, A_spec_l17At), (F_spec_WordOk, A_spec_WordOk), (F_spec_l17Full, A_spec_l17Full), (F_spec_l17None, A_spec_l17None), (F_spec_ShelfOk, A_spec_ShelfOk), (F_spec_l17With, A_spec_l17With), (F_spec_ShelfAdd, A_spec_ShelfAdd), (F_slices_IndexFunc_impl_Entry_impl_Entry, A_slices_IndexFunc_impl_Entry_impl_Entry), (F_impl_shelfFind_1, A_impl_shelfFind_1), (F_impl_shelfFind, A_impl_shelfFind), (F_impl_within, A_impl_within), (F_impl_isWord, A_impl_isWord), (F_impl_isEntry, A_impl_isEntry), (F_impl_isShelf, A_impl_isShelf), (F_slices_Clone_impl_Entry_impl_Entry, A_slices_Clone_impl_Entry_impl_Entry), (F_impl_shelfWith, A_impl_shelfWith), (F_slices_Index_impl_Entry_impl_Entry, A_slices_Index_impl_Entry_impl_Entry), (F_impl_ShelfAdd, A_impl_ShelfAdd), (F_laws_FnExactShelfAdd, A_laws_FnExactShelfAdd)]
def T0 : Tab := lookTab TL
theorem T_laws_szEntry : T0 F_laws_szEntry = some A_laws_szEntry := rfl
theorem T_laws_szEntryS : T0 F_laws_szEntryS = some A_laws_szEntryS := rfl
theorem T_laws_szShelf : T0 F_laws_szShelf = some A_laws_szShelf := rfl
theorem T_laws_toEntry : T0 F_laws_toEntry = some A_laws_toEntry := rfl
theorem T_laws_toEntryS : T0 F_laws_toEntryS = some A_laws_toEntryS := rfl
theorem T_laws_toShelf : T0 F_laws_toShelf = some A_laws_toShelf := rfl
theorem T_laws_eqEntry : T0 F_laws_eqEntry = some A_laws_eqEntry := rfl
theorem T_laws_eqEntryS : T0 F_laws_eqEntryS = some A_laws_eqEntryS := rfl
theorem T_laws_eqShelf : T0 F_laws_eqShelf = some A_laws_eqShelf := rfl
theorem T_laws_markText : T0 F_laws_markText = some A_laws_markText := rfl
theorem T_laws_markEntryS : T0 F_laws_markEntryS = some A_laws_markEntryS := rfl
theorem T_laws_markShelf : T0 F_laws_markShelf = some A_laws_markShelf := rfl
theorem T_laws_heldEntryS : T0 F_laws_heldEntryS = some A_laws_heldEntryS := rfl
theorem T_laws_heldShelf : T0 F_laws_heldShelf = some A_laws_heldShelf := rfl
theorem T_spec_l17At : T0 F_spec_l17At = some A_spec_l17At := rfl
theorem T_spec_WordOk : T0 F_spec_WordOk = some A_spec_WordOk := rfl
theorem T_spec_l17Full : T0 F_spec_l17Full = some A_spec_l17Full := rfl
theorem T_spec_l17None : T0 F_spec_l17None = some A_spec_l17None := rfl
theorem T_spec_ShelfOk : T0 F_spec_ShelfOk = some A_spec_ShelfOk := rfl
theorem T_spec_l17With : T0 F_spec_l17With = some A_spec_l17With := rfl
theorem T_spec_ShelfAdd : T0 F_spec_ShelfAdd = some A_spec_ShelfAdd := rfl
theorem T_slices_IndexFunc_impl_Entry_impl_Entry : T0 F_slices_IndexFunc_impl_Entry_impl_Entry = some A_slices_IndexFunc_impl_Entry_impl_Entry := rfl
theorem T_impl_shelfFind_1 : T0 F_impl_shelfFind_1 = some A_impl_shelfFind_1 := rfl
theorem T_impl_shelfFind : T0 F_impl_shelfFind = some A_impl_shelfFind := rfl
theorem T_impl_within : T0 F_impl_within = some A_impl_within := rfl
theorem T_impl_isWord : T0 F_impl_isWord = some A_impl_isWord := rfl
theorem T_impl_isEntry : T0 F_impl_isEntry = some A_impl_isEntry := rfl
theorem T_impl_isShelf : T0 F_impl_isShelf = some A_impl_isShelf := rfl
theorem T_slices_Clone_impl_Entry_impl_Entry : T0 F_slices_Clone_impl_Entry_impl_Entry = some A_slices_Clone_impl_Entry_impl_Entry := rfl
theorem T_impl_shelfWith : T0 F_impl_shelfWith = some A_impl_shelfWith := rfl
theorem T_slices_Index_impl_Entry_impl_Entry : T0 F_slices_Index_impl_Entry_impl_Entry = some A_slices_Index_impl_Entry_impl_Entry := rfl
theorem T_impl_ShelfAdd : T0 F_impl_ShelfAdd = some A_impl_ShelfAdd := rfl
theorem T_laws_FnExactShelfAdd : T0 F_laws_FnExactShelfAdd = some A_laws_FnExactShelfAdd := rfl
theorem S_laws_szEntryS_0 (fr : List V) (M : Mem) : lp (aCall T0) K_laws_szEntryS_0 L_laws_szEntryS_0 fr M = thenL (aCode (aCall T0) B_laws_szEntryS_0 (maskF K_laws_szEntryS_0 fr) M) (aCall T0) K_laws_szEntryS_0 L_laws_szEntryS_0 := lp_eq _ _ _ _ _
@[simp] theorem m_laws_szEntryS_0 (a0 a1 a2 a3 a4 a5 a6 a7 a8 a9 a10 a11 a12 a13 a14 a15 a16 a17 a18 a19 a20 a21 a22 a23 a24 a25 a26 : V) : maskF K_laws_szEntryS_0 [a0, a1, a2, a3, a4, a5, a6, a7, a8, a9, a10, a11, a12, a13, a14, a15, a16, a17, a18, a19, a20, a21, a22, a23, a24, a25, a26] = [a0, a1, und, und, und, a5, und, und, und, und, und, und, und, und, und, und, und, und, und, und, und, und, und, und, und, und, und] := rfl
theorem S_laws_toEntryS_0 (fr : List V) (M : Mem) : lp (aCall T0) K_laws_toEntryS_0 L_laws_toEntryS_0 fr M = thenL (aCode (aCall T0) B_laws_toEntryS_0 (maskF K_laws_toEntryS_0 fr) M) (aCall T0) K_laws_toEntryS_0 L_laws_toEntryS_0 := lp_eq _ _ _ _ _
@[simp] theorem m_laws_toEntryS_0 (a0 a1 a2 a3 a4 a5 a6 a7 a8 a9 a10 a11 a12 a13 a14 a15 a16 a17 a18 a19 a20 a21 a22 : V) : maskF K_laws_toEntryS_0 [a0, a1, a2, a3, a4, a5, a6, a7, a8, a9, a10, a11, a12, a13, a14, a15, a16, a17, a18, a19, a20, a21, a22] = [a0, und, und, a3, a4, und, und, und, und, und, und, und, und, und, und, und, und, und, und, und, und, und, und] := rfl
theorem S_laws_eqEntryS_0 (fr : List V) (M : Mem) : lp (aCall T0) K_laws_eqEntryS_0 L_laws_eqEntryS_0 fr M = thenL (aCode (aCall T0) B_laws_eqEntryS_0 (maskF K_laws_eqEntryS_0 fr) M) (aCall T0) K_laws_eqEntryS_0 L_laws_eqEntryS_0 := lp_eq _ _ _ _ _
@[simp] theorem m_laws_eqEntryS_0 (a0 a1 a2 a3 a4 a5 a6 a7 a8 a9 a10 a11 a12 a13 a14 a15 a16 a17 a18 a19 a20 a21 a22 a23 a24 a25 a26 : V) : maskF K_laws_eqEntryS_0 [a0, a1, a2, a3, a4, a5, a6, a7, a8, a9, a10, a11, a12, a13, a14, a15, a16, a17, a18, a19, a20, a21, a22, a23, a24, a25, a26] = [a0, a1, und, und, und, a5, und, und, und, und, und, und, und, und, und, und, und, und, und, und, und, und, und, und, und, und, und] := rfl
theorem S_laws_markText_0 (fr : List V) (M : Mem) : lp (aCall T0) K_laws_markText_0 L_laws_markText_0 fr M = thenL (aCode (aCall T0) B_laws_markText_0 (maskF K_laws_markText_0 fr) M) (aCall T0) K_laws_markText_0 L_laws_markText_0 := lp_eq _ _ _ _ _
@[simp] theorem m_laws_markText_0 (a0 a1 a2 a3 a4 a5 a6 a7 a8 a9 a10 a11 a12 a13 a14 a15 a16 a17 a18 a19 : V) : maskF K_laws_markText_0 [a0, a1, a2, a3, a4, a5, a6, a7, a8, a9, a10, a11, a12, a13, a14, a15, a16, a17, a18, a19] = [a0, und, und, a3, und, und, und, und, und, und, und, und, und, und, und, und, und, und, und, und] := rfl
theorem S_laws_markEntryS_0 (fr : List V) (M : Mem) : lp (aCall T0) K_laws_markEntryS_0 L_laws_markEntryS_0 fr M = thenL (aCode (aCall T0) B_laws_markEntryS_0 (maskF K_laws_markEntryS_0 fr) M) (aCall T0) K_laws_markEntryS_0 L_laws_markEntryS_0 := lp_eq _ _ _ _ _
@[simp] theorem m_laws_markEntryS_0 (a0 a1 a2 a3 a4 a5 a6 a7 a8 a9 a10 a11 a12 a13 a14 a15 a16 a17 a18 a19 a20 a21 a22 a23 a24 a25 a26 a27 : V) : maskF K_laws_markEntryS_0 [a0, a1, a2, a3, a4, a5, a6, a7, a8, a9, a10, a11, a12, a13, a14, a15, a16, a17, a18, a19, a20, a21, a22, a23, a24, a25, a26, a27] = [a0, a1, und, und, und, a5, und, und, und, und, und, und, und, und, und, und, und, und, und, und, und, und, und, und, und, und, und, und] := rfl
theorem S_laws_heldEntryS_0 (fr : List V) (M : Mem) : lp (aCall T0) K_laws_heldEntryS_0 L_laws_heldEntryS_0 fr M = thenL (aCode (aCall T0) B_laws_heldEntryS_0 (maskF K_laws_heldEntryS_0 fr) M) (aCall T0) K_laws_heldEntryS_0 L_laws_heldEntryS_0 := lp_eq _ _ _ _ _
@[simp] theorem m_laws_heldEntryS_0 (a0 a1 a2 a3 a4 a5 a6 a7 a8 a9 a10 a11 a12 a13 a14 a15 a16 a17 a18 a19 a20 a21 a22 a23 a24 a25 a26 a27 a28 a29 a30 a31 : V) : maskF K_laws_heldEntryS_0 [a0, a1, a2, a3, a4, a5, a6, a7, a8, a9, a10, a11, a12, a13, a14, a15, a16, a17, a18, a19, a20, a21, a22, a23, a24, a25, a26, a27, a28, a29, a30, a31] = [a0, a1, und, und, und, a5, und, und, und, und, und, und, und, und, und, und, und, und, und, und, und, und, und, und, und, und, und, und, und, und, und, und] := rfl
theorem S_spec_l17At_0 (fr : List V) (M : Mem) : lp (aCall T0) K_spec_l17At_0 L_spec_l17At_0 fr M = thenL (aCode (aCall T0) B_spec_l17At_0 (maskF K_spec_l17At_0 fr) M) (aCall T0) K_spec_l17At_0 L_spec_l17At_0 := lp_eq _ _ _ _ _
@[simp] theorem m_spec_l17At_0 (a0 a1 a2 a3 a4 a5 a6 a7 a8 a9 a10 a11 a12 a13 a14 a15 a16 a17 a18 a19 a20 a21 : V) : maskF K_spec_l17At_0 [a0, a1, a2, a3, a4, a5, a6, a7, a8, a9, a10, a11, a12, a13, a14, a15, a16, a17, a18, a19, a20, a21] = [und, a1, a2, und, und, a5, und, und, und, und, und, und, und, und, und, und, und, und, und, und, und, und] := rfl
theorem S_spec_WordOk_0 (fr : List V) (M : Mem) : lp (aCall T0) K_spec_WordOk_0 L_spec_WordOk_0 fr M = thenL (aCode (aCall T0) B_spec_WordOk_0 (maskF K_spec_WordOk_0 fr) M) (aCall T0) K_spec_WordOk_0 L_spec_WordOk_0 := lp_eq _ _ _ _ _
@[simp] theorem m_spec_WordOk_0 (a0 a1 a2 a3 a4 a5 a6 a7 a8 a9 a10 a11 a12 a13 a14 a15 a16 a17 a18 a19 a20 a21 a22 a23 a24 a25 a26 a27 : V) : maskF K_spec_WordOk_0 [a0, a1, a2, a3, a4, a5, a6, a7, a8, a9, a10, a11, a12, a13, a14, a15, a16, a17, a18, a19, a20, a21, a22, a23, a24, a25, a26, a27] = [a0, und, und, a3, und, und, und, und, und, und, und, und, und, und, und, und, und, und, und, und, und, und, und, und, und, und, und, und] := rfl
theorem S_spec_ShelfOk_0 (fr : List V) (M : Mem) : lp (aCall T0) K_spec_ShelfOk_0 L_spec_ShelfOk_0 fr M = thenL (aCode (aCall T0) B_spec_ShelfOk_0 (maskF K_spec_ShelfOk_0 fr) M) (aCall T0) K_spec_ShelfOk_0 L_spec_ShelfOk_0 := lp_eq _ _ _ _ _
@[simp] theorem m_spec_ShelfOk_0 (a0 a1 a2 a3 a4 a5 a6 a7 a8 a9 a10 a11 a12 a13 a14 a15 a16 a17 a18 a19 a20 a21 a22 a23 a24 a25 a26 a27 a28 a29 a30 a31 a32 a33 a34 a35 a36 a37 a38 a39 a40 a41 a42 : V) : maskF K_spec_ShelfOk_0 [a0, a1, a2, a3, a4, a5, a6, a7, a8, a9, a10, a11, a12, a13, a14, a15, a16, a17, a18, a19, a20, a21, a22, a23, a24, a25, a26, a27, a28, a29, a30, a31, a32, a33, a34, a35, a36, a37, a38, a39, a40, a41, a42] = [und, a1, und, a3, und, und, und, und, und, und, und, und, und, und, und, und, und, und, und, und, und, und, und, und, und, und, und, und, und, und, und, und, und, und, und, und, und, und, und, und, und, und, und] := rfl
theorem S_slices_IndexFunc_impl_Entry_impl_Entry_0 (fr : List V) (M : Mem) : lp (aCall T0) K_slices_IndexFunc_impl_Entry_impl_Entry_0 L_slices_IndexFunc_impl_Entry_impl_Entry_0 fr M = thenL (aCode (aCall T0) B_slices_IndexFunc_impl_Entry_impl_Entry_0 (maskF K_slices_IndexFunc_impl_Entry_impl_Entry_0 fr) M) (aCall T0) K_slices_IndexFunc_impl_Entry_impl_Entry_0 L_slices_IndexFunc_impl_Entry_impl_Entry_0 := lp_eq _ _ _ _ _
@[simp] theorem m_slices_IndexFunc_impl_Entry_impl_Entry_0 (a0 a1 a2 a3 a4 a5 a6 a7 a8 a9 a10 a11 a12 a13 a14 a15 a16 a17 a18 : V) : maskF K_slices_IndexFunc_impl_Entry_impl_Entry_0 [a0, a1, a2, a3, a4, a5, a6, a7, a8, a9, a10, a11, a12, a13, a14, a15, a16, a17, a18] = [a0, a1, und, und, und, und, und, a7, a8, und, und, und, und, und, und, und, und, und, und] := rfl
theorem S_impl_isWord_0 (fr : List V) (M : Mem) : lp (aCall T0) K_impl_isWord_0 L_impl_isWord_0 fr M = thenL (aCode (aCall T0) B_impl_isWord_0 (maskF K_impl_isWord_0 fr) M) (aCall T0) K_impl_isWord_0 L_impl_isWord_0 := lp_eq _ _ _ _ _
@[simp] theorem m_impl_isWord_0 (a0 a1 a2 a3 a4 a5 a6 a7 a8 a9 a10 a11 a12 a13 a14 a15 a16 a17 a18 a19 a20 a21 a22 : V) : maskF K_impl_isWord_0 [a0, a1, a2, a3, a4, a5, a6, a7, a8, a9, a10, a11, a12, a13, a14, a15, a16, a17, a18, a19, a20, a21, a22] = [a0, und, und, und, und, a5, a6, und, und, und, und, und, und, und, und, und, und, und, und, und, und, und, und] := rfl
theorem S_impl_isShelf_0 (fr : List V) (M : Mem) : lp (aCall T0) K_impl_isShelf_0 L_impl_isShelf_0 fr M = thenL (aCode (aCall T0) B_impl_isShelf_0 (maskF K_impl_isShelf_0 fr) M) (aCall T0) K_impl_isShelf_0 L_impl_isShelf_0 := lp_eq _ _ _ _ _
@[simp] theorem m_impl_isShelf_0 (a0 a1 a2 a3 a4 a5 a6 a7 a8 a9 a10 a11 a12 a13 a14 a15 a16 a17 a18 a19 a20 a21 a22 a23 a24 a25 a26 a27 a28 a29 a30 a31 : V) : maskF K_impl_isShelf_0 [a0, a1, a2, a3, a4, a5, a6, a7, a8, a9, a10, a11, a12, a13, a14, a15, a16, a17, a18, a19, a20, a21, a22, a23, a24, a25, a26, a27, a28, a29, a30, a31] = [und, a1, und, und, und, und, a6, a7, a8, und, und, und, und, und, und, und, und, und, und, und, und, und, und, und, und, und, und, und, und, und, und, und] := rfl
theorem S_slices_Index_impl_Entry_impl_Entry_0 (fr : List V) (M : Mem) : lp (aCall T0) K_slices_Index_impl_Entry_impl_Entry_0 L_slices_Index_impl_Entry_impl_Entry_0 fr M = thenL (aCode (aCall T0) B_slices_Index_impl_Entry_impl_Entry_0 (maskF K_slices_Index_impl_Entry_impl_Entry_0 fr) M) (aCall T0) K_slices_Index_impl_Entry_impl_Entry_0 L_slices_Index_impl_Entry_impl_Entry_0 := lp_eq _ _ _ _ _
@[simp] theorem m_slices_Index_impl_Entry_impl_Entry_0 (a0 a1 a2 a3 a4 a5 a6 a7 a8 a9 a10 a11 a12 a13 a14 a15 a16 a17 a18 : V) : maskF K_slices_Index_impl_Entry_impl_Entry_0 [a0, a1, a2, a3, a4, a5, a6, a7, a8, a9, a10, a11, a12, a13, a14, a15, a16, a17, a18] = [a0, und, und, a3, und, und, und, a7, a8, und, und, und, und, und, und, und, und, und, und] := rfl
end GoAm
