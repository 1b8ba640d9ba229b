/- The table of the functions that the law reaches. -/
import Derived.Test.YtcjkoidiipfpeaaFnShelfBookc
import Derived.Test.YtcjkoidiipfpeaaAmGr
set_option autoImplicit false
set_option linter.unusedVariables false
set_option linter.unusedSimpArgs false
namespace GoAm
open Go
def TL : List (Nat × AFun) := [(F_laws_big, A_laws_big), (F_spec_l17None, A_spec_l17None), (F_spec_WordOk, A_spec_WordOk), (F_spec_l17Full, A_spec_l17Full), (F_spec_l17At, A_spec_l17At), (F_spec_ShelfOk, A_spec_ShelfOk), (F_laws_sameEntries, A_laws_sameEntries), (F_spec_l01Open, A_spec_l01Open), (F_spec_l01Cur_pick, A_spec_l01Cur_pick), (F_spec_l01Cur_raw, A_spec_l01Cur_raw), (F_spec_l17With, A_spec_l17With), (F_spec_ShelfAdd, A_spec_ShelfAdd), (F_spec_l01Cur_once, A_spec_l01Cur_once), (F_spec_l01Cur_wide, A_spec_l01Cur_wide), (F_spec_l01Cur_word, A_spec_l01Cur_word), (F_spec_l01Cur_entry, A_spec_l01Cur_entry), (F_spec_l01Cur_shelf, A_spec_l01Cur_shelf), (F_spec_l01Cur_badWord, A_spec_l01Cur_badWord), (F_spec_l01Cur_badShelf, A_spec_l01Cur_badShelf), (F_spec_l01Cur_wordIn, A_spec_l01Cur_wordIn), (F_spec_DrawShelfAdd, A_spec_DrawShelfAdd), (F_impl_within, A_impl_within), (F_impl_isWord, A_impl_isWord), (F_impl_isEntry, A_impl_isEntry), (F_slices_IndexFunc_impl_Entry_impl_Entry, A_slices_IndexFunc_impl_Entry_impl_Entry), (F_impl_shelfFind_1, A_impl_shelfFind_1), (F_impl_shelfFind, A_impl_shelfFind), (F_impl_isShelf, A_impl_isShelf), (F_slices_Index_impl_Entry_impl_Entry, A_slices_Index_impl_Entry_impl_Entry), (F_slices_Clone_impl_Entry_impl_Entry, A_slices_Clone_impl_Entry_impl_Entry), (F_impl_shelfWith, A_impl_shelfWith), (F_impl_ShelfAdd, A_impl_ShelfAdd), (F_impl_ShelfFind, A_impl_ShelfFind), (F_impl_ShelfSet, A_impl_ShelfSet), (F_impl_ShelfDrop, A_impl_ShelfDrop), (F_laws_FnShelfBook, A_laws_FnShelfBook)]
def T0 : Tab := lookTab TL
theorem T_laws_big : T0 F_laws_big = some A_laws_big := rfl
theorem T_spec_l17None : T0 F_spec_l17None = some A_spec_l17None := rfl
theorem T_spec_WordOk : T0 F_spec_WordOk = some A_spec_WordOk := rfl
theorem T_spec_l17Full : T0 F_spec_l17Full = some A_spec_l17Full := rfl
theorem T_spec_l17At : T0 F_spec_l17At = some A_spec_l17At := rfl
theorem T_spec_ShelfOk : T0 F_spec_ShelfOk = some A_spec_ShelfOk := rfl
theorem T_laws_sameEntries : T0 F_laws_sameEntries = some A_laws_sameEntries := rfl
theorem T_spec_l01Open : T0 F_spec_l01Open = some A_spec_l01Open := rfl
theorem T_spec_l01Cur_pick : T0 F_spec_l01Cur_pick = some A_spec_l01Cur_pick := rfl
theorem T_spec_l01Cur_raw : T0 F_spec_l01Cur_raw = some A_spec_l01Cur_raw := rfl
theorem T_spec_l17With : T0 F_spec_l17With = some A_spec_l17With := rfl
theorem T_spec_ShelfAdd : T0 F_spec_ShelfAdd = some A_spec_ShelfAdd := rfl
theorem T_spec_l01Cur_once : T0 F_spec_l01Cur_once = some A_spec_l01Cur_once := rfl
theorem T_spec_l01Cur_wide : T0 F_spec_l01Cur_wide = some A_spec_l01Cur_wide := rfl
theorem T_spec_l01Cur_word : T0 F_spec_l01Cur_word = some A_spec_l01Cur_word := rfl
theorem T_spec_l01Cur_entry : T0 F_spec_l01Cur_entry = some A_spec_l01Cur_entry := rfl
theorem T_spec_l01Cur_shelf : T0 F_spec_l01Cur_shelf = some A_spec_l01Cur_shelf := rfl
theorem T_spec_l01Cur_badWord : T0 F_spec_l01Cur_badWord = some A_spec_l01Cur_badWord := rfl
theorem T_spec_l01Cur_badShelf : T0 F_spec_l01Cur_badShelf = some A_spec_l01Cur_badShelf := rfl
theorem T_spec_l01Cur_wordIn : T0 F_spec_l01Cur_wordIn = some A_spec_l01Cur_wordIn := rfl
theorem T_spec_DrawShelfAdd : T0 F_spec_DrawShelfAdd = some A_spec_DrawShelfAdd := rfl
theorem T_impl_within : T0 F_impl_within = some A_impl_within := rfl
theorem T_impl_isWord : T0 F_impl_isWord = some A_impl_isWord := rfl
theorem T_impl_isEntry : T0 F_impl_isEntry = some A_impl_isEntry := rfl
theorem T_slices_IndexFunc_impl_Entry_impl_Entry : T0 F_slices_IndexFunc_impl_Entry_impl_Entry = some A_slices_IndexFunc_impl_Entry_impl_Entry := rfl
theorem T_impl_shelfFind_1 : T0 F_impl_shelfFind_1 = some A_impl_shelfFind_1 := rfl
theorem T_impl_shelfFind : T0 F_impl_shelfFind = some A_impl_shelfFind := rfl
theorem T_impl_isShelf : T0 F_impl_isShelf = some A_impl_isShelf := rfl
theorem T_slices_Index_impl_Entry_impl_Entry : T0 F_slices_Index_impl_Entry_impl_Entry = some A_slices_Index_impl_Entry_impl_Entry := rfl
theorem T_slices_Clone_impl_Entry_impl_Entry : T0 F_slices_Clone_impl_Entry_impl_Entry = some A_slices_Clone_impl_Entry_impl_Entry := rfl
theorem T_impl_shelfWith : T0 F_impl_shelfWith = some A_impl_shelfWith := rfl
theorem T_impl_ShelfAdd : T0 F_impl_ShelfAdd = some A_impl_ShelfAdd := rfl
theorem T_impl_ShelfFind : T0 F_impl_ShelfFind = some A_impl_ShelfFind := rfl
theorem T_impl_ShelfSet : T0 F_impl_ShelfSet = some A_impl_ShelfSet := rfl
theorem T_impl_ShelfDrop : T0 F_impl_ShelfDrop = some A_impl_ShelfDrop := rfl
theorem T_laws_FnShelfBook : T0 F_laws_FnShelfBook = some A_laws_FnShelfBook := rfl
theorem S_spec_WordOk_0 (fr : List V) (M : Mem) : lp (aCall T0) K_spec_WordOk_0 L_spec_WordOk_0 fr M = thenL (aCode (aCall T0) B_spec_WordOk_0 (maskF K_spec_WordOk_0 fr) M) (aCall T0) K_spec_WordOk_0 L_spec_WordOk_0 := lp_eq _ _ _ _ _
@[simp] theorem m_spec_WordOk_0 (a0 a1 a2 a3 a4 a5 a6 a7 a8 a9 a10 a11 a12 a13 a14 a15 a16 a17 a18 a19 a20 a21 a22 a23 a24 a25 a26 a27 : V) : maskF K_spec_WordOk_0 [a0, a1, a2, a3, a4, a5, a6, a7, a8, a9, a10, a11, a12, a13, a14, a15, a16, a17, a18, a19, a20, a21, a22, a23, a24, a25, a26, a27] = [a0, und, und, a3, und, und, und, und, und, und, und, und, und, und, und, und, und, und, und, und, und, und, und, und, und, und, und, und] := rfl
theorem S_spec_l17At_0 (fr : List V) (M : Mem) : lp (aCall T0) K_spec_l17At_0 L_spec_l17At_0 fr M = thenL (aCode (aCall T0) B_spec_l17At_0 (maskF K_spec_l17At_0 fr) M) (aCall T0) K_spec_l17At_0 L_spec_l17At_0 := lp_eq _ _ _ _ _
@[simp] theorem m_spec_l17At_0 (a0 a1 a2 a3 a4 a5 a6 a7 a8 a9 a10 a11 a12 a13 a14 a15 a16 a17 a18 a19 a20 a21 : V) : maskF K_spec_l17At_0 [a0, a1, a2, a3, a4, a5, a6, a7, a8, a9, a10, a11, a12, a13, a14, a15, a16, a17, a18, a19, a20, a21] = [und, a1, a2, und, und, a5, und, und, und, und, und, und, und, und, und, und, und, und, und, und, und, und] := rfl
theorem S_spec_ShelfOk_0 (fr : List V) (M : Mem) : lp (aCall T0) K_spec_ShelfOk_0 L_spec_ShelfOk_0 fr M = thenL (aCode (aCall T0) B_spec_ShelfOk_0 (maskF K_spec_ShelfOk_0 fr) M) (aCall T0) K_spec_ShelfOk_0 L_spec_ShelfOk_0 := lp_eq _ _ _ _ _
@[simp] theorem m_spec_ShelfOk_0 (a0 a1 a2 a3 a4 a5 a6 a7 a8 a9 a10 a11 a12 a13 a14 a15 a16 a17 a18 a19 a20 a21 a22 a23 a24 a25 a26 a27 a28 a29 a30 a31 a32 a33 a34 a35 a36 a37 a38 a39 a40 a41 a42 : V) : maskF K_spec_ShelfOk_0 [a0, a1, a2, a3, a4, a5, a6, a7, a8, a9, a10, a11, a12, a13, a14, a15, a16, a17, a18, a19, a20, a21, a22, a23, a24, a25, a26, a27, a28, a29, a30, a31, a32, a33, a34, a35, a36, a37, a38, a39, a40, a41, a42] = [und, a1, und, a3, und, und, und, und, und, und, und, und, und, und, und, und, und, und, und, und, und, und, und, und, und, und, und, und, und, und, und, und, und, und, und, und, und, und, und, und, und, und, und] := rfl
theorem S_laws_sameEntries_0 (fr : List V) (M : Mem) : lp (aCall T0) K_laws_sameEntries_0 L_laws_sameEntries_0 fr M = thenL (aCode (aCall T0) B_laws_sameEntries_0 (maskF K_laws_sameEntries_0 fr) M) (aCall T0) K_laws_sameEntries_0 L_laws_sameEntries_0 := lp_eq _ _ _ _ _
@[simp] theorem m_laws_sameEntries_0 (a0 a1 a2 a3 a4 a5 a6 a7 a8 a9 a10 a11 a12 a13 a14 a15 a16 a17 a18 a19 a20 a21 a22 a23 a24 a25 : V) : maskF K_laws_sameEntries_0 [a0, a1, a2, a3, a4, a5, a6, a7, a8, a9, a10, a11, a12, a13, a14, a15, a16, a17, a18, a19, a20, a21, a22, a23, a24, a25] = [a0, a1, und, und, und, a5, und, und, und, und, und, und, und, und, und, und, und, und, und, und, und, und, und, und, und, und] := rfl
theorem S_spec_l01Cur_word_0 (fr : List V) (M : Mem) : lp (aCall T0) K_spec_l01Cur_word_0 L_spec_l01Cur_word_0 fr M = thenL (aCode (aCall T0) B_spec_l01Cur_word_0 (maskF K_spec_l01Cur_word_0 fr) M) (aCall T0) K_spec_l01Cur_word_0 L_spec_l01Cur_word_0 := lp_eq _ _ _ _ _
@[simp] theorem m_spec_l01Cur_word_0 (a0 a1 a2 a3 a4 a5 a6 a7 a8 a9 a10 a11 a12 a13 a14 a15 a16 a17 a18 a19 a20 a21 a22 a23 a24 a25 a26 a27 a28 a29 a30 a31 : V) : maskF K_spec_l01Cur_word_0 [a0, a1, a2, a3, a4, a5, a6, a7, a8, a9, a10, a11, a12, a13, a14, a15, a16, a17, a18, a19, a20, a21, a22, a23, a24, a25, a26, a27, a28, a29, a30, a31] = [a0, und, und, a3, a4, und, und, und, und, und, und, und, und, und, und, und, und, und, und, und, und, und, und, und, und, und, und, und, und, und, und, und] := rfl
theorem S_spec_l01Cur_shelf_0 (fr : List V) (M : Mem) : lp (aCall T0) K_spec_l01Cur_shelf_0 L_spec_l01Cur_shelf_0 fr M = thenL (aCode (aCall T0) B_spec_l01Cur_shelf_0 (maskF K_spec_l01Cur_shelf_0 fr) M) (aCall T0) K_spec_l01Cur_shelf_0 L_spec_l01Cur_shelf_0 := lp_eq _ _ _ _ _
@[simp] theorem m_spec_l01Cur_shelf_0 (a0 a1 a2 a3 a4 a5 a6 a7 a8 a9 a10 a11 a12 a13 a14 a15 a16 a17 a18 a19 a20 a21 a22 a23 a24 a25 a26 a27 a28 a29 a30 a31 a32 a33 : V) : maskF K_spec_l01Cur_shelf_0 [a0, a1, a2, a3, a4, a5, a6, a7, a8, a9, a10, a11, a12, a13, a14, a15, a16, a17, a18, a19, a20, a21, a22, a23, a24, a25, a26, a27, a28, a29, a30, a31, a32, a33] = [a0, und, a2, a3, a4, und, und, und, und, und, und, und, und, und, und, und, und, und, und, und, und, und, und, und, und, und, und, und, und, und, und, und, und, und] := rfl
theorem S_impl_isWord_0 (fr : List V) (M : Mem) : lp (aCall T0) K_impl_isWord_0 L_impl_isWord_0 fr M = thenL (aCode (aCall T0) B_impl_isWord_0 (maskF K_impl_isWord_0 fr) M) (aCall T0) K_impl_isWord_0 L_impl_isWord_0 := lp_eq _ _ _ _ _
@[simp] theorem m_impl_isWord_0 (a0 a1 a2 a3 a4 a5 a6 a7 a8 a9 a10 a11 a12 a13 a14 a15 a16 a17 a18 a19 a20 a21 a22 : V) : maskF K_impl_isWord_0 [a0, a1, a2, a3, a4, a5, a6, a7, a8, a9, a10, a11, a12, a13, a14, a15, a16, a17, a18, a19, a20, a21, a22] = [a0, und, und, und, und, a5, a6, und, und, und, und, und, und, und, und, und, und, und, und, und, und, und, und] := rfl
theorem S_slices_IndexFunc_impl_Entry_impl_Entry_0 (fr : List V) (M : Mem) : lp (aCall T0) K_slices_IndexFunc_impl_Entry_impl_Entry_0 L_slices_IndexFunc_impl_Entry_impl_Entry_0 fr M = thenL (aCode (aCall T0) B_slices_IndexFunc_impl_Entry_impl_Entry_0 (maskF K_slices_IndexFunc_impl_Entry_impl_Entry_0 fr) M) (aCall T0) K_slices_IndexFunc_impl_Entry_impl_Entry_0 L_slices_IndexFunc_impl_Entry_impl_Entry_0 := lp_eq _ _ _ _ _
@[simp] theorem m_slices_IndexFunc_impl_Entry_impl_Entry_0 (a0 a1 a2 a3 a4 a5 a6 a7 a8 a9 a10 a11 a12 a13 a14 a15 a16 a17 a18 : V) : maskF K_slices_IndexFunc_impl_Entry_impl_Entry_0 [a0, a1, a2, a3, a4, a5, a6, a7, a8, a9, a10, a11, a12, a13, a14, a15, a16, a17, a18] = [a0, a1, und, und, und, und, und, a7, a8, und, und, und, und, und, und, und, und, und, und] := rfl
theorem S_impl_isShelf_0 (fr : List V) (M : Mem) : lp (aCall T0) K_impl_isShelf_0 L_impl_isShelf_0 fr M = thenL (aCode (aCall T0) B_impl_isShelf_0 (maskF K_impl_isShelf_0 fr) M) (aCall T0) K_impl_isShelf_0 L_impl_isShelf_0 := lp_eq _ _ _ _ _
@[simp] theorem m_impl_isShelf_0 (a0 a1 a2 a3 a4 a5 a6 a7 a8 a9 a10 a11 a12 a13 a14 a15 a16 a17 a18 a19 a20 a21 a22 a23 a24 a25 a26 a27 a28 a29 a30 a31 : V) : maskF K_impl_isShelf_0 [a0, a1, a2, a3, a4, a5, a6, a7, a8, a9, a10, a11, a12, a13, a14, a15, a16, a17, a18, a19, a20, a21, a22, a23, a24, a25, a26, a27, a28, a29, a30, a31] = [und, a1, und, und, und, und, a6, a7, a8, und, und, und, und, und, und, und, und, und, und, und, und, und, und, und, und, und, und, und, und, und, und, und] := rfl
theorem S_slices_Index_impl_Entry_impl_Entry_0 (fr : List V) (M : Mem) : lp (aCall T0) K_slices_Index_impl_Entry_impl_Entry_0 L_slices_Index_impl_Entry_impl_Entry_0 fr M = thenL (aCode (aCall T0) B_slices_Index_impl_Entry_impl_Entry_0 (maskF K_slices_Index_impl_Entry_impl_Entry_0 fr) M) (aCall T0) K_slices_Index_impl_Entry_impl_Entry_0 L_slices_Index_impl_Entry_impl_Entry_0 := lp_eq _ _ _ _ _
@[simp] theorem m_slices_Index_impl_Entry_impl_Entry_0 (a0 a1 a2 a3 a4 a5 a6 a7 a8 a9 a10 a11 a12 a13 a14 a15 a16 a17 a18 : V) : maskF K_slices_Index_impl_Entry_impl_Entry_0 [a0, a1, a2, a3, a4, a5, a6, a7, a8, a9, a10, a11, a12, a13, a14, a15, a16, a17, a18] = [a0, und, und, a3, und, und, und, a7, a8, und, und, und, und, und, und, und, und, und, und] := rfl
end GoAm
