/- The table of the functions that the law reaches. -/
import Derived.Test.YtdljidfkiopiiaaBookNewc
import Derived.Test.YtdljidfkiopiiaaAmArith
set_option autoImplicit false
set_option linter.unusedVariables false
set_option linter.unusedSimpArgs false
namespace GoAm
open Go
def TL : List (Nat × AFun) := [(F_laws_toConf, A_laws_toConf), (F_spec_l16Log, A_spec_l16Log), (F_spec_ConfOk, A_spec_ConfOk), (F_spec_BookNew, A_spec_BookNew), (F_impl_within, A_impl_within), (F_impl_isDeepLog, A_impl_isDeepLog), (F_impl_isConf, A_impl_isConf), (F_impl_BookNew, A_impl_BookNew), (F_laws_eqConf, A_laws_eqConf), (F_laws_eqEntry, A_laws_eqEntry), (F_laws_eqEntryS, A_laws_eqEntryS), (F_laws_eqBook, A_laws_eqBook), (F_laws_markText, A_laws_markText), (F_laws_markEntryS, A_laws_markEntryS), (F_laws_markBook, A_laws_markBook), (F_laws_heldEntryS, A_laws_heldEntryS), (F_laws_heldBook, A_laws_heldBook), (F_laws_FnExactBookNew, A_laws_FnExactBookNew)]
def T0 : Tab := lookTab TL
theorem T_laws_toConf : T0 F_laws_toConf = some A_laws_toConf := rfl
theorem T_spec_l16Log : T0 F_spec_l16Log = some A_spec_l16Log := rfl
theorem T_spec_ConfOk : T0 F_spec_ConfOk = some A_spec_ConfOk := rfl
theorem T_spec_BookNew : T0 F_spec_BookNew = some A_spec_BookNew := rfl
theorem T_impl_within : T0 F_impl_within = some A_impl_within := rfl
theorem T_impl_isDeepLog : T0 F_impl_isDeepLog = some A_impl_isDeepLog := rfl
theorem T_impl_isConf : T0 F_impl_isConf = some A_impl_isConf := rfl
theorem T_impl_BookNew : T0 F_impl_BookNew = some A_impl_BookNew := rfl
theorem T_laws_eqConf : T0 F_laws_eqConf = some A_laws_eqConf := rfl
theorem T_laws_eqEntry : T0 F_laws_eqEntry = some A_laws_eqEntry := rfl
theorem T_laws_eqEntryS : T0 F_laws_eqEntryS = some A_laws_eqEntryS := rfl
theorem T_laws_eqBook : T0 F_laws_eqBook = some A_laws_eqBook := rfl
theorem T_laws_markText : T0 F_laws_markText = some A_laws_markText := rfl
theorem T_laws_markEntryS : T0 F_laws_markEntryS = some A_laws_markEntryS := rfl
theorem T_laws_markBook : T0 F_laws_markBook = some A_laws_markBook := rfl
theorem T_laws_heldEntryS : T0 F_laws_heldEntryS = some A_laws_heldEntryS := rfl
theorem T_laws_heldBook : T0 F_laws_heldBook = some A_laws_heldBook := rfl
theorem T_laws_FnExactBookNew : T0 F_laws_FnExactBookNew = some A_laws_FnExactBookNew := rfl
theorem S_laws_eqEntryS_0 (fr : List V) (M : Mem) : lp (aCall T0) K_laws_eqEntryS_0 L_laws_eqEntryS_0 fr M = thenL (aCode (aCall T0) B_laws_eqEntryS_0 (maskF K_laws_eqEntryS_0 fr) M) (aCall T0) K_laws_eqEntryS_0 L_laws_eqEntryS_0 := lp_eq _ _ _ _ _
@[simp] theorem m_laws_eqEntryS_0 (a0 a1 a2 a3 a4 a5 a6 a7 a8 a9 a10 a11 a12 a13 a14 a15 a16 a17 a18 a19 a20 a21 a22 a23 a24 a25 a26 : V) : maskF K_laws_eqEntryS_0 [a0, a1, a2, a3, a4, a5, a6, a7, a8, a9, a10, a11, a12, a13, a14, a15, a16, a17, a18, a19, a20, a21, a22, a23, a24, a25, a26] = [a0, a1, und, und, und, a5, und, und, und, und, und, und, und, und, und, und, und, und, und, und, und, und, und, und, und, und, und] := rfl
theorem S_laws_markText_0 (fr : List V) (M : Mem) : lp (aCall T0) K_laws_markText_0 L_laws_markText_0 fr M = thenL (aCode (aCall T0) B_laws_markText_0 (maskF K_laws_markText_0 fr) M) (aCall T0) K_laws_markText_0 L_laws_markText_0 := lp_eq _ _ _ _ _
@[simp] theorem m_laws_markText_0 (a0 a1 a2 a3 a4 a5 a6 a7 a8 a9 a10 a11 a12 a13 a14 a15 a16 a17 a18 a19 : V) : maskF K_laws_markText_0 [a0, a1, a2, a3, a4, a5, a6, a7, a8, a9, a10, a11, a12, a13, a14, a15, a16, a17, a18, a19] = [a0, und, und, a3, und, und, und, und, und, und, und, und, und, und, und, und, und, und, und, und] := rfl
theorem S_laws_markEntryS_0 (fr : List V) (M : Mem) : lp (aCall T0) K_laws_markEntryS_0 L_laws_markEntryS_0 fr M = thenL (aCode (aCall T0) B_laws_markEntryS_0 (maskF K_laws_markEntryS_0 fr) M) (aCall T0) K_laws_markEntryS_0 L_laws_markEntryS_0 := lp_eq _ _ _ _ _
@[simp] theorem m_laws_markEntryS_0 (a0 a1 a2 a3 a4 a5 a6 a7 a8 a9 a10 a11 a12 a13 a14 a15 a16 a17 a18 a19 a20 a21 a22 a23 a24 a25 a26 a27 : V) : maskF K_laws_markEntryS_0 [a0, a1, a2, a3, a4, a5, a6, a7, a8, a9, a10, a11, a12, a13, a14, a15, a16, a17, a18, a19, a20, a21, a22, a23, a24, a25, a26, a27] = [a0, a1, und, und, und, a5, und, und, und, und, und, und, und, und, und, und, und, und, und, und, und, und, und, und, und, und, und, und] := rfl
theorem S_laws_heldEntryS_0 (fr : List V) (M : Mem) : lp (aCall T0) K_laws_heldEntryS_0 L_laws_heldEntryS_0 fr M = thenL (aCode (aCall T0) B_laws_heldEntryS_0 (maskF K_laws_heldEntryS_0 fr) M) (aCall T0) K_laws_heldEntryS_0 L_laws_heldEntryS_0 := lp_eq _ _ _ _ _
@[simp] theorem m_laws_heldEntryS_0 (a0 a1 a2 a3 a4 a5 a6 a7 a8 a9 a10 a11 a12 a13 a14 a15 a16 a17 a18 a19 a20 a21 a22 a23 a24 a25 a26 a27 a28 a29 a30 a31 : V) : maskF K_laws_heldEntryS_0 [a0, a1, a2, a3, a4, a5, a6, a7, a8, a9, a10, a11, a12, a13, a14, a15, a16, a17, a18, a19, a20, a21, a22, a23, a24, a25, a26, a27, a28, a29, a30, a31] = [a0, a1, und, und, und, a5, und, und, und, und, und, und, und, und, und, und, und, und, und, und, und, und, und, und, und, und, und, und, und, und, und, und] := rfl
end GoAm
