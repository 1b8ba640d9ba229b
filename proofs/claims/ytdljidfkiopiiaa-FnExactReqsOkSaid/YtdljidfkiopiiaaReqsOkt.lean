/- The table of the functions that the law reaches. -/
import Derived.Test.YtdljidfkiopiiaaReqsOkc
import Derived.Test.YtdljidfkiopiiaaAmSl
set_option autoImplicit false
set_option linter.unusedVariables false
set_option linter.unusedSimpArgs false
namespace GoAm
open Go
def TL : List (Nat × AFun) := [(F_laws_szReq, A_laws_szReq), (F_laws_szReqS, A_laws_szReqS), (F_spec_l18Shape, A_spec_l18Shape), (F_spec_ReqOk, A_spec_ReqOk), (F_spec_ReqsOk, A_spec_ReqsOk), (F_laws_toReq, A_laws_toReq), (F_laws_toReqS, A_laws_toReqS), (F_slices_IndexFunc_impl_Req_impl_Req, A_slices_IndexFunc_impl_Req_impl_Req), (F_slices_ContainsFunc_impl_Req_impl_Req, A_slices_ContainsFunc_impl_Req_impl_Req), (F_impl_within, A_impl_within), (F_impl_isShape, A_impl_isShape), (F_impl_isReq, A_impl_isReq), (F_impl_areReqs_1, A_impl_areReqs_1), (F_impl_areReqs, A_impl_areReqs), (F_impl_ReqsOk, A_impl_ReqsOk), (F_laws_eqReq, A_laws_eqReq), (F_laws_eqReqS, A_laws_eqReqS), (F_laws_FnExactReqsOk, A_laws_FnExactReqsOk)]
def T0 : Tab := lookTab TL
theorem T_laws_szReq : T0 F_laws_szReq = some A_laws_szReq := rfl
theorem T_laws_szReqS : T0 F_laws_szReqS = some A_laws_szReqS := rfl
theorem T_spec_l18Shape : T0 F_spec_l18Shape = some A_spec_l18Shape := rfl
theorem T_spec_ReqOk : T0 F_spec_ReqOk = some A_spec_ReqOk := rfl
theorem T_spec_ReqsOk : T0 F_spec_ReqsOk = some A_spec_ReqsOk := rfl
theorem T_laws_toReq : T0 F_laws_toReq = some A_laws_toReq := rfl
theorem T_laws_toReqS : T0 F_laws_toReqS = some A_laws_toReqS := rfl
theorem T_slices_IndexFunc_impl_Req_impl_Req : T0 F_slices_IndexFunc_impl_Req_impl_Req = some A_slices_IndexFunc_impl_Req_impl_Req := rfl
theorem T_slices_ContainsFunc_impl_Req_impl_Req : T0 F_slices_ContainsFunc_impl_Req_impl_Req = some A_slices_ContainsFunc_impl_Req_impl_Req := rfl
theorem T_impl_within : T0 F_impl_within = some A_impl_within := rfl
theorem T_impl_isShape : T0 F_impl_isShape = some A_impl_isShape := rfl
theorem T_impl_isReq : T0 F_impl_isReq = some A_impl_isReq := rfl
theorem T_impl_areReqs_1 : T0 F_impl_areReqs_1 = some A_impl_areReqs_1 := rfl
theorem T_impl_areReqs : T0 F_impl_areReqs = some A_impl_areReqs := rfl
theorem T_impl_ReqsOk : T0 F_impl_ReqsOk = some A_impl_ReqsOk := rfl
theorem T_laws_eqReq : T0 F_laws_eqReq = some A_laws_eqReq := rfl
theorem T_laws_eqReqS : T0 F_laws_eqReqS = some A_laws_eqReqS := rfl
theorem T_laws_FnExactReqsOk : T0 F_laws_FnExactReqsOk = some A_laws_FnExactReqsOk := rfl
theorem S_laws_szReqS_0 (fr : List V) (M : Mem) : lp (aCall T0) K_laws_szReqS_0 L_laws_szReqS_0 fr M = thenL (aCode (aCall T0) B_laws_szReqS_0 (maskF K_laws_szReqS_0 fr) M) (aCall T0) K_laws_szReqS_0 L_laws_szReqS_0 := lp_eq _ _ _ _ _
@[simp] theorem m_laws_szReqS_0 (a0 a1 a2 a3 a4 a5 a6 a7 a8 a9 a10 a11 a12 a13 a14 a15 a16 a17 a18 a19 a20 a21 a22 a23 a24 a25 a26 : V) : maskF K_laws_szReqS_0 [a0, a1, a2, a3, a4, a5, a6, a7, a8, a9, a10, a11, a12, a13, a14, a15, a16, a17, a18, a19, a20, a21, a22, a23, a24, a25, a26] = [a0, a1, und, und, und, a5, und, und, und, und, und, und, und, und, und, und, und, und, und, und, und, und, und, und, und, und, und] := rfl
theorem S_spec_ReqsOk_0 (fr : List V) (M : Mem) : lp (aCall T0) K_spec_ReqsOk_0 L_spec_ReqsOk_0 fr M = thenL (aCode (aCall T0) B_spec_ReqsOk_0 (maskF K_spec_ReqsOk_0 fr) M) (aCall T0) K_spec_ReqsOk_0 L_spec_ReqsOk_0 := lp_eq _ _ _ _ _
@[simp] theorem m_spec_ReqsOk_0 (a0 a1 a2 a3 a4 a5 a6 a7 a8 a9 a10 a11 a12 a13 a14 a15 a16 a17 a18 : V) : maskF K_spec_ReqsOk_0 [a0, a1, a2, a3, a4, a5, a6, a7, a8, a9, a10, a11, a12, a13, a14, a15, a16, a17, a18] = [a0, und, und, a3, und, und, und, und, und, und, und, und, und, und, und, und, und, und, und] := rfl
theorem S_laws_toReqS_0 (fr : List V) (M : Mem) : lp (aCall T0) K_laws_toReqS_0 L_laws_toReqS_0 fr M = thenL (aCode (aCall T0) B_laws_toReqS_0 (maskF K_laws_toReqS_0 fr) M) (aCall T0) K_laws_toReqS_0 L_laws_toReqS_0 := lp_eq _ _ _ _ _
@[simp] theorem m_laws_toReqS_0 (a0 a1 a2 a3 a4 a5 a6 a7 a8 a9 a10 a11 a12 a13 a14 a15 a16 a17 a18 a19 a20 a21 a22 : V) : maskF K_laws_toReqS_0 [a0, a1, a2, a3, a4, a5, a6, a7, a8, a9, a10, a11, a12, a13, a14, a15, a16, a17, a18, a19, a20, a21, a22] = [a0, und, und, a3, a4, und, und, und, und, und, und, und, und, und, und, und, und, und, und, und, und, und, und] := rfl
theorem S_slices_IndexFunc_impl_Req_impl_Req_0 (fr : List V) (M : Mem) : lp (aCall T0) K_slices_IndexFunc_impl_Req_impl_Req_0 L_slices_IndexFunc_impl_Req_impl_Req_0 fr M = thenL (aCode (aCall T0) B_slices_IndexFunc_impl_Req_impl_Req_0 (maskF K_slices_IndexFunc_impl_Req_impl_Req_0 fr) M) (aCall T0) K_slices_IndexFunc_impl_Req_impl_Req_0 L_slices_IndexFunc_impl_Req_impl_Req_0 := lp_eq _ _ _ _ _
@[simp] theorem m_slices_IndexFunc_impl_Req_impl_Req_0 (a0 a1 a2 a3 a4 a5 a6 a7 a8 a9 a10 a11 a12 a13 a14 a15 a16 a17 a18 : V) : maskF K_slices_IndexFunc_impl_Req_impl_Req_0 [a0, a1, a2, a3, a4, a5, a6, a7, a8, a9, a10, a11, a12, a13, a14, a15, a16, a17, a18] = [a0, a1, und, und, und, und, und, a7, a8, und, und, und, und, und, und, und, und, und, und] := rfl
theorem S_laws_eqReqS_0 (fr : List V) (M : Mem) : lp (aCall T0) K_laws_eqReqS_0 L_laws_eqReqS_0 fr M = thenL (aCode (aCall T0) B_laws_eqReqS_0 (maskF K_laws_eqReqS_0 fr) M) (aCall T0) K_laws_eqReqS_0 L_laws_eqReqS_0 := lp_eq _ _ _ _ _
@[simp] theorem m_laws_eqReqS_0 (a0 a1 a2 a3 a4 a5 a6 a7 a8 a9 a10 a11 a12 a13 a14 a15 a16 a17 a18 a19 a20 a21 a22 a23 a24 a25 a26 : V) : maskF K_laws_eqReqS_0 [a0, a1, a2, a3, a4, a5, a6, a7, a8, a9, a10, a11, a12, a13, a14, a15, a16, a17, a18, a19, a20, a21, a22, a23, a24, a25, a26] = [a0, a1, und, und, und, a5, und, und, und, und, und, und, und, und, und, und, und, und, und, und, und, und, und, und, und, und, und] := rfl
end GoAm
