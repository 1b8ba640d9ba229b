/- How the abstract machine is reckoned by 'simp': lazily, a test at a time. -/
import Derived.Test.YtlniheedmeaeeaaGreatAmTab
set_option autoImplicit false
set_option linter.unusedVariables false
set_option linter.unusedSimpArgs false
namespace GoAm
open Go
def selO (w:Option Bool) (call:CallT) (d:Option Nat) (op:AOp) (os:List AOper) (fr:List V) (M:Mem):Option (List V × Mem):=match w with
  | some true=>match stepOp call fr M op with
    | some (v,M')=>aOps call os (setF fr d v) M'
    | none=>none
  | some false=>aOps call os (setF fr d skp) M
  | none=>none
def thenO (x:Option (V × Mem)) (call:CallT) (d:Option Nat) (os:List AOper) (fr:List V):Option (List V × Mem):=match x with
  | some (v,M')=>aOps call os (setF fr d v) M'
  | none=>none
theorem selO_true (call:CallT) (d:Option Nat) (op:AOp) (os:List AOper) (fr:List V) (M:Mem):selO (some true) call d op os fr M=thenO (stepOp call fr M op) call d os fr:=rfl
theorem selO_false (call:CallT) (d:Option Nat) (op:AOp) (os:List AOper) (fr:List V) (M:Mem):selO (some false) call d op os fr M=aOps call os (setF fr d skp) M:=rfl
theorem selO_some (p:Bool) (call:CallT) (d:Option Nat) (op:AOp) (os:List AOper) (fr:List V) (M:Mem):selO (some p) call d op os fr M=if p=true then selO (some true) call d op os fr M else selO (some false) call d op os fr M:=by cases p <;> rfl
theorem thenO_some (v:V) (M:Mem) (call:CallT) (d:Option Nat) (os:List AOper) (fr:List V):thenO (some (v,M)) call d os fr=aOps call os (setF fr d v) M:=rfl
theorem thenO_none (call:CallT) (d:Option Nat) (os:List AOper) (fr:List V):thenO none call d os fr=none:=rfl
theorem aOps_nil (call:CallT) (fr:List V) (M:Mem):aOps call [] fr M=some (fr,M):=rfl
theorem aOps_cons (call:CallT) (d:Option Nat) (op:AOp) (g:Option (Nat × Bool)) (os:List AOper) (fr:List V) (M:Mem):aOps call (⟨d,op,g⟩ :: os) fr M=selO (wants fr g) call d op os fr M:=by
  rw [aOps]
  unfold selO
  split <;> (rename_i h; rw [h]; try rfl)
noncomputable def selD (R W:List Nat) (w:Option Bool) (call:CallT) (d:Option Nat) (op:AOp) (os:List AOper) (fr:List V) (M:Mem):Option (List V × Mem):=match w with
  | some true=>if hits (rfp fr op) W=true then none else match stepOp call fr M op with
    | some (v,M')=>open Classical in if M <+: M'∨(isSt op && quiet os)=true∨(Agree M M' (wfp fr op)∧hits (wfp fr op) R=false)∨((isCl op && mvs os)=true∧M.length≤M'.length) then aOpsD call (rfp fr op++R) (wfp fr op++W) os (setF fr d v) M' else if isCl op=true∧Agree M M' (cfp fr op)∧hits (cfp fr op) R=false then aOpsD call (rfp fr op++R) (cfp fr op++W) os (setF fr d v) M' else none
    | none=>none
  | some false=>aOpsD call R W os (setF fr d skp) M
  | none=>none
noncomputable def thenD (st cl:Bool) (r w c R W:List Nat) (x:Option (V × Mem)) (call:CallT) (d:Option Nat) (os:List AOper) (fr:List V) (M:Mem):Option (List V × Mem):=match x with
  | some (v,M')=>open Classical in if M <+: M'∨(st && quiet os)=true∨(Agree M M' w∧hits w R=false)∨((cl && mvs os)=true∧M.length≤M'.length) then aOpsD call (r++R) (w++W) os (setF fr d v) M' else if cl=true∧Agree M M' c∧hits c R=false then aOpsD call (r++R) (c++W) os (setF fr d v) M' else none
  | none=>none
theorem selD_true {R W:List Nat} {fr:List V} {op:AOp} (h:hits (rfp fr op) W=false) (call:CallT) (d:Option Nat) (os:List AOper) (M:Mem):selD R W (some true) call d op os fr M=thenD (isSt op) (isCl op) (rfp fr op) (wfp fr op) (cfp fr op) R W (stepOp call fr M op) call d os fr M:=by
  unfold selD thenD
  simp only [h]
  rfl
theorem selD_false (R W:List Nat) (call:CallT) (d:Option Nat) (op:AOp) (os:List AOper) (fr:List V) (M:Mem):selD R W (some false) call d op os fr M=aOpsD call R W os (setF fr d skp) M:=rfl
theorem selD_some (R W:List Nat) (p:Bool) (call:CallT) (d:Option Nat) (op:AOp) (os:List AOper) (fr:List V) (M:Mem):selD R W (some p) call d op os fr M=if p=true then selD R W (some true) call d op os fr M else selD R W (some false) call d op os fr M:=by cases p <;> rfl
theorem thenD_some (st cl:Bool) (r w c R W:List Nat) (v:V) (M N:Mem) (call:CallT) (d:Option Nat) (os:List AOper) (fr:List V):thenD st cl r w c R W (some (v,M++N)) call d os fr M=aOpsD call (r++R) (w++W) os (setF fr d v) (M++N):=by
  simp only [thenD]
  rw [if_pos (.inl (List.prefix_append _ _))]
theorem thenD_same (st cl:Bool) (r w c R W:List Nat) (v:V) (M:Mem) (call:CallT) (d:Option Nat) (os:List AOper) (fr:List V):thenD st cl r w c R W (some (v,M)) call d os fr M=aOpsD call (r++R) (w++W) os (setF fr d v) M:=by
  simp only [thenD]
  rw [if_pos (.inl (List.prefix_refl _))]
theorem thenD_pre {st cl:Bool} {r w c R W:List Nat} {v:V} {M M':Mem} (h:M <+: M') (call:CallT) (d:Option Nat) (os:List AOper) (fr:List V):thenD st cl r w c R W (some (v,M')) call d os fr M=aOpsD call (r++R) (w++W) os (setF fr d v) M':=by
  simp only [thenD]
  rw [if_pos (.inl h)]
theorem thenD_st {cl:Bool} {os:List AOper} (h:quiet os=true) (r w c R W:List Nat) (v:V) (M M':Mem) (call:CallT) (d:Option Nat) (fr:List V):thenD true cl r w c R W (some (v,M')) call d os fr M=aOpsD call (r++R) (w++W) os (setF fr d v) M':=by
  simp only [thenD]
  rw [if_pos (.inr (.inl (by simp [h])))]
theorem thenD_agree {st cl:Bool} {r w c R W:List Nat} {v:V} {M M':Mem} (h:Agree M M' w) (h2:hits w R=false) (call:CallT) (d:Option Nat) (os:List AOper) (fr:List V):thenD st cl r w c R W (some (v,M')) call d os fr M=aOpsD call (r++R) (w++W) os (setF fr d v) M':=by
  simp only [thenD]
  rw [if_pos (.inr (.inr (.inl ⟨h,h2⟩)))]
theorem thenD_cl {st:Bool} {r w c R W:List Nat} {v:V} {M M':Mem} (h:M.length≤M'.length) (call:CallT) (d:Option Nat) (fr:List V):thenD st true r w c R W (some (v,M')) call d [] fr M=some (setF fr d v,M'):=by
  simp only [thenD]
  rw [if_pos (.inr (.inr (.inr ⟨rfl,h⟩)))]
  rfl
theorem agree_nil {M M':Mem} (h:Agree M M' []):M <+: M':=by
  rw [List.prefix_iff_eq_take]
  apply List.ext_getElem?
  intro i
  rw [List.getElem?_take]
  split
  · rename_i hi
    rw [h.2 i hi (by simp)]
  · rename_i hi
    rw [List.getElem?_eq_none (by omega)]
theorem opsD_mvs {call:CallT}:∀ (os:List AOper) {R W R' W':List Nat} (fr:List V) (M:Mem) (_:Unit),mvs os=true→aOpsD call R W os fr M=aOpsD call R' W' os fr M
  | [],_,_,_,_,fr,M,_,_=>rfl
  | ⟨d,op,g⟩ :: os,R,W,R',W',fr,M,u,h=>by
    have h1:isMvA op=true∧mvs os=true:=by
      have:(isMvA op && mvs os)=true:=h
      simpa using this
    cases op <;> simp [isMvA] at h1
    rename_i x
    have ih:=fun (v:V)=>opsD_mvs (call:=call) os (R:=R) (W:=W) (R':=R') (W':=W') (setF fr d v) M u h1
    have e1:∀ W:List Nat,hits (rfp fr (.mv x)) W=false:=fun W=>rfl
    rw [aOpsD,aOpsD]
    cases hg:wants fr g with
    | none=>rfl
    | some q =>
      cases q with
      | true =>
        simp only [e1,Bool.false_eq_true,if_false,stepOp,List.prefix_refl,true_or,if_true]
        exact ih _
      | false=>exact ih _
@[simp] theorem mvs_nil:mvs []=true:=rfl
@[simp] theorem mvs_cons (d:Option Nat) (op:AOp) (g:Option (Nat × Bool)) (os:List AOper):mvs (⟨d,op,g⟩ :: os)=(isMvA op && mvs os):=rfl
@[simp] theorem isMvA_mv (x:Opd):isMvA (.mv x)=true:=rfl
theorem thenD_clm {st:Bool} {r w c R W:List Nat} {v:V} {M M':Mem} {os:List AOper} (hm:mvs os=true) (h:M.length≤M'.length) (call:CallT) (d:Option Nat) (fr:List V):thenD st true r w c R W (some (v,M')) call d os fr M=aOpsD call (r++R) (w++W) os (setF fr d v) M':=by
  simp only [thenD]
  rw [if_pos (.inr (.inr (.inr ⟨by rw [hm]; rfl,h⟩)))]
theorem thenD_call {r c R W:List Nat} {v:V} {M M':Mem} (h0:¬ M <+: M') (h:Agree M M' c) (h2:hits c R=false) (call:CallT) (d:Option Nat) (os:List AOper) (fr:List V):thenD false true r [] c R W (some (v,M')) call d os fr M=aOpsD call (r++R) (c++W) os (setF fr d v) M':=by
  simp only [thenD]
  split
  · rename_i hp
    rcases hp with hp | hp | ⟨hp,_⟩ | ⟨hp,_⟩
    · exact absurd hp h0
    · simp at hp
    · exact absurd (agree_nil hp) h0
    · rw [Bool.true_and] at hp
      exact opsD_mvs _ _ _ () hp
  · rw [if_pos ⟨rfl,h,h2⟩]
@[simp] theorem cfp_call (fr:List V) (f:FuncId) (xs:List Opd):cfp fr (.call f xs)=xs.flatMap fun x=>pfs (ev fr x):=rfl
@[simp] theorem pfs_int (k:IntKind) (n:Int):pfs (.int k n)=[]:=id rfl
@[simp] theorem pfs_bool (b:Bool):pfs (.bool b)=[]:=id rfl
@[simp] theorem pfs_str (x:ByteArray):pfs (.string x)=[]:=id rfl
@[simp] theorem pfs_slice (a:Option Addr) (n c:Nat):pfs (.slice a n c)=[]:=id rfl
@[simp] theorem pfs_agg (x:Array V):pfs (.agg x)=[]:=id rfl
@[simp] theorem pfs_ptr (a:Addr):pfs (.pointer (some a))=[a.block]:=rfl
@[simp] theorem isCl_call (f:FuncId) (xs:List Opd):isCl (.call f xs)=true:=id rfl
@[simp] theorem isCl_callv (x:Opd) (xs:List Opd):isCl (.callv x xs)=true:=id rfl
theorem hits_nil (xs:List Nat):hits xs []=false:=by simp [hits]
theorem hits_nil2 (ys:List Nat):hits [] ys=false:=id rfl
theorem hits_cons (x:Nat) (xs:List Nat) (y:Nat) (ys:List Nat):hits (x :: xs) (y :: ys)=(decide (x=y) || hits [x] ys || hits xs (y :: ys)):=by simp [hits]
theorem rfp_mv (fr:List V) (x0:Opd):rfp fr (.mv x0)=[]:=id rfl
theorem wfp_mv (fr:List V) (x0:Opd):wfp fr (.mv x0)=[]:=id rfl
theorem eff_mv (x0:Opd):eff (.mv x0)=false:=id rfl
theorem mem_mv (x0:Opd):mem (.mv x0)=false:=id rfl
theorem isSt_mv (x0:Opd):isSt (.mv x0)=false:=id rfl
theorem rfp_pick (fr:List V) (x0:Opd) (x1:Opd) (x2:Opd):rfp fr (.pick x0 x1 x2)=[]:=id rfl
theorem wfp_pick (fr:List V) (x0:Opd) (x1:Opd) (x2:Opd):wfp fr (.pick x0 x1 x2)=[]:=id rfl
theorem eff_pick (x0:Opd) (x1:Opd) (x2:Opd):eff (.pick x0 x1 x2)=false:=id rfl
theorem mem_pick (x0:Opd) (x1:Opd) (x2:Opd):mem (.pick x0 x1 x2)=false:=id rfl
theorem isSt_pick (x0:Opd) (x1:Opd) (x2:Opd):isSt (.pick x0 x1 x2)=false:=id rfl
theorem rfp_new (fr:List V) (x0:List V):rfp fr (.new x0)=[]:=id rfl
theorem wfp_new (fr:List V) (x0:List V):wfp fr (.new x0)=[]:=id rfl
theorem eff_new (x0:List V):eff (.new x0)=true:=id rfl
theorem mem_new (x0:List V):mem (.new x0)=false:=id rfl
theorem isSt_new (x0:List V):isSt (.new x0)=false:=id rfl
theorem rfp_box (fr:List V) (x0:Opd):rfp fr (.box x0)=[]:=id rfl
theorem wfp_box (fr:List V) (x0:Opd):wfp fr (.box x0)=[]:=id rfl
theorem eff_box (x0:Opd):eff (.box x0)=true:=id rfl
theorem mem_box (x0:Opd):mem (.box x0)=false:=id rfl
theorem isSt_box (x0:Opd):isSt (.box x0)=false:=id rfl
theorem rfp_build (fr:List V) (x0:List V) (x1:List (Nat × Nat × Opd)):rfp fr (.build x0 x1)=[]:=id rfl
theorem wfp_build (fr:List V) (x0:List V) (x1:List (Nat × Nat × Opd)):wfp fr (.build x0 x1)=[]:=id rfl
theorem eff_build (x0:List V) (x1:List (Nat × Nat × Opd)):eff (.build x0 x1)=false:=id rfl
theorem mem_build (x0:List V) (x1:List (Nat × Nat × Opd)):mem (.build x0 x1)=false:=id rfl
theorem isSt_build (x0:List V) (x1:List (Nat × Nat × Opd)):isSt (.build x0 x1)=false:=id rfl
theorem rfp_mkl (fr:List V) (x0:Nat) (x1:Nat) (x2:List V) (x3:List (Nat × Nat × Opd)):rfp fr (.mkl x0 x1 x2 x3)=[]:=id rfl
theorem wfp_mkl (fr:List V) (x0:Nat) (x1:Nat) (x2:List V) (x3:List (Nat × Nat × Opd)):wfp fr (.mkl x0 x1 x2 x3)=[]:=id rfl
theorem eff_mkl (x0:Nat) (x1:Nat) (x2:List V) (x3:List (Nat × Nat × Opd)):eff (.mkl x0 x1 x2 x3)=true:=id rfl
theorem mem_mkl (x0:Nat) (x1:Nat) (x2:List V) (x3:List (Nat × Nat × Opd)):mem (.mkl x0 x1 x2 x3)=false:=id rfl
theorem isSt_mkl (x0:Nat) (x1:Nat) (x2:List V) (x3:List (Nat × Nat × Opd)):isSt (.mkl x0 x1 x2 x3)=false:=id rfl
theorem wfp_load1 (fr:List V) (x0:Opd):wfp fr (.load1 x0)=[]:=id rfl
theorem eff_load1 (x0:Opd):eff (.load1 x0)=false:=id rfl
theorem mem_load1 (x0:Opd):mem (.load1 x0)=true:=id rfl
theorem isSt_load1 (x0:Opd):isSt (.load1 x0)=false:=id rfl
theorem wfp_loadn (fr:List V) (x0:Nat) (x1:Opd):wfp fr (.loadn x0 x1)=[]:=id rfl
theorem eff_loadn (x0:Nat) (x1:Opd):eff (.loadn x0 x1)=false:=id rfl
theorem mem_loadn (x0:Nat) (x1:Opd):mem (.loadn x0 x1)=true:=id rfl
theorem isSt_loadn (x0:Nat) (x1:Opd):isSt (.loadn x0 x1)=false:=id rfl
theorem rfp_store (fr:List V) (x0:Nat) (x1:Opd) (x2:Opd):rfp fr (.store x0 x1 x2)=[]:=id rfl
theorem wfp_store (fr:List V) (x0:Nat) (x1:Opd) (x2:Opd):wfp fr (.store x0 x1 x2)=wfs (ev fr x1):=id rfl
theorem eff_store (x0:Nat) (x1:Opd) (x2:Opd):eff (.store x0 x1 x2)=true:=id rfl
theorem mem_store (x0:Nat) (x1:Opd) (x2:Opd):mem (.store x0 x1 x2)=false:=id rfl
theorem isSt_store (x0:Nat) (x1:Opd) (x2:Opd):isSt (.store x0 x1 x2)=true:=id rfl
theorem rfp_bin (fr:List V) (x0:BinOp) (x1:Opd) (x2:Opd):rfp fr (.bin x0 x1 x2)=[]:=id rfl
theorem wfp_bin (fr:List V) (x0:BinOp) (x1:Opd) (x2:Opd):wfp fr (.bin x0 x1 x2)=[]:=id rfl
theorem eff_bin (x0:BinOp) (x1:Opd) (x2:Opd):eff (.bin x0 x1 x2)=false:=id rfl
theorem mem_bin (x0:BinOp) (x1:Opd) (x2:Opd):mem (.bin x0 x1 x2)=false:=id rfl
theorem isSt_bin (x0:BinOp) (x1:Opd) (x2:Opd):isSt (.bin x0 x1 x2)=false:=id rfl
theorem rfp_beq (fr:List V) (x0:Bool) (x1:Opd) (x2:Opd):rfp fr (.beq x0 x1 x2)=[]:=id rfl
theorem wfp_beq (fr:List V) (x0:Bool) (x1:Opd) (x2:Opd):wfp fr (.beq x0 x1 x2)=[]:=id rfl
theorem eff_beq (x0:Bool) (x1:Opd) (x2:Opd):eff (.beq x0 x1 x2)=false:=id rfl
theorem mem_beq (x0:Bool) (x1:Opd) (x2:Opd):mem (.beq x0 x1 x2)=false:=id rfl
theorem isSt_beq (x0:Bool) (x1:Opd) (x2:Opd):isSt (.beq x0 x1 x2)=false:=id rfl
theorem rfp_eqs (fr:List V) (x0:Bool) (x1:List Nat) (x2:Opd) (x3:Opd):rfp fr (.eqs x0 x1 x2 x3)=[]:=id rfl
theorem wfp_eqs (fr:List V) (x0:Bool) (x1:List Nat) (x2:Opd) (x3:Opd):wfp fr (.eqs x0 x1 x2 x3)=[]:=id rfl
theorem eff_eqs (x0:Bool) (x1:List Nat) (x2:Opd) (x3:Opd):eff (.eqs x0 x1 x2 x3)=false:=id rfl
theorem mem_eqs (x0:Bool) (x1:List Nat) (x2:Opd) (x3:Opd):mem (.eqs x0 x1 x2 x3)=false:=id rfl
theorem isSt_eqs (x0:Bool) (x1:List Nat) (x2:Opd) (x3:Opd):isSt (.eqs x0 x1 x2 x3)=false:=id rfl
theorem rfp_eqnil (fr:List V) (x0:Bool) (x1:Opd):rfp fr (.eqnil x0 x1)=[]:=id rfl
theorem wfp_eqnil (fr:List V) (x0:Bool) (x1:Opd):wfp fr (.eqnil x0 x1)=[]:=id rfl
theorem eff_eqnil (x0:Bool) (x1:Opd):eff (.eqnil x0 x1)=false:=id rfl
theorem mem_eqnil (x0:Bool) (x1:Opd):mem (.eqnil x0 x1)=false:=id rfl
theorem isSt_eqnil (x0:Bool) (x1:Opd):isSt (.eqnil x0 x1)=false:=id rfl
theorem rfp_not (fr:List V) (x0:Opd):rfp fr (.not x0)=[]:=id rfl
theorem wfp_not (fr:List V) (x0:Opd):wfp fr (.not x0)=[]:=id rfl
theorem eff_not (x0:Opd):eff (.not x0)=false:=id rfl
theorem mem_not (x0:Opd):mem (.not x0)=false:=id rfl
theorem isSt_not (x0:Opd):isSt (.not x0)=false:=id rfl
theorem rfp_neg (fr:List V) (x0:Opd):rfp fr (.neg x0)=[]:=id rfl
theorem wfp_neg (fr:List V) (x0:Opd):wfp fr (.neg x0)=[]:=id rfl
theorem eff_neg (x0:Opd):eff (.neg x0)=false:=id rfl
theorem mem_neg (x0:Opd):mem (.neg x0)=false:=id rfl
theorem isSt_neg (x0:Opd):isSt (.neg x0)=false:=id rfl
theorem rfp_bnot (fr:List V) (x0:Opd):rfp fr (.bnot x0)=[]:=id rfl
theorem wfp_bnot (fr:List V) (x0:Opd):wfp fr (.bnot x0)=[]:=id rfl
theorem eff_bnot (x0:Opd):eff (.bnot x0)=false:=id rfl
theorem mem_bnot (x0:Opd):mem (.bnot x0)=false:=id rfl
theorem isSt_bnot (x0:Opd):isSt (.bnot x0)=false:=id rfl
theorem rfp_conv (fr:List V) (x0:IntKind) (x1:Opd):rfp fr (.conv x0 x1)=[]:=id rfl
theorem wfp_conv (fr:List V) (x0:IntKind) (x1:Opd):wfp fr (.conv x0 x1)=[]:=id rfl
theorem eff_conv (x0:IntKind) (x1:Opd):eff (.conv x0 x1)=false:=id rfl
theorem mem_conv (x0:IntKind) (x1:Opd):mem (.conv x0 x1)=false:=id rfl
theorem isSt_conv (x0:IntKind) (x1:Opd):isSt (.conv x0 x1)=false:=id rfl
theorem wfp_bts (fr:List V) (x0:Opd):wfp fr (.bts x0)=[]:=id rfl
theorem eff_bts (x0:Opd):eff (.bts x0)=false:=id rfl
theorem mem_bts (x0:Opd):mem (.bts x0)=true:=id rfl
theorem isSt_bts (x0:Opd):isSt (.bts x0)=false:=id rfl
theorem rfp_stb (fr:List V) (x0:Opd):rfp fr (.stb x0)=[]:=id rfl
theorem wfp_stb (fr:List V) (x0:Opd):wfp fr (.stb x0)=[]:=id rfl
theorem eff_stb (x0:Opd):eff (.stb x0)=true:=id rfl
theorem mem_stb (x0:Opd):mem (.stb x0)=false:=id rfl
theorem isSt_stb (x0:Opd):isSt (.stb x0)=false:=id rfl
theorem rfp_fn (fr:List V) (x0:FuncId) (x1:List Opd):rfp fr (.fn x0 x1)=[]:=id rfl
theorem wfp_fn (fr:List V) (x0:FuncId) (x1:List Opd):wfp fr (.fn x0 x1)=[]:=id rfl
theorem eff_fn (x0:FuncId) (x1:List Opd):eff (.fn x0 x1)=false:=id rfl
theorem mem_fn (x0:FuncId) (x1:List Opd):mem (.fn x0 x1)=false:=id rfl
theorem isSt_fn (x0:FuncId) (x1:List Opd):isSt (.fn x0 x1)=false:=id rfl
theorem rfp_make (fr:List V) (x0:Nat) (x1:Nat) (x2:List V) (x3:Opd):rfp fr (.make x0 x1 x2 x3)=[]:=id rfl
theorem wfp_make (fr:List V) (x0:Nat) (x1:Nat) (x2:List V) (x3:Opd):wfp fr (.make x0 x1 x2 x3)=[]:=id rfl
theorem eff_make (x0:Nat) (x1:Nat) (x2:List V) (x3:Opd):eff (.make x0 x1 x2 x3)=true:=id rfl
theorem mem_make (x0:Nat) (x1:Nat) (x2:List V) (x3:Opd):mem (.make x0 x1 x2 x3)=false:=id rfl
theorem isSt_make (x0:Nat) (x1:Nat) (x2:List V) (x3:Opd):isSt (.make x0 x1 x2 x3)=false:=id rfl
theorem wfp_slc (fr:List V) (x0:Nat) (x1:Opd) (x2:Option Opd) (x3:Option Opd):wfp fr (.slc x0 x1 x2 x3)=[]:=id rfl
theorem eff_slc (x0:Nat) (x1:Opd) (x2:Option Opd) (x3:Option Opd):eff (.slc x0 x1 x2 x3)=false:=id rfl
theorem mem_slc (x0:Nat) (x1:Opd) (x2:Option Opd) (x3:Option Opd):mem (.slc x0 x1 x2 x3)=true:=id rfl
theorem isSt_slc (x0:Nat) (x1:Opd) (x2:Option Opd) (x3:Option Opd):isSt (.slc x0 x1 x2 x3)=false:=id rfl
theorem rfp_slc0 (fr:List V) (x0:Nat) (x1:Opd):rfp fr (.slc0 x0 x1)=[]:=id rfl
theorem wfp_slc0 (fr:List V) (x0:Nat) (x1:Opd):wfp fr (.slc0 x0 x1)=[]:=id rfl
theorem eff_slc0 (x0:Nat) (x1:Opd):eff (.slc0 x0 x1)=true:=id rfl
theorem mem_slc0 (x0:Nat) (x1:Opd):mem (.slc0 x0 x1)=false:=id rfl
theorem isSt_slc0 (x0:Nat) (x1:Opd):isSt (.slc0 x0 x1)=false:=id rfl
theorem rfp_sls (fr:List V) (x0:Opd) (x1:Option Opd) (x2:Option Opd):rfp fr (.sls x0 x1 x2)=[]:=id rfl
theorem wfp_sls (fr:List V) (x0:Opd) (x1:Option Opd) (x2:Option Opd):wfp fr (.sls x0 x1 x2)=[]:=id rfl
theorem eff_sls (x0:Opd) (x1:Option Opd) (x2:Option Opd):eff (.sls x0 x1 x2)=false:=id rfl
theorem mem_sls (x0:Opd) (x1:Option Opd) (x2:Option Opd):mem (.sls x0 x1 x2)=false:=id rfl
theorem isSt_sls (x0:Opd) (x1:Option Opd) (x2:Option Opd):isSt (.sls x0 x1 x2)=false:=id rfl
theorem rfp_fa (fr:List V) (x0:Nat) (x1:Opd):rfp fr (.fa x0 x1)=[]:=id rfl
theorem wfp_fa (fr:List V) (x0:Nat) (x1:Opd):wfp fr (.fa x0 x1)=[]:=id rfl
theorem eff_fa (x0:Nat) (x1:Opd):eff (.fa x0 x1)=false:=id rfl
theorem mem_fa (x0:Nat) (x1:Opd):mem (.fa x0 x1)=false:=id rfl
theorem isSt_fa (x0:Nat) (x1:Opd):isSt (.fa x0 x1)=false:=id rfl
theorem rfp_fld1 (fr:List V) (x0:Nat) (x1:Opd):rfp fr (.fld1 x0 x1)=[]:=id rfl
theorem wfp_fld1 (fr:List V) (x0:Nat) (x1:Opd):wfp fr (.fld1 x0 x1)=[]:=id rfl
theorem eff_fld1 (x0:Nat) (x1:Opd):eff (.fld1 x0 x1)=false:=id rfl
theorem mem_fld1 (x0:Nat) (x1:Opd):mem (.fld1 x0 x1)=false:=id rfl
theorem isSt_fld1 (x0:Nat) (x1:Opd):isSt (.fld1 x0 x1)=false:=id rfl
theorem rfp_fldn (fr:List V) (x0:Nat) (x1:Nat) (x2:Opd):rfp fr (.fldn x0 x1 x2)=[]:=id rfl
theorem wfp_fldn (fr:List V) (x0:Nat) (x1:Nat) (x2:Opd):wfp fr (.fldn x0 x1 x2)=[]:=id rfl
theorem eff_fldn (x0:Nat) (x1:Nat) (x2:Opd):eff (.fldn x0 x1 x2)=false:=id rfl
theorem mem_fldn (x0:Nat) (x1:Nat) (x2:Opd):mem (.fldn x0 x1 x2)=false:=id rfl
theorem isSt_fldn (x0:Nat) (x1:Nat) (x2:Opd):isSt (.fldn x0 x1 x2)=false:=id rfl
theorem rfp_ia (fr:List V) (x0:Nat) (x1:Opd) (x2:Opd):rfp fr (.ia x0 x1 x2)=[]:=id rfl
theorem wfp_ia (fr:List V) (x0:Nat) (x1:Opd) (x2:Opd):wfp fr (.ia x0 x1 x2)=[]:=id rfl
theorem eff_ia (x0:Nat) (x1:Opd) (x2:Opd):eff (.ia x0 x1 x2)=false:=id rfl
theorem mem_ia (x0:Nat) (x1:Opd) (x2:Opd):mem (.ia x0 x1 x2)=false:=id rfl
theorem isSt_ia (x0:Nat) (x1:Opd) (x2:Opd):isSt (.ia x0 x1 x2)=false:=id rfl
theorem rfp_ix (fr:List V) (x0:Opd) (x1:Opd):rfp fr (.ix x0 x1)=[]:=id rfl
theorem wfp_ix (fr:List V) (x0:Opd) (x1:Opd):wfp fr (.ix x0 x1)=[]:=id rfl
theorem eff_ix (x0:Opd) (x1:Opd):eff (.ix x0 x1)=false:=id rfl
theorem mem_ix (x0:Opd) (x1:Opd):mem (.ix x0 x1)=false:=id rfl
theorem isSt_ix (x0:Opd) (x1:Opd):isSt (.ix x0 x1)=false:=id rfl
theorem rfp_ext (fr:List V) (x0:Opd) (x1:Nat):rfp fr (.ext x0 x1)=[]:=id rfl
theorem wfp_ext (fr:List V) (x0:Opd) (x1:Nat):wfp fr (.ext x0 x1)=[]:=id rfl
theorem eff_ext (x0:Opd) (x1:Nat):eff (.ext x0 x1)=false:=id rfl
theorem mem_ext (x0:Opd) (x1:Nat):mem (.ext x0 x1)=false:=id rfl
theorem isSt_ext (x0:Opd) (x1:Nat):isSt (.ext x0 x1)=false:=id rfl
theorem rfp_len (fr:List V) (x0:Opd):rfp fr (.len x0)=[]:=id rfl
theorem wfp_len (fr:List V) (x0:Opd):wfp fr (.len x0)=[]:=id rfl
theorem eff_len (x0:Opd):eff (.len x0)=false:=id rfl
theorem mem_len (x0:Opd):mem (.len x0)=false:=id rfl
theorem isSt_len (x0:Opd):isSt (.len x0)=false:=id rfl
theorem rfp_slen (fr:List V) (x0:Opd):rfp fr (.slen x0)=[]:=id rfl
theorem wfp_slen (fr:List V) (x0:Opd):wfp fr (.slen x0)=[]:=id rfl
theorem eff_slen (x0:Opd):eff (.slen x0)=false:=id rfl
theorem mem_slen (x0:Opd):mem (.slen x0)=false:=id rfl
theorem isSt_slen (x0:Opd):isSt (.slen x0)=false:=id rfl
theorem rfp_app (fr:List V) (x0:Nat) (x1:Nat) (x2:Opd) (x3:Opd):rfp fr (.app x0 x1 x2 x3)=[]:=id rfl
theorem wfp_app (fr:List V) (x0:Nat) (x1:Nat) (x2:Opd) (x3:Opd):wfp fr (.app x0 x1 x2 x3)=wfs (ev fr x2):=id rfl
theorem eff_app (x0:Nat) (x1:Nat) (x2:Opd) (x3:Opd):eff (.app x0 x1 x2 x3)=true:=id rfl
theorem mem_app (x0:Nat) (x1:Nat) (x2:Opd) (x3:Opd):mem (.app x0 x1 x2 x3)=false:=id rfl
theorem isSt_app (x0:Nat) (x1:Nat) (x2:Opd) (x3:Opd):isSt (.app x0 x1 x2 x3)=false:=id rfl
theorem rfp_appz (fr:List V) (x0:Nat) (x1:Nat) (x2:List V) (x3:Opd) (x4:Opd):rfp fr (.appz x0 x1 x2 x3 x4)=[]:=id rfl
theorem wfp_appz (fr:List V) (x0:Nat) (x1:Nat) (x2:List V) (x3:Opd) (x4:Opd):wfp fr (.appz x0 x1 x2 x3 x4)=wfs (ev fr x3):=id rfl
theorem eff_appz (x0:Nat) (x1:Nat) (x2:List V) (x3:Opd) (x4:Opd):eff (.appz x0 x1 x2 x3 x4)=true:=id rfl
theorem mem_appz (x0:Nat) (x1:Nat) (x2:List V) (x3:Opd) (x4:Opd):mem (.appz x0 x1 x2 x3 x4)=false:=id rfl
theorem isSt_appz (x0:Nat) (x1:Nat) (x2:List V) (x3:Opd) (x4:Opd):isSt (.appz x0 x1 x2 x3 x4)=false:=id rfl
theorem rfp_apps (fr:List V) (x0:Opd) (x1:Opd):rfp fr (.apps x0 x1)=[]:=id rfl
theorem wfp_apps (fr:List V) (x0:Opd) (x1:Opd):wfp fr (.apps x0 x1)=wfs (ev fr x0):=id rfl
theorem eff_apps (x0:Opd) (x1:Opd):eff (.apps x0 x1)=true:=id rfl
theorem mem_apps (x0:Opd) (x1:Opd):mem (.apps x0 x1)=false:=id rfl
theorem isSt_apps (x0:Opd) (x1:Opd):isSt (.apps x0 x1)=false:=id rfl
theorem rfp_copy (fr:List V) (x0:Nat) (x1:Opd) (x2:Opd):rfp fr (.copy x0 x1 x2)=[]:=id rfl
theorem wfp_copy (fr:List V) (x0:Nat) (x1:Opd) (x2:Opd):wfp fr (.copy x0 x1 x2)=wfs (ev fr x1):=id rfl
theorem eff_copy (x0:Nat) (x1:Opd) (x2:Opd):eff (.copy x0 x1 x2)=true:=id rfl
theorem mem_copy (x0:Nat) (x1:Opd) (x2:Opd):mem (.copy x0 x1 x2)=false:=id rfl
theorem isSt_copy (x0:Nat) (x1:Opd) (x2:Opd):isSt (.copy x0 x1 x2)=true:=id rfl
theorem rfp_copys (fr:List V) (x0:Opd) (x1:Opd):rfp fr (.copys x0 x1)=[]:=id rfl
theorem wfp_copys (fr:List V) (x0:Opd) (x1:Opd):wfp fr (.copys x0 x1)=wfs (ev fr x0):=id rfl
theorem eff_copys (x0:Opd) (x1:Opd):eff (.copys x0 x1)=true:=id rfl
theorem mem_copys (x0:Opd) (x1:Opd):mem (.copys x0 x1)=false:=id rfl
theorem isSt_copys (x0:Opd) (x1:Opd):isSt (.copys x0 x1)=false:=id rfl
theorem rfp_clr (fr:List V) (x0:Nat) (x1:List V) (x2:Opd):rfp fr (.clr x0 x1 x2)=[]:=id rfl
theorem wfp_clr (fr:List V) (x0:Nat) (x1:List V) (x2:Opd):wfp fr (.clr x0 x1 x2)=wfs (ev fr x2):=id rfl
theorem eff_clr (x0:Nat) (x1:List V) (x2:Opd):eff (.clr x0 x1 x2)=true:=id rfl
theorem mem_clr (x0:Nat) (x1:List V) (x2:Opd):mem (.clr x0 x1 x2)=false:=id rfl
theorem isSt_clr (x0:Nat) (x1:List V) (x2:Opd):isSt (.clr x0 x1 x2)=false:=id rfl
theorem rfp_sel (fr:List V) (k j d e n:Nat) (z:List V) (ps:List (Nat × Nat × Opd)) (y:Opd):rfp fr (.sel k j d e n z ps y)=[]:=id rfl
theorem wfp_sel (fr:List V) (k j d e n:Nat) (z:List V) (ps:List (Nat × Nat × Opd)) (y:Opd):wfp fr (.sel k j d e n z ps y)=[]:=id rfl
theorem eff_sel (k j d e n:Nat) (z:List V) (ps:List (Nat × Nat × Opd)) (y:Opd):eff (.sel k j d e n z ps y)=false:=id rfl
theorem mem_sel (k j d e n:Nat) (z:List V) (ps:List (Nat × Nat × Opd)) (y:Opd):mem (.sel k j d e n z ps y)=false:=id rfl
theorem isSt_sel (k j d e n:Nat) (z:List V) (ps:List (Nat × Nat × Opd)) (y:Opd):isSt (.sel k j d e n z ps y)=false:=id rfl
theorem rfp_mins (fr:List V) (x0:Opd) (x1:List Opd):rfp fr (.mins x0 x1)=[]:=id rfl
theorem wfp_mins (fr:List V) (x0:Opd) (x1:List Opd):wfp fr (.mins x0 x1)=[]:=id rfl
theorem eff_mins (x0:Opd) (x1:List Opd):eff (.mins x0 x1)=false:=id rfl
theorem mem_mins (x0:Opd) (x1:List Opd):mem (.mins x0 x1)=false:=id rfl
theorem isSt_mins (x0:Opd) (x1:List Opd):isSt (.mins x0 x1)=false:=id rfl
theorem rfp_bad (fr:List V):rfp fr .bad=[]:=id rfl
theorem wfp_bad (fr:List V):wfp fr .bad=[]:=id rfl
theorem eff_bad:eff .bad=false:=id rfl
theorem mem_bad:mem .bad=false:=id rfl
theorem isSt_bad:isSt .bad=false:=id rfl
theorem rfp_maxs (fr:List V) (x0:Opd) (x1:List Opd):rfp fr (.maxs x0 x1)=[]:=id rfl
theorem wfp_maxs (fr:List V) (x0:Opd) (x1:List Opd):wfp fr (.maxs x0 x1)=[]:=id rfl
theorem eff_maxs (x0:Opd) (x1:List Opd):eff (.maxs x0 x1)=false:=id rfl
theorem mem_maxs (x0:Opd) (x1:List Opd):mem (.maxs x0 x1)=false:=id rfl
theorem isSt_maxs (x0:Opd) (x1:List Opd):isSt (.maxs x0 x1)=false:=id rfl
theorem rfp_chk (fr:List V) (x0:Opd):rfp fr (.chk x0)=[]:=id rfl
theorem wfp_chk (fr:List V) (x0:Opd):wfp fr (.chk x0)=[]:=id rfl
theorem eff_chk (x0:Opd):eff (.chk x0)=false:=id rfl
theorem mem_chk (x0:Opd):mem (.chk x0)=false:=id rfl
theorem isSt_chk (x0:Opd):isSt (.chk x0)=false:=id rfl
theorem rfp_call (fr:List V) (x0:FuncId) (x1:List Opd):rfp fr (.call x0 x1)=[]:=id rfl
theorem wfp_call (fr:List V) (x0:FuncId) (x1:List Opd):wfp fr (.call x0 x1)=[]:=id rfl
theorem eff_call (x0:FuncId) (x1:List Opd):eff (.call x0 x1)=true:=id rfl
theorem mem_call (x0:FuncId) (x1:List Opd):mem (.call x0 x1)=false:=id rfl
theorem isSt_call (x0:FuncId) (x1:List Opd):isSt (.call x0 x1)=false:=id rfl
theorem rfp_callv (fr:List V) (x0:Opd) (x1:List Opd):rfp fr (.callv x0 x1)=[]:=id rfl
theorem wfp_callv (fr:List V) (x0:Opd) (x1:List Opd):wfp fr (.callv x0 x1)=[]:=id rfl
theorem eff_callv (x0:Opd) (x1:List Opd):eff (.callv x0 x1)=true:=id rfl
theorem mem_callv (x0:Opd) (x1:List Opd):mem (.callv x0 x1)=false:=id rfl
theorem isSt_callv (x0:Opd) (x1:List Opd):isSt (.callv x0 x1)=false:=id rfl
def rfs:V→List Nat
  | .pointer (some a)=>[a.block]
  | _=>[]
theorem rfs_ptr (a:Addr):rfs (.pointer (some a))=[a.block]:=id rfl
theorem rfp_load1 (fr:List V) (x:Opd):rfp fr (.load1 x)=rfs (ev fr x):=id rfl
theorem rfp_loadn (fr:List V) (n:Nat) (x:Opd):rfp fr (.loadn n x)=rfs (ev fr x):=id rfl
theorem wfs_ptr (a:Addr):wfs (.pointer (some a))=[a.block]:=id rfl
theorem wfs_sl (a:Addr) (n c:Nat):wfs (.slice (some a) n c)=[a.block]:=id rfl
theorem wfs_nil (n c:Nat):wfs (.slice none n c)=[]:=id rfl
theorem quiet_nil:quiet []=true:=id rfl
theorem quiet_cons (d:Option Nat) (op:AOp) (g:Option (Nat × Bool)) (os:List AOper):quiet (⟨d,op,g⟩ :: os)=((!eff op || isSt op) && !mem op && quiet os):=id rfl
theorem aOpsD_nil (call:CallT) (R W:List Nat) (fr:List V) (M:Mem):aOpsD call R W [] fr M=some (fr,M):=rfl
theorem aOpsD_cons (call:CallT) (R W:List Nat) (d:Option Nat) (op:AOp) (g:Option (Nat × Bool)) (os:List AOper) (fr:List V) (M:Mem):aOpsD call R W (⟨d,op,g⟩ :: os) fr M=selD R W (wants fr g) call d op os fr M:=by
  rw [aOpsD]
  unfold selD
  split <;> (rename_i h; rw [h]; try rfl)
def thenG (x:Option (List V × Mem)):R:=match x with
  | some (fr,M)=>some (.norm,fr,M)
  | none=>none
theorem thenG_some (fr:List V) (M:Mem):thenG (some (fr,M))=some (.norm,fr,M):=rfl
noncomputable def thenS (x:R) (call:CallT) (b:ACode):R:=match x with
  | some (.norm,fr,M)=>aCode call b fr M
  | r=>r
theorem thenS_norm (fr:List V) (M:Mem) (call:CallT) (b:ACode):thenS (some (.norm,fr,M)) call b=aCode call b fr M:=rfl
theorem thenS_exit (i:Nat) (fr:List V) (M:Mem) (call:CallT) (b:ACode):thenS (some (.exit i,fr,M)) call b=some (.exit i,fr,M):=rfl
theorem thenS_ret (fr:List V) (M:Mem) (call:CallT) (b:ACode):thenS (some (.ret,fr,M)) call b=some (.ret,fr,M):=rfl
noncomputable def condR (v:V) (call:CallT) (a b:ACode) (fr:List V) (M:Mem):R:=match v with
  | .bool p=>if p=true then aCode call a fr M else aCode call b fr M
  | _=>none
theorem condR_true (call:CallT) (a b:ACode) (fr:List V) (M:Mem):condR (.bool true) call a b fr M=aCode call a fr M:=rfl
theorem condR_false (call:CallT) (a b:ACode) (fr:List V) (M:Mem):condR (.bool false) call a b fr M=aCode call b fr M:=rfl
theorem condR_bool (p:Bool) (call:CallT) (a b:ACode) (fr:List V) (M:Mem):condR (.bool p) call a b fr M=if p=true then condR (.bool true) call a b fr M else condR (.bool false) call a b fr M:=by cases p <;> rfl
def blockR (i:Nat) (x:R):R:=match x with
  | some (.exit j,fr,M)=>if j=i then some (.norm,fr,M) else some (.exit j,fr,M)
  | r=>r
theorem blockR_norm (i:Nat) (fr:List V) (M:Mem):blockR i (some (.norm,fr,M))=some (.norm,fr,M):=rfl
theorem blockR_ret (i:Nat) (fr:List V) (M:Mem):blockR i (some (.ret,fr,M))=some (.ret,fr,M):=rfl
theorem blockR_exit (i j:Nat) (fr:List V) (M:Mem):blockR i (some (.exit j,fr,M))=if j=i then some (.norm,fr,M) else some (.exit j,fr,M):=rfl
theorem aCode_reg (call:CallT) (os:List AOper) (fr:List V) (M:Mem):aCode call (.reg false os) fr M=thenG (aOps call os fr M):=by rw [aCode]; rfl
theorem aCode_perm (call:CallT) (pi:List Nat) (os:List AOper) (fr:List V) (M:Mem):aCode call (.perm pi os) fr M=thenG (aOpsD call [] [] os fr M):=by rw [aCode]; rfl
theorem aCode_regD (call:CallT) (os:List AOper) (fr:List V) (M:Mem):aCode call (.reg true os) fr M=thenG (aOpsD call [] [] os fr M):=by rw [aCode]; rfl
theorem aCode_seq (call:CallT) (a b:ACode) (fr:List V) (M:Mem):aCode call (.seq a b) fr M=thenS (aCode call a fr M) call b:=by rw [aCode]; rfl
theorem aCode_cond (call:CallT) (c:Opd) (a b:ACode) (fr:List V) (M:Mem):aCode call (.cond c a b) fr M=condR (ev fr c) call a b fr M:=by rw [aCode]; rfl
theorem aCode_block (call:CallT) (i:Nat) (b:ACode) (fr:List V) (M:Mem):aCode call (.block i b) fr M=blockR i (aCode call b fr M):=by rw [aCode]; rfl
noncomputable def lp (call:CallT) (m:List Bool) (b:ACode) (fr:List V) (M:Mem):R:=loopL (fun fr M=>aCode call b (maskF m fr) M) fr M
noncomputable def thenL (x:R) (call:CallT) (m:List Bool) (b:ACode):R:=match x with
  | some (.norm,fr,M)=>lp call m b fr M
  | r=>r
theorem maskF_idem:∀ (m:List Bool) (fr:List V),maskF m (maskF m fr)=maskF m fr
  | [],fr=>rfl
  | b :: _,[]=>by cases b <;> rfl
  | true :: m,v :: fr=>by simp only [maskF,maskF_idem m fr]
  | false :: m,v :: fr=>by simp only [maskF,maskF_idem m fr]
theorem lp_eq (call:CallT) (m:List Bool) (b:ACode) (fr:List V) (M:Mem):lp call m b fr M=thenL (aCode call b (maskF m fr) M) call m b:=by
  unfold thenL
  unfold lp
  rw [loopL_eq]
  cases aCode call b (maskF m fr) M with
  | none=>rfl
  | some q=>obtain ⟨ex,fr',M'⟩:=q; cases ex <;> rfl
theorem lp_mask (call:CallT) (m:List Bool) (b:ACode) (fr:List V) (M:Mem):lp call m b fr M=lp call m b (maskF m fr) M:=by
  rw [lp_eq,lp_eq call m b (maskF m fr),maskF_idem]
theorem thenL_norm (fr:List V) (M:Mem) (call:CallT) (m:List Bool) (b:ACode):thenL (some (.norm,fr,M)) call m b=lp call m b (maskF m fr) M:=lp_mask call m b fr M
theorem thenL_exit (i:Nat) (fr:List V) (M:Mem) (call:CallT) (m:List Bool) (b:ACode):thenL (some (.exit i,fr,M)) call m b=some (.exit i,fr,M):=rfl
theorem thenL_ret (fr:List V) (M:Mem) (call:CallT) (m:List Bool) (b:ACode):thenL (some (.ret,fr,M)) call m b=some (.ret,fr,M):=rfl
theorem maskF_true (m:List Bool) (v:V) (fr:List V):maskF (true :: m) (v :: fr)=v :: maskF m fr:=rfl
theorem maskF_false (m:List Bool) (v:V) (fr:List V):maskF (false :: m) (v :: fr)=O :: maskF m fr:=rfl
theorem maskF_nil (fr:List V):maskF [] fr=fr:=by cases fr <;> rfl
theorem aCode_loop (call:CallT) (m:List Bool) (b:ACode) (fr:List V) (M:Mem):aCode call (.loop m b) fr M=lp call m b (maskF m fr) M:=by rw [aCode,← lp_mask]; rfl
theorem aCode_exit (call:CallT) (i:Nat) (fr:List V) (M:Mem):aCode call (.exit i) fr M=some (.exit i,fr,M):=by rw [aCode]
theorem aCode_ret (call:CallT) (fr:List V) (M:Mem):aCode call .ret fr M=some (.ret,fr,M):=by rw [aCode]
theorem aCode_skip (call:CallT) (fr:List V) (M:Mem):aCode call .skip fr M=some (.norm,fr,M):=by rw [aCode]
noncomputable def thenI (x:Option (V × Mem)):R:=match x with
  | some (v,M')=>some (.ret,(List.replicate 95 O).set 6 v,M')
  | none=>none
theorem thenI_some (v:V) (M':Mem):thenI (some (v,M'))=some (.ret,(List.replicate 95 O).set 6 v,M'):=rfl
theorem aCode_ins (call:CallT) (w b:Nat) (z:List V) (fr:List V) (M:Mem):aCode call (.ins w b z) fr M=thenI (insT w b (ev fr (.t 0)) (ev fr (.t 1)) (ev fr (.t 2)) (ev fr (.t 7)) (ev fr (.t 8)) fr.length M):=by rw [aCode]; rfl
theorem ins6_get (v:V):((List.replicate 95 O).set 6 v).getD 6 O=v:=rfl
noncomputable def thenF (M:Mem) (rs:List ARes) (x:R):Option (V × Mem):=match x with
  | some (.exit _,_,_)=>none
  | some (_,fr,M')=>gc M ((resOf fr M' rs).map fun v=>(v,M'))
  | none=>none
theorem runF_eq (call:CallT) (c:ACode) (n:Nat) (rs:List ARes) (args:List V) (M:Mem):runF call ⟨c,n,rs⟩ args M=thenF M rs (aCode call c (args++List.replicate (n - args.length) O) M):=by
  unfold runF thenF
  cases h:aCode call c (args++List.replicate (n - args.length) O) M with
  | none=>simp only [h]; rfl
  | some q =>
    obtain ⟨ex,fr',M'⟩:=q
    cases ex <;> (simp only [h]; try rfl)
theorem thenF_scal {M N:Mem} {rs:List ARes} {fr:List V} {v:V} {ex:Ex} (hex:ex=.norm∨ex=.ret) (h:resOf fr (M++N) rs=some v) (hs:scal v=true):thenF M rs (some (ex,fr,M++N))=some (v,M):=by
  rcases hex with rfl | rfl <;> (unfold thenF; simp [h,gc,hs])
theorem rd1_add (M N:Mem) (k o:Nat):rd1 (M++N) (M.length+k) o=rd1 N k o:=by
  unfold rd1
  rw [List.getElem?_append_right (by omega),Nat.add_sub_cancel_left]
theorem rd1_zero (M N:Mem) (o:Nat):rd1 (M++N) M.length o=rd1 N 0 o:=rd1_add M N 0 o
theorem rdn_add (M N:Mem) (k o n:Nat):rdn (M++N) (M.length+k) o n=rdn N k o n:=by
  unfold rdn
  rw [List.getElem?_append_right (by omega),Nat.add_sub_cancel_left]
theorem rdn_zero (M N:Mem) (o n:Nat):rdn (M++N) M.length o n=rdn N 0 o n:=rdn_add M N 0 o n
theorem wrn_add (M N:Mem) (k o:Nat) (vs:List V):wrn (M++N) (M.length+k) o vs=(wrn N k o vs).map (M++·):=by
  unfold wrn
  rw [List.getElem?_append_right (by omega),Nat.add_sub_cancel_left]
  cases N[k]? with
  | none=>rfl
  | some b =>
    simp only
    split
    · simp [List.set_append]
    · rfl
theorem wrn_zero (M N:Mem) (o:Nat) (vs:List V):wrn (M++N) M.length o vs=(wrn N 0 o vs).map (M++·):=wrn_add M N 0 o vs
theorem rd1_old {M N:Mem} {l o:Nat} {v:V} (h:rd1 M l o=some v):rd1 (M++N) l o=some v:=by
  unfold rd1 at h ⊢
  split at h
  · rename_i b hb
    rw [List.getElem?_append_left (List.getElem?_eq_some_iff.1 hb).1,hb]
    exact h
  · cases h
theorem rdn_old {M N:Mem} {l o n:Nat} {v:List V} (h:rdn M l o n=some v):rdn (M++N) l o n=some v:=by
  unfold rdn at h ⊢
  split at h
  · rename_i b hb
    rw [List.getElem?_append_left (List.getElem?_eq_some_iff.1 hb).1,hb]
    exact h
  · cases h
theorem gc_scal {M N:Mem} {v:V} (hs:scal v=true):gc M (some (v,M++N))=some (v,M):=by
  simp only [gc]
  exact if_pos ⟨hs,List.prefix_append _ _⟩
theorem gc_bool (M N:Mem) (b:Bool):gc M (some (.bool b,M++N))=some (.bool b,M):=gc_scal rfl
theorem gc_int (M N:Mem) (k:IntKind) (n:Int):gc M (some (.int k n,M++N))=some (.int k n,M):=gc_scal rfl
theorem gc_str (M N:Mem) (x:ByteArray):gc M (some (.string x,M++N))=some (.string x,M):=gc_scal rfl
theorem gc_agg (M N:Mem) (vs:List V) (h:vs.all prim=true):gc M (some (.agg vs.toArray,M++N))=some (.agg vs.toArray,M):=gc_scal h
theorem gc_tup (M N:Mem) (vs:List V) (h:vs.all prim=true):gc M (some (.tuple vs.toArray,M++N))=some (.tuple vs.toArray,M):=gc_scal h
theorem gc_slice (M M':Mem) (a:Option Addr) (n c:Nat):gc M (some (.slice a n c,M'))=some (.slice a n c,M'):=by
  simp only [gc]
  exact if_neg (by simp [scal])
theorem prim_slice (a:Option Addr) (n c:Nat):prim (.slice a n c)=false:=rfl
theorem prim_ptr (a:Option Addr):prim (.pointer a)=false:=rfl
theorem prim_int (k:IntKind) (n:Int):prim (.int k n)=true:=rfl
theorem prim_bool (b:Bool):prim (.bool b)=true:=rfl
theorem prim_str (s:ByteArray):prim (.string s)=true:=rfl
theorem gc_aggn (M M':Mem) (vs:List V) (h:vs.all prim=false):gc M (some (.agg vs.toArray,M'))=some (.agg vs.toArray,M'):=by
  simp only [gc]
  exact if_neg (by simp only [scal]; simp at h ⊢; intro h2; obtain ⟨x,hx,hp⟩:=h; rw [h2 x hx] at hp; cases hp)
theorem gc_tupn (M M':Mem) (vs:List V) (h:vs.all prim=false):gc M (some (.tuple vs.toArray,M'))=some (.tuple vs.toArray,M'):=by
  simp only [gc]
  exact if_neg (by simp only [scal]; simp at h ⊢; intro h2; obtain ⟨x,hx,hp⟩:=h; rw [h2 x hx] at hp; cases hp)
theorem gc_self (M:Mem) (v:V):gc M (some (v,M))=some (v,M):=by
  simp only [gc]
  split <;> rfl
theorem gc_not {M M':Mem} {v:V} (hs:scal v=false):gc M (some (v,M'))=some (v,M'):=by
  simp only [gc]
  exact if_neg (by simp [hs])
theorem thenF_norm (M:Mem) (rs:List ARes) (fr:List V) (M':Mem):thenF M rs (some (.norm,fr,M'))=gc M ((resOf fr M' rs).map fun v=>(v,M')):=rfl
theorem thenF_ret (M:Mem) (rs:List ARes) (fr:List V) (M':Mem):thenF M rs (some (.ret,fr,M'))=gc M ((resOf fr M' rs).map fun v=>(v,M')):=rfl
theorem rd1_here (b:Blk) (N:Mem) (o:Nat):rd1 (b :: N) 0 o=if b.st=1∨b.st=2 then b.cells[o]? else none:=rfl
theorem rd1_there (b:Blk) (N:Mem) (k o:Nat):rd1 (b :: N) (k+1) o=rd1 N k o:=rfl
theorem rdn_here (b:Blk) (N:Mem) (o n:Nat):rdn (b :: N) 0 o n=if (b.st=1∨b.st=2)∧o+n≤b.cells.length then some ((b.cells.drop o).take n) else none:=rfl
theorem rdn_there (b:Blk) (N:Mem) (k o n:Nat):rdn (b :: N) (k+1) o n=rdn N k o n:=rfl
theorem wrn_here (b:Blk) (N:Mem) (o:Nat) (vs:List V):wrn (b :: N) 0 o vs=if b.st=2∧o+vs.length≤b.cells.length∧vs.all one=true then some ({ b with cells:=splice b.cells o vs } :: N) else none:=by
  unfold wrn
  simp only [List.getElem?_cons_zero,List.set_cons_zero]
theorem wrn_there (b:Blk) (N:Mem) (k o:Nat) (vs:List V):wrn (b :: N) (k+1) o vs=(wrn N k o vs).map (b :: ·):=by
  unfold wrn
  simp only [List.getElem?_cons_succ,List.set_cons_succ]
  cases N[k]? with
  | none=>rfl
  | some c=>simp only; split <;> rfl
theorem one_int (k:IntKind) (n:Int):one (.int k n)=true:=rfl
theorem one_bool (b:Bool):one (.bool b)=true:=rfl
theorem one_str (s:ByteArray):one (.string s)=true:=rfl
theorem one_slice (a:Option Addr) (n c:Nat):one (.slice a n c)=true:=rfl
theorem one_ptr (a:Option Addr):one (.pointer a)=true:=rfl
theorem one_func (f:FuncId) (a b:Array V):one (.func (.func f) a b)=true:=rfl
theorem one_nilFunc:one .nilFunc=true:=rfl
theorem wrap_i64 {z:Int} (h1:-9223372036854775808≤z) (h2:z≤9223372036854775807):IntKind.i64.wrap z=z:=by
  simp [IntKind.wrap,IntKind.min,IntKind.max,IntKind.signed,IntKind.bits]
  omega
theorem wrap_u64 {z:Int} (h1:0≤z) (h2:z≤18446744073709551615):IntKind.u64.wrap z=z:=by
  simp [IntKind.wrap,IntKind.min,IntKind.max,IntKind.signed,IntKind.bits]
  omega
theorem wrap_u8 {z:Int} (h1:0≤z) (h2:z≤255):IntKind.u8.wrap z=z:=by
  simp [IntKind.wrap,IntKind.min,IntKind.max,IntKind.signed,IntKind.bits]
  omega
theorem wf_i64 {z:Int} (h:(Lit.int .i64 z).wf=true):-9223372036854775808≤z∧z≤9223372036854775807:=bounds_i64 h
theorem beq_dec (a b:Int):(a == b)=decide (a=b):=by
  by_cases h:a=b
  · subst h; simp
  · simp [h]
theorem bne_dec (a b:Int):(a != b)=!decide (a=b):=by rw [bne,beq_dec]
theorem bsize (s:List UInt8):ByteArray.size ⟨s.toArray⟩=s.length:=by simp [ByteArray.size]
def bxor (k:IntKind) (a b:Int):Int:=k.wrap (BitVec.ofInt k.bits a ^^^ BitVec.ofInt k.bits b).toNat
def band (k:IntKind) (a b:Int):Int:=k.wrap (BitVec.ofInt k.bits a &&& BitVec.ofInt k.bits b).toNat
def bor (k:IntKind) (a b:Int):Int:=k.wrap (BitVec.ofInt k.bits a ||| BitVec.ofInt k.bits b).toNat
def bandn (k:IntKind) (a b:Int):Int:=k.wrap (BitVec.ofInt k.bits a &&& ~~~ BitVec.ofInt k.bits b).toNat
def bshl (k:IntKind) (a b:Int):Int:=k.wrap (a * 2 ^ (min b.toNat k.bits))
def bshr (k:IntKind) (a b:Int):Int:=a.fdiv (2 ^ (min b.toNat k.bits))
theorem binS_add (k:IntKind) (a b:Int):binS .add (.int k a) (.int k b)=some (.int k (k.wrap (a+b))):=by simp [binS]
theorem binS_sub (k:IntKind) (a b:Int):binS .sub (.int k a) (.int k b)=some (.int k (k.wrap (a - b))):=by simp [binS]
theorem binS_mul (k:IntKind) (a b:Int):binS .mul (.int k a) (.int k b)=some (.int k (k.wrap (a * b))):=by simp [binS]
theorem binS_and (k:IntKind) (a b:Int):binS .and (.int k a) (.int k b)=some (.int k (band k a b)):=by unfold binS; simp only [if_true]; rfl
theorem binS_or (k:IntKind) (a b:Int):binS .or (.int k a) (.int k b)=some (.int k (bor k a b)):=by unfold binS; simp only [if_true]; rfl
theorem binS_xor (k:IntKind) (a b:Int):binS .xor (.int k a) (.int k b)=some (.int k (bxor k a b)):=by unfold binS; simp only [if_true]; rfl
theorem binS_andNot (k:IntKind) (a b:Int):binS .andNot (.int k a) (.int k b)=some (.int k (bandn k a b)):=by unfold binS; simp only [if_true]; rfl
theorem binS_eql (k:IntKind) (a b:Int):binS .eql (.int k a) (.int k b)=some (.bool (decide (a=b))):=by simp [binS,beq_dec]
theorem binS_neq (k:IntKind) (a b:Int):binS .neq (.int k a) (.int k b)=some (.bool (!decide (a=b))):=by simp [binS,bne_dec]
theorem binS_lss (k:IntKind) (a b:Int):binS .lss (.int k a) (.int k b)=some (.bool (decide (a < b))):=by simp [binS]
theorem binS_leq (k:IntKind) (a b:Int):binS .leq (.int k a) (.int k b)=some (.bool (decide (a≤b))):=by simp [binS]
theorem binS_gtr (k:IntKind) (a b:Int):binS .gtr (.int k a) (.int k b)=some (.bool (decide (b < a))):=by simp [binS]
theorem binS_geq (k:IntKind) (a b:Int):binS .geq (.int k a) (.int k b)=some (.bool (decide (b≤a))):=by simp [binS]
theorem binS_quo (k:IntKind) (a b:Int) (h:b ≠ 0):binS .quo (.int k a) (.int k b)=some (.int k (k.wrap (a.tdiv b))):=by simp [binS,h]
theorem binS_rem (k:IntKind) (a b:Int) (h:b ≠ 0):binS .rem (.int k a) (.int k b)=some (.int k (a.tmod b)):=by simp [binS,h]
theorem binS_shl (k k':IntKind) (a b:Int) (h:0≤b):binS .shl (.int k a) (.int k' b)=some (.int k (bshl k a b)):=by
  unfold binS; simp only; rw [if_neg (by omega)]; rfl
theorem binS_shr (k k':IntKind) (a b:Int) (h:0≤b):binS .shr (.int k a) (.int k' b)=some (.int k (bshr k a b)):=by
  unfold binS; simp only; rw [if_neg (by omega)]; rfl
theorem binS_sadd (x y:ByteArray):binS .add (.string x) (.string y)=if x.size+y.size≤9223372036854775807 then some (.string ⟨(x.data.toList++y.data.toList).toArray⟩) else none:=rfl
theorem binS_seql (x y:ByteArray):binS .eql (.string x) (.string y)=some (.bool (x.data.toList == y.data.toList)):=rfl
theorem binS_sneq (x y:ByteArray):binS .neq (.string x) (.string y)=some (.bool (!(x.data.toList == y.data.toList))):=rfl
theorem binS_slss (x y:ByteArray):binS .lss (.string x) (.string y)=some (.bool (Op.bytesLess x.data.toList y.data.toList)):=rfl
theorem binS_sgtr (x y:ByteArray):binS .gtr (.string x) (.string y)=some (.bool (!(Op.bytesLess x.data.toList y.data.toList || x.data.toList == y.data.toList))):=rfl
theorem cellsOf_int (k:IntKind) (n:Int):cellsOf (.int k n)=[.int k n]:=rfl
theorem cellsOf_bool (b:Bool):cellsOf (.bool b)=[.bool b]:=rfl
theorem cellsOf_str (s:ByteArray):cellsOf (.string s)=[.string s]:=rfl
theorem cellsOf_slice (a:Option Addr) (n c:Nat):cellsOf (.slice a n c)=[.slice a n c]:=rfl
theorem cellsOf_ptr (a:Option Addr):cellsOf (.pointer a)=[.pointer a]:=rfl
theorem cellsOf_agg (cs:Array V):cellsOf (.agg cs)=cs.toList:=rfl
theorem cellsOf_func (f:FuncId) (a b:Array V):cellsOf (.func (.func f) a b)=[.func (.func f) a b]:=rfl
theorem cellsOf_nilFunc:cellsOf .nilFunc=[.nilFunc]:=rfl
theorem cellsOf_byteV (b:UInt8):cellsOf (byteV b)=[byteV b]:=rfl
attribute [simp] selO_true selO_false thenO_some selD_true selD_false thenD_some thenD_same thenD_st quiet_nil quiet_cons hits_nil hits_nil2 hits_cons rfp_mv wfp_mv eff_mv mem_mv isSt_mv rfp_pick wfp_pick eff_pick mem_pick isSt_pick rfp_new wfp_new eff_new mem_new isSt_new rfp_box wfp_box eff_box mem_box isSt_box rfp_build wfp_build eff_build mem_build isSt_build rfp_mkl wfp_mkl eff_mkl mem_mkl isSt_mkl wfp_load1 eff_load1 mem_load1 isSt_load1 wfp_loadn eff_loadn mem_loadn isSt_loadn rfp_store wfp_store eff_store mem_store isSt_store rfp_bin wfp_bin eff_bin mem_bin isSt_bin rfp_beq wfp_beq eff_beq mem_beq isSt_beq rfp_eqs wfp_eqs eff_eqs mem_eqs isSt_eqs rfp_eqnil wfp_eqnil eff_eqnil mem_eqnil isSt_eqnil rfp_not wfp_not eff_not mem_not isSt_not rfp_neg wfp_neg eff_neg mem_neg isSt_neg rfp_bnot wfp_bnot eff_bnot mem_bnot isSt_bnot rfp_conv wfp_conv eff_conv mem_conv isSt_conv wfp_bts eff_bts mem_bts isSt_bts rfp_stb wfp_stb eff_stb mem_stb isSt_stb rfp_fn wfp_fn eff_fn mem_fn isSt_fn rfp_make wfp_make eff_make mem_make isSt_make wfp_slc eff_slc mem_slc isSt_slc rfp_slc0 wfp_slc0 eff_slc0 mem_slc0 isSt_slc0 rfp_sls wfp_sls eff_sls mem_sls isSt_sls rfp_fa wfp_fa eff_fa mem_fa isSt_fa rfp_fld1 wfp_fld1 eff_fld1 mem_fld1 isSt_fld1 rfp_fldn wfp_fldn eff_fldn mem_fldn isSt_fldn rfp_ia wfp_ia eff_ia mem_ia isSt_ia rfp_ix wfp_ix eff_ix mem_ix isSt_ix rfp_ext wfp_ext eff_ext mem_ext isSt_ext rfp_len wfp_len eff_len mem_len isSt_len rfp_slen wfp_slen eff_slen mem_slen isSt_slen rfp_app wfp_app eff_app mem_app isSt_app rfp_apps wfp_apps eff_apps mem_apps isSt_apps rfp_appz wfp_appz eff_appz mem_appz isSt_appz rfp_copy wfp_copy eff_copy mem_copy isSt_copy rfp_copys wfp_copys eff_copys mem_copys isSt_copys rfp_clr wfp_clr eff_clr mem_clr isSt_clr rfp_sel wfp_sel eff_sel mem_sel isSt_sel rfp_mins wfp_mins eff_mins mem_mins isSt_mins rfp_bad wfp_bad eff_bad mem_bad isSt_bad rfp_maxs wfp_maxs eff_maxs mem_maxs isSt_maxs rfp_chk wfp_chk eff_chk mem_chk isSt_chk rfp_call wfp_call eff_call mem_call isSt_call rfp_callv wfp_callv eff_callv mem_callv isSt_callv rfs_ptr rfp_load1 rfp_loadn wfs_ptr wfs_sl wfs_nil aOps_nil aOps_cons aOpsD_nil aOpsD_cons thenG_some thenS_norm thenS_exit thenS_ret condR_true condR_false blockR_norm blockR_ret blockR_exit
  aCode_reg aCode_regD aCode_perm aCode_seq aCode_cond aCode_block aCode_loop thenL_norm thenL_exit thenL_ret maskF_true maskF_false maskF_nil aCode_exit aCode_ret aCode_skip aCode_ins thenI_some ins6_get runF_eq ev setF wants stepOp rd1_add rd1_zero rdn_add rdn_zero wrn_add wrn_zero gc_bool gc_int gc_str gc_agg gc_tup gc_self gc_slice gc_aggn gc_tupn prim_slice prim_ptr prim_int prim_bool prim_str thenF_norm thenF_ret binS_add binS_sub binS_mul binS_and binS_or binS_xor binS_andNot binS_eql binS_neq binS_lss binS_leq binS_gtr binS_geq binS_quo binS_rem binS_shl binS_shr binS_sadd binS_seql binS_sneq binS_slss binS_sgtr resOf resVs resV scal cellsOf_int cellsOf_bool cellsOf_str cellsOf_slice cellsOf_ptr cellsOf_agg cellsOf_func cellsOf_nilFunc cellsOf_byteV splice bsize beq_dec bne_dec bound parts fillS isIntV foldV
  rd1_here rd1_there rdn_here rdn_there wrn_here wrn_there one_int one_bool one_str one_slice one_ptr one_func one_nilFunc
end GoAm
