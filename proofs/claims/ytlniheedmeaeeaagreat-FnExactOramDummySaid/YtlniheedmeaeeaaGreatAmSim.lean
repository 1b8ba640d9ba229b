/- How the abstract machine is reckoned by 'simp': lazily, a test at a time. -/
import Derived.Test.YtlniheedmeaeeaaGreatAmTab
set_option autoImplicit false
set_option linter.unusedVariables false
set_option linter.unusedSimpArgs false
namespace GoAm
open Go
def ZCA (w:Option Bool) (call:Yd) (d:Option Nat) (op:AOp) (os:List AOper) (fr:List V) (M:Mem):Option (List V × Mem):=match w with
  | some true=>match Ze call fr M op with
    | some (v,M')=>Zhn call os (JC fr d v) M'
    | none=>none
  | some false=>Zhn call os (JC fr d skp) M
  | none=>none
def ZEv (x:Option (V × Mem)) (call:Yd) (d:Option Nat) (os:List AOper) (fr:List V):Option (List V × Mem):=match x with
  | some (v,M')=>Zhn call os (JC fr d v) M'
  | none=>none
theorem Zxk (call:Yd) (d:Option Nat) (op:AOp) (os:List AOper) (fr:List V) (M:Mem):ZCA (some true) call d op os fr M=ZEv (Ze call fr M op) call d os fr:=rfl
theorem Zvo (call:Yd) (d:Option Nat) (op:AOp) (os:List AOper) (fr:List V) (M:Mem):ZCA (some false) call d op os fr M=Zhn call os (JC fr d skp) M:=rfl
theorem ZnD (p:Bool) (call:Yd) (d:Option Nat) (op:AOp) (os:List AOper) (fr:List V) (M:Mem):ZCA (some p) call d op os fr M=if p=true then ZCA (some true) call d op os fr M else ZCA (some false) call d op os fr M:=by cases p <;> rfl
theorem ZuO (v:V) (M:Mem) (call:Yd) (d:Option Nat) (os:List AOper) (fr:List V):ZEv (some (v,M)) call d os fr=Zhn call os (JC fr d v) M:=rfl
theorem Zy3 (call:Yd) (fr:List V) (M:Mem):Zhn call [] fr M=some (fr,M):=rfl
theorem ZvQ (call:Yd) (d:Option Nat) (op:AOp) (g:Option (Nat × Bool)) (os:List AOper) (fr:List V) (M:Mem):Zhn call (⟨d,op,g⟩ :: os) fr M=ZCA (Zbh fr g) call d op os fr M:=by
  rw [Zhn]
  unfold ZCA
  split <;> (rename_i h; rw [h]; try rfl)
noncomputable def ZBg (R W:List Nat) (w:Option Bool) (call:Yd) (d:Option Nat) (op:AOp) (os:List AOper) (fr:List V) (M:Mem):Option (List V × Mem):=match w with
  | some true=>if Zfx (rfp fr op) W=true then none else match Ze call fr M op with
    | some (v,M')=>open Classical in if M <+: M'∨(Zea op && Zp6 os)=true∨(JQ M M' (wfp fr op)∧Zfx (wfp fr op) R=false)∨((ZAW op && mvs os)=true∧M.length≤M'.length) then JP call (rfp fr op++R) (wfp fr op++W) os (JC fr d v) M' else if ZAW op=true∧JQ M M' (cfp fr op)∧Zfx (cfp fr op) R=false then JP call (rfp fr op++R) (cfp fr op++W) os (JC fr d v) M' else none
    | none=>none
  | some false=>JP call R W os (JC fr d skp) M
  | none=>none
noncomputable def Zj6 (st cl:Bool) (r w c R W:List Nat) (x:Option (V × Mem)) (call:Yd) (d:Option Nat) (os:List AOper) (fr:List V) (M:Mem):Option (List V × Mem):=match x with
  | some (v,M')=>open Classical in if M <+: M'∨(st && Zp6 os)=true∨(JQ M M' w∧Zfx w R=false)∨((cl && mvs os)=true∧M.length≤M'.length) then JP call (r++R) (w++W) os (JC fr d v) M' else if cl=true∧JQ M M' c∧Zfx c R=false then JP call (r++R) (c++W) os (JC fr d v) M' else none
  | none=>none
theorem Zwk {R W:List Nat} {fr:List V} {op:AOp} (h:Zfx (rfp fr op) W=false) (call:Yd) (d:Option Nat) (os:List AOper) (M:Mem):ZBg R W (some true) call d op os fr M=Zj6 (Zea op) (ZAW op) (rfp fr op) (wfp fr op) (cfp fr op) R W (Ze call fr M op) call d os fr M:=by
  unfold ZBg Zj6
  simp only [h]
  rfl
theorem Zuq (R W:List Nat) (call:Yd) (d:Option Nat) (op:AOp) (os:List AOper) (fr:List V) (M:Mem):ZBg R W (some false) call d op os fr M=JP call R W os (JC fr d skp) M:=rfl
theorem Zoo (R W:List Nat) (p:Bool) (call:Yd) (d:Option Nat) (op:AOp) (os:List AOper) (fr:List V) (M:Mem):ZBg R W (some p) call d op os fr M=if p=true then ZBg R W (some true) call d op os fr M else ZBg R W (some false) call d op os fr M:=by cases p <;> rfl
theorem Zpw (st cl:Bool) (r w c R W:List Nat) (v:V) (M N:Mem) (call:Yd) (d:Option Nat) (os:List AOper) (fr:List V):Zj6 st cl r w c R W (some (v,M++N)) call d os fr M=JP call (r++R) (w++W) os (JC fr d v) (M++N):=by
  simp only [Zj6]
  rw [if_pos (.inl (List.prefix_append _ _))]
theorem Zup (st cl:Bool) (r w c R W:List Nat) (v:V) (M:Mem) (call:Yd) (d:Option Nat) (os:List AOper) (fr:List V):Zj6 st cl r w c R W (some (v,M)) call d os fr M=JP call (r++R) (w++W) os (JC fr d v) M:=by
  simp only [Zj6]
  rw [if_pos (.inl (List.prefix_refl _))]
theorem Jo {st cl:Bool} {r w c R W:List Nat} {v:V} {M M':Mem} (h:M <+: M') (call:Yd) (d:Option Nat) (os:List AOper) (fr:List V):Zj6 st cl r w c R W (some (v,M')) call d os fr M=JP call (r++R) (w++W) os (JC fr d v) M':=by
  simp only [Zj6]
  rw [if_pos (.inl h)]
theorem ZBa {cl:Bool} {os:List AOper} (h:Zp6 os=true) (r w c R W:List Nat) (v:V) (M M':Mem) (call:Yd) (d:Option Nat) (fr:List V):Zj6 true cl r w c R W (some (v,M')) call d os fr M=JP call (r++R) (w++W) os (JC fr d v) M':=by
  simp only [Zj6]
  rw [if_pos (.inr (.inl (by simp [h])))]
theorem YD {st cl:Bool} {r w c R W:List Nat} {v:V} {M M':Mem} (h:JQ M M' w) (h2:Zfx w R=false) (call:Yd) (d:Option Nat) (os:List AOper) (fr:List V):Zj6 st cl r w c R W (some (v,M')) call d os fr M=JP call (r++R) (w++W) os (JC fr d v) M':=by
  simp only [Zj6]
  rw [if_pos (.inr (.inr (.inl ⟨h,h2⟩)))]
theorem ZAa {st:Bool} {r w c R W:List Nat} {v:V} {M M':Mem} (h:M.length≤M'.length) (call:Yd) (d:Option Nat) (fr:List V):Zj6 st true r w c R W (some (v,M')) call d [] fr M=some (JC fr d v,M'):=by
  simp only [Zj6]
  rw [if_pos (.inr (.inr (.inr ⟨rfl,h⟩)))]
  rfl
@[simp] theorem ZGM:mvs []=true:=rfl
@[simp] theorem ZFS (d:Option Nat) (op:AOp) (g:Option (Nat × Bool)) (os:List AOper):mvs (⟨d,op,g⟩ :: os)=(ZyV op && mvs os):=rfl
@[simp] theorem ZFY (x:Opd):ZyV (.mv x)=true:=rfl
@[simp] theorem ZF5 (fr:List V) (f:FuncId) (xs:List Opd):cfp fr (.call f xs)=xs.flatMap fun x=>pfs (ev fr x):=rfl
@[simp] theorem ZGJ (k:IntKind) (n:Int):pfs (.int k n)=[]:=id rfl
@[simp] theorem ZFV (b:Bool):pfs (.bool b)=[]:=id rfl
@[simp] theorem ZF6 (x:ByteArray):pfs (.string x)=[]:=id rfl
@[simp] theorem ZFf (a:Option Addr) (n c:Nat):pfs (.slice a n c)=[]:=id rfl
@[simp] theorem ZGu (x:Array V):pfs (.agg x)=[]:=id rfl
@[simp] theorem ZGs (a:Addr):pfs (.pointer (some a))=[a.block]:=rfl
@[simp] theorem ZFC (f:FuncId) (xs:List Opd):ZAW (.call f xs)=true:=id rfl
@[simp] theorem ZEb (x:Opd) (xs:List Opd):ZAW (.callv x xs)=true:=id rfl
theorem Zzp (xs:List Nat):Zfx xs []=false:=by simp [Zfx]
theorem Zws (ys:List Nat):Zfx [] ys=false:=id rfl
theorem ZwI (x:Nat) (xs:List Nat) (y:Nat) (ys:List Nat):Zfx (x :: xs) (y :: ys)=(decide (x=y) || Zfx [x] ys || Zfx xs (y :: ys)):=by simp [Zfx]
theorem ZEN (fr:List V) (x0:Opd):rfp fr (.mv x0)=[]:=id rfl
theorem ZFx (fr:List V) (x0:Opd):wfp fr (.mv x0)=[]:=id rfl
theorem ZEM (x0:Opd):eff (.mv x0)=false:=id rfl
theorem ZFq (x0:Opd):mem (.mv x0)=false:=id rfl
theorem ZDF (x0:Opd):Zea (.mv x0)=false:=id rfl
theorem ZyU (fr:List V) (x0:Opd) (x1:Opd) (x2:Opd):rfp fr (.pick x0 x1 x2)=[]:=id rfl
theorem ZyW (fr:List V) (x0:Opd) (x1:Opd) (x2:Opd):wfp fr (.pick x0 x1 x2)=[]:=id rfl
theorem Zzb (x0:Opd) (x1:Opd) (x2:Opd):eff (.pick x0 x1 x2)=false:=id rfl
theorem Zzs (x0:Opd) (x1:Opd) (x2:Opd):mem (.pick x0 x1 x2)=false:=id rfl
theorem Zv5 (x0:Opd) (x1:Opd) (x2:Opd):Zea (.pick x0 x1 x2)=false:=id rfl
theorem ZCV (fr:List V) (x0:List V):rfp fr (.new x0)=[]:=id rfl
theorem ZDd (fr:List V) (x0:List V):wfp fr (.new x0)=[]:=id rfl
theorem ZCf (x0:List V):eff (.new x0)=true:=id rfl
theorem ZCW (x0:List V):mem (.new x0)=false:=id rfl
theorem Zy5 (x0:List V):Zea (.new x0)=false:=id rfl
theorem ZDC (fr:List V) (x0:Opd):rfp fr (.box x0)=[]:=id rfl
theorem ZCK (fr:List V) (x0:Opd):wfp fr (.box x0)=[]:=id rfl
theorem ZCg (x0:Opd):eff (.box x0)=true:=id rfl
theorem ZBE (x0:Opd):mem (.box x0)=false:=id rfl
theorem ZzB (x0:Opd):Zea (.box x0)=false:=id rfl
theorem Zyf (fr:List V) (x0:List V) (x1:List (Nat × Nat × Opd)):rfp fr (.build x0 x1)=[]:=id rfl
theorem Zv8 (fr:List V) (x0:List V) (x1:List (Nat × Nat × Opd)):wfp fr (.build x0 x1)=[]:=id rfl
theorem Zwn (x0:List V) (x1:List (Nat × Nat × Opd)):eff (.build x0 x1)=false:=id rfl
theorem ZwJ (x0:List V) (x1:List (Nat × Nat × Opd)):mem (.build x0 x1)=false:=id rfl
theorem Zuf (x0:List V) (x1:List (Nat × Nat × Opd)):Zea (.build x0 x1)=false:=id rfl
theorem ZDT (fr:List V) (x0:Nat) (x1:Nat) (x2:List V) (x3:List (Nat × Nat × Opd)):rfp fr (.mkl x0 x1 x2 x3)=[]:=id rfl
theorem ZDa (fr:List V) (x0:Nat) (x1:Nat) (x2:List V) (x3:List (Nat × Nat × Opd)):wfp fr (.mkl x0 x1 x2 x3)=[]:=id rfl
theorem ZDz (x0:Nat) (x1:Nat) (x2:List V) (x3:List (Nat × Nat × Opd)):eff (.mkl x0 x1 x2 x3)=true:=id rfl
theorem ZD4 (x0:Nat) (x1:Nat) (x2:List V) (x3:List (Nat × Nat × Opd)):mem (.mkl x0 x1 x2 x3)=false:=id rfl
theorem ZyE (x0:Nat) (x1:Nat) (x2:List V) (x3:List (Nat × Nat × Opd)):Zea (.mkl x0 x1 x2 x3)=false:=id rfl
theorem Zv4 (fr:List V) (x0:Opd):wfp fr (.load1 x0)=[]:=id rfl
theorem Zwf (x0:Opd):eff (.load1 x0)=false:=id rfl
theorem Zw3 (x0:Opd):mem (.load1 x0)=true:=id rfl
theorem ZuG (x0:Opd):Zea (.load1 x0)=false:=id rfl
theorem Zwq (fr:List V) (x0:Nat) (x1:Opd):wfp fr (.loadn x0 x1)=[]:=id rfl
theorem ZvP (x0:Nat) (x1:Opd):eff (.loadn x0 x1)=false:=id rfl
theorem ZxS (x0:Nat) (x1:Opd):mem (.loadn x0 x1)=true:=id rfl
theorem ZuY (x0:Nat) (x1:Opd):Zea (.loadn x0 x1)=false:=id rfl
theorem ZwS (fr:List V) (x0:Nat) (x1:Opd) (x2:Opd):rfp fr (.store x0 x1 x2)=[]:=id rfl
theorem Zww (fr:List V) (x0:Nat) (x1:Opd) (x2:Opd):wfp fr (.store x0 x1 x2)=wfs (ev fr x1):=id rfl
theorem Zv1 (x0:Nat) (x1:Opd) (x2:Opd):eff (.store x0 x1 x2)=true:=id rfl
theorem Zwr (x0:Nat) (x1:Opd) (x2:Opd):mem (.store x0 x1 x2)=false:=id rfl
theorem ZuN (x0:Nat) (x1:Opd) (x2:Opd):Zea (.store x0 x1 x2)=true:=id rfl
theorem ZCv (fr:List V) (x0:BinOp) (x1:Opd) (x2:Opd):rfp fr (.bin x0 x1 x2)=[]:=id rfl
theorem ZBF (fr:List V) (x0:BinOp) (x1:Opd) (x2:Opd):wfp fr (.bin x0 x1 x2)=[]:=id rfl
theorem ZBY (x0:BinOp) (x1:Opd) (x2:Opd):eff (.bin x0 x1 x2)=false:=id rfl
theorem ZBH (x0:BinOp) (x1:Opd) (x2:Opd):mem (.bin x0 x1 x2)=false:=id rfl
theorem ZyR (x0:BinOp) (x1:Opd) (x2:Opd):Zea (.bin x0 x1 x2)=false:=id rfl
theorem ZBW (fr:List V) (x0:Bool) (x1:Opd) (x2:Opd):rfp fr (.beq x0 x1 x2)=[]:=id rfl
theorem ZB5 (fr:List V) (x0:Bool) (x1:Opd) (x2:Opd):wfp fr (.beq x0 x1 x2)=[]:=id rfl
theorem ZDh (x0:Bool) (x1:Opd) (x2:Opd):eff (.beq x0 x1 x2)=false:=id rfl
theorem ZC3 (x0:Bool) (x1:Opd) (x2:Opd):mem (.beq x0 x1 x2)=false:=id rfl
theorem ZyN (x0:Bool) (x1:Opd) (x2:Opd):Zea (.beq x0 x1 x2)=false:=id rfl
theorem ZCE (fr:List V) (x0:Bool) (x1:List Nat) (x2:Opd) (x3:Opd):rfp fr (.eqs x0 x1 x2 x3)=[]:=id rfl
theorem ZDP (fr:List V) (x0:Bool) (x1:List Nat) (x2:Opd) (x3:Opd):wfp fr (.eqs x0 x1 x2 x3)=[]:=id rfl
theorem ZCR (x0:Bool) (x1:List Nat) (x2:Opd) (x3:Opd):eff (.eqs x0 x1 x2 x3)=false:=id rfl
theorem ZDJ (x0:Bool) (x1:List Nat) (x2:Opd) (x3:Opd):mem (.eqs x0 x1 x2 x3)=false:=id rfl
theorem Zz8 (x0:Bool) (x1:List Nat) (x2:Opd) (x3:Opd):Zea (.eqs x0 x1 x2 x3)=false:=id rfl
theorem Zxn (fr:List V) (x0:Bool) (x1:Opd):rfp fr (.eqnil x0 x1)=[]:=id rfl
theorem Zym (fr:List V) (x0:Bool) (x1:Opd):wfp fr (.eqnil x0 x1)=[]:=id rfl
theorem Zwu (x0:Bool) (x1:Opd):eff (.eqnil x0 x1)=false:=id rfl
theorem ZwY (x0:Bool) (x1:Opd):mem (.eqnil x0 x1)=false:=id rfl
theorem Zvc (x0:Bool) (x1:Opd):Zea (.eqnil x0 x1)=false:=id rfl
theorem ZDQ (fr:List V) (x0:Opd):rfp fr (.not x0)=[]:=id rfl
theorem ZD7 (fr:List V) (x0:Opd):wfp fr (.not x0)=[]:=id rfl
theorem ZBZ (x0:Opd):eff (.not x0)=false:=id rfl
theorem ZCF (x0:Opd):mem (.not x0)=false:=id rfl
theorem ZAt (x0:Opd):Zea (.not x0)=false:=id rfl
theorem ZD6 (fr:List V) (x0:Opd):rfp fr (.neg x0)=[]:=id rfl
theorem ZDb (fr:List V) (x0:Opd):wfp fr (.neg x0)=[]:=id rfl
theorem ZDN (x0:Opd):eff (.neg x0)=false:=id rfl
theorem ZDU (x0:Opd):mem (.neg x0)=false:=id rfl
theorem ZAG (x0:Opd):Zea (.neg x0)=false:=id rfl
theorem ZA0 (fr:List V) (x0:Opd):rfp fr (.bnot x0)=[]:=id rfl
theorem ZyM (fr:List V) (x0:Opd):wfp fr (.bnot x0)=[]:=id rfl
theorem ZzY (x0:Opd):eff (.bnot x0)=false:=id rfl
theorem ZzI (x0:Opd):mem (.bnot x0)=false:=id rfl
theorem ZwK (x0:Opd):Zea (.bnot x0)=false:=id rfl
theorem ZA2 (fr:List V) (x0:IntKind) (x1:Opd):rfp fr (.conv x0 x1)=[]:=id rfl
theorem Zzc (fr:List V) (x0:IntKind) (x1:Opd):wfp fr (.conv x0 x1)=[]:=id rfl
theorem ZAM (x0:IntKind) (x1:Opd):eff (.conv x0 x1)=false:=id rfl
theorem ZAh (x0:IntKind) (x1:Opd):mem (.conv x0 x1)=false:=id rfl
theorem ZxL (x0:IntKind) (x1:Opd):Zea (.conv x0 x1)=false:=id rfl
theorem ZDS (fr:List V) (x0:Opd):wfp fr (.bts x0)=[]:=id rfl
theorem ZCs (x0:Opd):eff (.bts x0)=false:=id rfl
theorem ZDn (x0:Opd):mem (.bts x0)=true:=id rfl
theorem ZyH (x0:Opd):Zea (.bts x0)=false:=id rfl
theorem ZBM (fr:List V) (x0:Opd):rfp fr (.stb x0)=[]:=id rfl
theorem ZCL (fr:List V) (x0:Opd):wfp fr (.stb x0)=[]:=id rfl
theorem ZDo (x0:Opd):eff (.stb x0)=true:=id rfl
theorem ZDe (x0:Opd):mem (.stb x0)=false:=id rfl
theorem ZA6 (x0:Opd):Zea (.stb x0)=false:=id rfl
theorem ZEB (fr:List V) (x0:FuncId) (x1:List Opd):rfp fr (.fn x0 x1)=[]:=id rfl
theorem ZFm (fr:List V) (x0:FuncId) (x1:List Opd):wfp fr (.fn x0 x1)=[]:=id rfl
theorem ZEu (x0:FuncId) (x1:List Opd):eff (.fn x0 x1)=false:=id rfl
theorem ZFw (x0:FuncId) (x1:List Opd):mem (.fn x0 x1)=false:=id rfl
theorem ZCS (x0:FuncId) (x1:List Opd):Zea (.fn x0 x1)=false:=id rfl
theorem Zza (fr:List V) (x0:Nat) (x1:Nat) (x2:List V) (x3:Opd):rfp fr (.make x0 x1 x2 x3)=[]:=id rfl
theorem ZyS (fr:List V) (x0:Nat) (x1:Nat) (x2:List V) (x3:Opd):wfp fr (.make x0 x1 x2 x3)=[]:=id rfl
theorem Zzw (x0:Nat) (x1:Nat) (x2:List V) (x3:Opd):eff (.make x0 x1 x2 x3)=true:=id rfl
theorem Zzz (x0:Nat) (x1:Nat) (x2:List V) (x3:Opd):mem (.make x0 x1 x2 x3)=false:=id rfl
theorem Zyc (x0:Nat) (x1:Nat) (x2:List V) (x3:Opd):Zea (.make x0 x1 x2 x3)=false:=id rfl
theorem ZDc (fr:List V) (x0:Nat) (x1:Opd) (x2:Option Opd) (x3:Option Opd):wfp fr (.slc x0 x1 x2 x3)=[]:=id rfl
theorem ZCY (x0:Nat) (x1:Opd) (x2:Option Opd) (x3:Option Opd):eff (.slc x0 x1 x2 x3)=false:=id rfl
theorem ZDr (x0:Nat) (x1:Opd) (x2:Option Opd) (x3:Option Opd):mem (.slc x0 x1 x2 x3)=true:=id rfl
theorem ZBc (x0:Nat) (x1:Opd) (x2:Option Opd) (x3:Option Opd):Zea (.slc x0 x1 x2 x3)=false:=id rfl
theorem Zzl (fr:List V) (x0:Nat) (x1:Opd):rfp fr (.slc0 x0 x1)=[]:=id rfl
theorem ZyQ (fr:List V) (x0:Nat) (x1:Opd):wfp fr (.slc0 x0 x1)=[]:=id rfl
theorem ZAZ (x0:Nat) (x1:Opd):eff (.slc0 x0 x1)=true:=id rfl
theorem ZzF (x0:Nat) (x1:Opd):mem (.slc0 x0 x1)=false:=id rfl
theorem Zyb (x0:Nat) (x1:Opd):Zea (.slc0 x0 x1)=false:=id rfl
theorem ZCu (fr:List V) (x0:Opd) (x1:Option Opd) (x2:Option Opd):rfp fr (.sls x0 x1 x2)=[]:=id rfl
theorem ZDm (fr:List V) (x0:Opd) (x1:Option Opd) (x2:Option Opd):wfp fr (.sls x0 x1 x2)=[]:=id rfl
theorem ZDD (x0:Opd) (x1:Option Opd) (x2:Option Opd):eff (.sls x0 x1 x2)=false:=id rfl
theorem ZC2 (x0:Opd) (x1:Option Opd) (x2:Option Opd):mem (.sls x0 x1 x2)=false:=id rfl
theorem ZA9 (x0:Opd) (x1:Option Opd) (x2:Option Opd):Zea (.sls x0 x1 x2)=false:=id rfl
theorem ZEE (fr:List V) (x0:Nat) (x1:Opd):rfp fr (.fa x0 x1)=[]:=id rfl
theorem ZFd (fr:List V) (x0:Nat) (x1:Opd):wfp fr (.fa x0 x1)=[]:=id rfl
theorem ZFB (x0:Nat) (x1:Opd):eff (.fa x0 x1)=false:=id rfl
theorem ZFR (x0:Nat) (x1:Opd):mem (.fa x0 x1)=false:=id rfl
theorem ZDG (x0:Nat) (x1:Opd):Zea (.fa x0 x1)=false:=id rfl
theorem ZA8 (fr:List V) (x0:Nat) (x1:Opd):rfp fr (.fld1 x0 x1)=[]:=id rfl
theorem Zzx (fr:List V) (x0:Nat) (x1:Opd):wfp fr (.fld1 x0 x1)=[]:=id rfl
theorem ZAS (x0:Nat) (x1:Opd):eff (.fld1 x0 x1)=false:=id rfl
theorem Zy8 (x0:Nat) (x1:Opd):mem (.fld1 x0 x1)=false:=id rfl
theorem Zxh (x0:Nat) (x1:Opd):Zea (.fld1 x0 x1)=false:=id rfl
theorem ZAw (fr:List V) (x0:Nat) (x1:Nat) (x2:Opd):rfp fr (.fldn x0 x1 x2)=[]:=id rfl
theorem ZAe (fr:List V) (x0:Nat) (x1:Nat) (x2:Opd):wfp fr (.fldn x0 x1 x2)=[]:=id rfl
theorem ZzS (x0:Nat) (x1:Nat) (x2:Opd):eff (.fldn x0 x1 x2)=false:=id rfl
theorem ZzQ (x0:Nat) (x1:Nat) (x2:Opd):mem (.fldn x0 x1 x2)=false:=id rfl
theorem Zyk (x0:Nat) (x1:Nat) (x2:Opd):Zea (.fldn x0 x1 x2)=false:=id rfl
theorem ZEt (fr:List V) (x0:Nat) (x1:Opd) (x2:Opd):rfp fr (.ia x0 x1 x2)=[]:=id rfl
theorem ZEq (fr:List V) (x0:Nat) (x1:Opd) (x2:Opd):wfp fr (.ia x0 x1 x2)=[]:=id rfl
theorem ZFn (x0:Nat) (x1:Opd) (x2:Opd):eff (.ia x0 x1 x2)=false:=id rfl
theorem ZFk (x0:Nat) (x1:Opd) (x2:Opd):mem (.ia x0 x1 x2)=false:=id rfl
theorem ZDk (x0:Nat) (x1:Opd) (x2:Opd):Zea (.ia x0 x1 x2)=false:=id rfl
theorem ZEx (fr:List V) (x0:Opd) (x1:Opd):rfp fr (.ix x0 x1)=[]:=id rfl
theorem ZE1 (fr:List V) (x0:Opd) (x1:Opd):wfp fr (.ix x0 x1)=[]:=id rfl
theorem ZET (x0:Opd) (x1:Opd):eff (.ix x0 x1)=false:=id rfl
theorem ZEJ (x0:Opd) (x1:Opd):mem (.ix x0 x1)=false:=id rfl
theorem ZCt (x0:Opd) (x1:Opd):Zea (.ix x0 x1)=false:=id rfl
theorem ZCy (fr:List V) (x0:Opd) (x1:Nat):rfp fr (.ext x0 x1)=[]:=id rfl
theorem ZDy (fr:List V) (x0:Opd) (x1:Nat):wfp fr (.ext x0 x1)=[]:=id rfl
theorem ZCr (x0:Opd) (x1:Nat):eff (.ext x0 x1)=false:=id rfl
theorem ZBN (x0:Opd) (x1:Nat):mem (.ext x0 x1)=false:=id rfl
theorem ZAv (x0:Opd) (x1:Nat):Zea (.ext x0 x1)=false:=id rfl
theorem ZBO (fr:List V) (x0:Opd):rfp fr (.len x0)=[]:=id rfl
theorem ZDR (fr:List V) (x0:Opd):wfp fr (.len x0)=[]:=id rfl
theorem ZCk (x0:Opd):eff (.len x0)=false:=id rfl
theorem ZCT (x0:Opd):mem (.len x0)=false:=id rfl
theorem ZyD (x0:Opd):Zea (.len x0)=false:=id rfl
theorem ZAp (fr:List V) (x0:Opd):rfp fr (.slen x0)=[]:=id rfl
theorem Zzn (fr:List V) (x0:Opd):wfp fr (.slen x0)=[]:=id rfl
theorem Zzh (x0:Opd):eff (.slen x0)=false:=id rfl
theorem ZzG (x0:Opd):mem (.slen x0)=false:=id rfl
theorem Zv9 (x0:Opd):Zea (.slen x0)=false:=id rfl
theorem ZC7 (fr:List V) (x0:Nat) (x1:Nat) (x2:Opd) (x3:Opd):rfp fr (.app x0 x1 x2 x3)=[]:=id rfl
theorem ZD2 (fr:List V) (x0:Nat) (x1:Nat) (x2:Opd) (x3:Opd):wfp fr (.app x0 x1 x2 x3)=wfs (ev fr x2):=id rfl
theorem ZC8 (x0:Nat) (x1:Nat) (x2:Opd) (x3:Opd):eff (.app x0 x1 x2 x3)=true:=id rfl
theorem ZC9 (x0:Nat) (x1:Nat) (x2:Opd) (x3:Opd):mem (.app x0 x1 x2 x3)=false:=id rfl
theorem ZAs (x0:Nat) (x1:Nat) (x2:Opd) (x3:Opd):Zea (.app x0 x1 x2 x3)=false:=id rfl
theorem Zze (fr:List V) (x0:Nat) (x1:Nat) (x2:List V) (x3:Opd) (x4:Opd):rfp fr (.appz x0 x1 x2 x3 x4)=[]:=id rfl
theorem ZAl (fr:List V) (x0:Nat) (x1:Nat) (x2:List V) (x3:Opd) (x4:Opd):wfp fr (.appz x0 x1 x2 x3 x4)=wfs (ev fr x3):=id rfl
theorem ZyC (x0:Nat) (x1:Nat) (x2:List V) (x3:Opd) (x4:Opd):eff (.appz x0 x1 x2 x3 x4)=true:=id rfl
theorem Zzy (x0:Nat) (x1:Nat) (x2:List V) (x3:Opd) (x4:Opd):mem (.appz x0 x1 x2 x3 x4)=false:=id rfl
theorem Zv6 (x0:Nat) (x1:Nat) (x2:List V) (x3:Opd) (x4:Opd):Zea (.appz x0 x1 x2 x3 x4)=false:=id rfl
theorem ZzV (fr:List V) (x0:Opd) (x1:Opd):rfp fr (.apps x0 x1)=[]:=id rfl
theorem Zy6 (fr:List V) (x0:Opd) (x1:Opd):wfp fr (.apps x0 x1)=wfs (ev fr x0):=id rfl
theorem ZAC (x0:Opd) (x1:Opd):eff (.apps x0 x1)=true:=id rfl
theorem ZAj (x0:Opd) (x1:Opd):mem (.apps x0 x1)=false:=id rfl
theorem ZwR (x0:Opd) (x1:Opd):Zea (.apps x0 x1)=false:=id rfl
theorem ZzW (fr:List V) (x0:Nat) (x1:Opd) (x2:Opd):rfp fr (.copy x0 x1 x2)=[]:=id rfl
theorem Zzv (fr:List V) (x0:Nat) (x1:Opd) (x2:Opd):wfp fr (.copy x0 x1 x2)=wfs (ev fr x1):=id rfl
theorem ZzK (x0:Nat) (x1:Opd) (x2:Opd):eff (.copy x0 x1 x2)=true:=id rfl
theorem ZAR (x0:Nat) (x1:Opd) (x2:Opd):mem (.copy x0 x1 x2)=false:=id rfl
theorem ZwH (x0:Nat) (x1:Opd) (x2:Opd):Zea (.copy x0 x1 x2)=true:=id rfl
theorem ZwO (fr:List V) (x0:Opd) (x1:Opd):rfp fr (.copys x0 x1)=[]:=id rfl
theorem ZxB (fr:List V) (x0:Opd) (x1:Opd):wfp fr (.copys x0 x1)=wfs (ev fr x0):=id rfl
theorem Zw7 (x0:Opd) (x1:Opd):eff (.copys x0 x1)=true:=id rfl
theorem ZvT (x0:Opd) (x1:Opd):mem (.copys x0 x1)=false:=id rfl
theorem Zu8 (x0:Opd) (x1:Opd):Zea (.copys x0 x1)=false:=id rfl
theorem ZDj (fr:List V) (x0:Nat) (x1:List V) (x2:Opd):rfp fr (.clr x0 x1 x2)=[]:=id rfl
theorem ZCB (fr:List V) (x0:Nat) (x1:List V) (x2:Opd):wfp fr (.clr x0 x1 x2)=wfs (ev fr x2):=id rfl
theorem ZC0 (x0:Nat) (x1:List V) (x2:Opd):eff (.clr x0 x1 x2)=true:=id rfl
theorem ZDH (x0:Nat) (x1:List V) (x2:Opd):mem (.clr x0 x1 x2)=false:=id rfl
theorem Zzu (x0:Nat) (x1:List V) (x2:Opd):Zea (.clr x0 x1 x2)=false:=id rfl
theorem ZBQ (fr:List V) (k j d e n:Nat) (z:List V) (ps:List (Nat × Nat × Opd)) (y:Opd):rfp fr (.sel k j d e n z ps y)=[]:=id rfl
theorem ZC1 (fr:List V) (k j d e n:Nat) (z:List V) (ps:List (Nat × Nat × Opd)) (y:Opd):wfp fr (.sel k j d e n z ps y)=[]:=id rfl
theorem ZCO (k j d e n:Nat) (z:List V) (ps:List (Nat × Nat × Opd)) (y:Opd):eff (.sel k j d e n z ps y)=false:=id rfl
theorem ZDV (k j d e n:Nat) (z:List V) (ps:List (Nat × Nat × Opd)) (y:Opd):mem (.sel k j d e n z ps y)=false:=id rfl
theorem ZyP (k j d e n:Nat) (z:List V) (ps:List (Nat × Nat × Opd)) (y:Opd):Zea (.sel k j d e n z ps y)=false:=id rfl
theorem ZAJ (fr:List V) (x0:Opd) (x1:List Opd):rfp fr (.mins x0 x1)=[]:=id rfl
theorem ZyZ (fr:List V) (x0:Opd) (x1:List Opd):wfp fr (.mins x0 x1)=[]:=id rfl
theorem ZA4 (x0:Opd) (x1:List Opd):eff (.mins x0 x1)=false:=id rfl
theorem ZAI (x0:Opd) (x1:List Opd):mem (.mins x0 x1)=false:=id rfl
theorem ZxI (x0:Opd) (x1:List Opd):Zea (.mins x0 x1)=false:=id rfl
theorem ZDX (fr:List V):rfp fr .bad=[]:=id rfl
theorem ZDv (fr:List V):wfp fr .bad=[]:=id rfl
theorem ZCX:eff .bad=false:=id rfl
theorem ZDt:mem .bad=false:=id rfl
theorem ZzJ:Zea .bad=false:=id rfl
theorem Zzf (fr:List V) (x0:Opd) (x1:List Opd):rfp fr (.maxs x0 x1)=[]:=id rfl
theorem ZyI (fr:List V) (x0:Opd) (x1:List Opd):wfp fr (.maxs x0 x1)=[]:=id rfl
theorem ZzC (x0:Opd) (x1:List Opd):eff (.maxs x0 x1)=false:=id rfl
theorem Zyz (x0:Opd) (x1:List Opd):mem (.maxs x0 x1)=false:=id rfl
theorem ZwN (x0:Opd) (x1:List Opd):Zea (.maxs x0 x1)=false:=id rfl
theorem ZCw (fr:List V) (x0:Opd):rfp fr (.chk x0)=[]:=id rfl
theorem ZDZ (fr:List V) (x0:Opd):wfp fr (.chk x0)=[]:=id rfl
theorem ZCe (x0:Opd):eff (.chk x0)=false:=id rfl
theorem ZB0 (x0:Opd):mem (.chk x0)=false:=id rfl
theorem ZAi (x0:Opd):Zea (.chk x0)=false:=id rfl
theorem Zz1 (fr:List V) (x0:FuncId) (x1:List Opd):rfp fr (.call x0 x1)=[]:=id rfl
theorem ZAc (fr:List V) (x0:FuncId) (x1:List Opd):wfp fr (.call x0 x1)=[]:=id rfl
theorem ZAA (x0:FuncId) (x1:List Opd):eff (.call x0 x1)=true:=id rfl
theorem ZAu (x0:FuncId) (x1:List Opd):mem (.call x0 x1)=false:=id rfl
theorem ZwL (x0:FuncId) (x1:List Opd):Zea (.call x0 x1)=false:=id rfl
theorem ZwV (fr:List V) (x0:Opd) (x1:List Opd):rfp fr (.callv x0 x1)=[]:=id rfl
theorem Zxr (fr:List V) (x0:Opd) (x1:List Opd):wfp fr (.callv x0 x1)=[]:=id rfl
theorem ZwM (x0:Opd) (x1:List Opd):eff (.callv x0 x1)=true:=id rfl
theorem Zyg (x0:Opd) (x1:List Opd):mem (.callv x0 x1)=false:=id rfl
theorem Zuz (x0:Opd) (x1:List Opd):Zea (.callv x0 x1)=false:=id rfl
def rfs:V→List Nat
  | .pointer (some a)=>[a.block]
  | _=>[]
theorem ZCH (a:Addr):rfs (.pointer (some a))=[a.block]:=id rfl
theorem Zwa (fr:List V) (x:Opd):rfp fr (.load1 x)=rfs (ev fr x):=id rfl
theorem Zwt (fr:List V) (n:Nat) (x:Opd):rfp fr (.loadn n x)=rfs (ev fr x):=id rfl
theorem ZDs (a:Addr):wfs (.pointer (some a))=[a.block]:=id rfl
theorem ZES (a:Addr) (n c:Nat):wfs (.slice (some a) n c)=[a.block]:=id rfl
theorem ZBJ (n c:Nat):wfs (.slice none n c)=[]:=id rfl
theorem ZwC:Zp6 []=true:=id rfl
theorem Zvw (d:Option Nat) (op:AOp) (g:Option (Nat × Bool)) (os:List AOper):Zp6 (⟨d,op,g⟩ :: os)=((!eff op || Zea op) && !mem op && Zp6 os):=id rfl
theorem Zv0 (call:Yd) (R W:List Nat) (fr:List V) (M:Mem):JP call R W [] fr M=some (fr,M):=rfl
theorem ZuU (call:Yd) (R W:List Nat) (d:Option Nat) (op:AOp) (g:Option (Nat × Bool)) (os:List AOper) (fr:List V) (M:Mem):JP call R W (⟨d,op,g⟩ :: os) fr M=ZBg R W (Zbh fr g) call d op os fr M:=by
  rw [JP]
  unfold ZBg
  split <;> (rename_i h; rw [h]; try rfl)
def ZzA (x:Option (List V × Mem)):R:=match x with
  | some (fr,M)=>some (.norm,fr,M)
  | none=>none
theorem Zvh (fr:List V) (M:Mem):ZzA (some (fr,M))=some (.norm,fr,M):=rfl
noncomputable def Zjx (x:R) (call:Yd) (b:ACode):R:=match x with
  | some (.norm,fr,M)=>Zu call b fr M
  | r=>r
theorem Zvi (fr:List V) (M:Mem) (call:Yd) (b:ACode):Zjx (some (.norm,fr,M)) call b=Zu call b fr M:=rfl
theorem ZuB (i:Nat) (fr:List V) (M:Mem) (call:Yd) (b:ACode):Zjx (some (.exit i,fr,M)) call b=some (.exit i,fr,M):=rfl
theorem Zxg (fr:List V) (M:Mem) (call:Yd) (b:ACode):Zjx (some (.ret,fr,M)) call b=some (.ret,fr,M):=rfl
noncomputable def Zvf (v:V) (call:Yd) (a b:ACode) (fr:List V) (M:Mem):R:=match v with
  | .bool p=>if p=true then Zu call a fr M else Zu call b fr M
  | _=>none
theorem Zvx (call:Yd) (a b:ACode) (fr:List V) (M:Mem):Zvf (.bool true) call a b fr M=Zu call a fr M:=rfl
theorem Zr1 (call:Yd) (a b:ACode) (fr:List V) (M:Mem):Zvf (.bool false) call a b fr M=Zu call b fr M:=rfl
theorem Zl6 (p:Bool) (call:Yd) (a b:ACode) (fr:List V) (M:Mem):Zvf (.bool p) call a b fr M=if p=true then Zvf (.bool true) call a b fr M else Zvf (.bool false) call a b fr M:=by cases p <;> rfl
def Ze1 (i:Nat) (x:R):R:=match x with
  | some (.exit j,fr,M)=>if j=i then some (.norm,fr,M) else some (.exit j,fr,M)
  | r=>r
theorem ZsM (i:Nat) (fr:List V) (M:Mem):Ze1 i (some (.norm,fr,M))=some (.norm,fr,M):=rfl
theorem Zuv (i:Nat) (fr:List V) (M:Mem):Ze1 i (some (.ret,fr,M))=some (.ret,fr,M):=rfl
theorem Zsi (i j:Nat) (fr:List V) (M:Mem):Ze1 i (some (.exit j,fr,M))=if j=i then some (.norm,fr,M) else some (.exit j,fr,M):=rfl
theorem Zwb (call:Yd) (os:List AOper) (fr:List V) (M:Mem):Zu call (.reg false os) fr M=ZzA (Zhn call os fr M):=by rw [Zu]; rfl
theorem ZuJ (call:Yd) (pi:List Nat) (os:List AOper) (fr:List V) (M:Mem):Zu call (.perm pi os) fr M=ZzA (JP call [] [] os fr M):=by rw [Zu]; rfl
theorem Zva (call:Yd) (os:List AOper) (fr:List V) (M:Mem):Zu call (.reg true os) fr M=ZzA (JP call [] [] os fr M):=by rw [Zu]; rfl
theorem ZvS (call:Yd) (a b:ACode) (fr:List V) (M:Mem):Zu call (.seq a b) fr M=Zjx (Zu call a fr M) call b:=by rw [Zu]; rfl
theorem Zub (call:Yd) (c:Opd) (a b:ACode) (fr:List V) (M:Mem):Zu call (.cond c a b) fr M=Zvf (ev fr c) call a b fr M:=by rw [Zu]; rfl
theorem Zr2 (call:Yd) (i:Nat) (b:ACode) (fr:List V) (M:Mem):Zu call (.block i b) fr M=Ze1 i (Zu call b fr M):=by rw [Zu]; rfl
noncomputable def lp (call:Yd) (m:List Bool) (b:ACode) (fr:List V) (M:Mem):R:=ZqJ (fun fr M=>Zu call b (Zs m fr) M) fr M
noncomputable def Yv (x:R) (call:Yd) (m:List Bool) (b:ACode):R:=match x with
  | some (.norm,fr,M)=>lp call m b fr M
  | r=>r
theorem ZlR:∀ (m:List Bool) (fr:List V),Zs m (Zs m fr)=Zs m fr
  | [],fr=>rfl
  | b :: _,[]=>by cases b <;> rfl
  | true :: m,v :: fr=>by simp only [Zs,ZlR m fr]
  | false :: m,v :: fr=>by simp only [Zs,ZlR m fr]
theorem YA (call:Yd) (m:List Bool) (b:ACode) (fr:List V) (M:Mem):lp call m b fr M=Yv (Zu call b (Zs m fr) M) call m b:=by
  unfold Yv
  unfold lp
  rw [ZAb]
  cases Zu call b (Zs m fr) M with
  | none=>rfl
  | some q=>obtain ⟨ex,fr',M'⟩:=q; cases ex <;> rfl
theorem Zxm (call:Yd) (m:List Bool) (b:ACode) (fr:List V) (M:Mem):lp call m b fr M=lp call m b (Zs m fr) M:=by
  rw [YA,YA call m b (Zs m fr),ZlR]
theorem ZuR (fr:List V) (M:Mem) (call:Yd) (m:List Bool) (b:ACode):Yv (some (.norm,fr,M)) call m b=lp call m b (Zs m fr) M:=Zxm call m b fr M
theorem ZuV (i:Nat) (fr:List V) (M:Mem) (call:Yd) (m:List Bool) (b:ACode):Yv (some (.exit i,fr,M)) call m b=some (.exit i,fr,M):=rfl
theorem Zxs (fr:List V) (M:Mem) (call:Yd) (m:List Bool) (b:ACode):Yv (some (.ret,fr,M)) call m b=some (.ret,fr,M):=rfl
theorem Zux (m:List Bool) (v:V) (fr:List V):Zs (true :: m) (v :: fr)=v :: Zs m fr:=rfl
theorem Zr6 (m:List Bool) (v:V) (fr:List V):Zs (false :: m) (v :: fr)=O :: Zs m fr:=rfl
theorem Zw8 (fr:List V):Zs [] fr=fr:=by cases fr <;> rfl
theorem Zuj (call:Yd) (m:List Bool) (b:ACode) (fr:List V) (M:Mem):Zu call (.loop m b) fr M=lp call m b (Zs m fr) M:=by rw [Zu,← Zxm]; rfl
theorem Zvg (call:Yd) (i:Nat) (fr:List V) (M:Mem):Zu call (.exit i) fr M=some (.exit i,fr,M):=by rw [Zu]
theorem Zyj (call:Yd) (fr:List V) (M:Mem):Zu call .ret fr M=some (.ret,fr,M):=by rw [Zu]
theorem Zvp (call:Yd) (fr:List V) (M:Mem):Zu call .skip fr M=some (.norm,fr,M):=by rw [Zu]
noncomputable def ZEn (x:Option (V × Mem)):R:=match x with
  | some (v,M')=>some (.ret,(List.replicate 95 O).set 6 v,M')
  | none=>none
theorem ZuX (v:V) (M':Mem):ZEn (some (v,M'))=some (.ret,(List.replicate 95 O).set 6 v,M'):=rfl
theorem ZxX (call:Yd) (w b:Nat) (z:List V) (fr:List V) (M:Mem):Zu call (.ins w b z) fr M=ZEn (ZEg w b (ev fr (.t 0)) (ev fr (.t 1)) (ev fr (.t 2)) (ev fr (.t 7)) (ev fr (.t 8)) fr.length M):=by rw [Zu]; rfl
theorem ZAE (v:V):((List.replicate 95 O).set 6 v).getD 6 O=v:=rfl
noncomputable def ZjG (M:Mem) (rs:List ARes) (x:R):Option (V × Mem):=match x with
  | some (.exit _,_,_)=>none
  | some (_,fr,M')=>gc M ((Zmd fr M' rs).map fun v=>(v,M'))
  | none=>none
theorem ZDL (call:Yd) (c:ACode) (n:Nat) (rs:List ARes) (args:List V) (M:Mem):Zyw call ⟨c,n,rs⟩ args M=ZjG M rs (Zu call c (args++List.replicate (n - args.length) O) M):=by
  unfold Zyw ZjG
  cases h:Zu call c (args++List.replicate (n - args.length) O) M with
  | none=>simp only [h]; rfl
  | some q =>
    obtain ⟨ex,fr',M'⟩:=q
    cases ex <;> (simp only [h]; try rfl)
theorem Zwy (M N:Mem) (k o:Nat):rd1 (M++N) (M.length+k) o=rd1 N k o:=by
  unfold rd1
  rw [List.getElem?_append_right (by omega),Nat.add_sub_cancel_left]
theorem ZAq (M N:Mem) (o:Nat):rd1 (M++N) M.length o=rd1 N 0 o:=Zwy M N 0 o
theorem Zxw (M N:Mem) (k o n:Nat):rdn (M++N) (M.length+k) o n=rdn N k o n:=by
  unfold rdn
  rw [List.getElem?_append_right (by omega),Nat.add_sub_cancel_left]
theorem Zz5 (M N:Mem) (o n:Nat):rdn (M++N) M.length o n=rdn N 0 o n:=Zxw M N 0 o n
theorem ZxZ (M N:Mem) (k o:Nat) (vs:List V):wrn (M++N) (M.length+k) o vs=(wrn N k o vs).map (M++·):=by
  unfold wrn
  rw [List.getElem?_append_right (by omega),Nat.add_sub_cancel_left]
  cases N[k]? with
  | none=>rfl
  | some b =>
    simp only
    split
    · simp [List.set_append]
    · rfl
theorem Zy4 (M N:Mem) (o:Nat) (vs:List V):wrn (M++N) M.length o vs=(wrn N 0 o vs).map (M++·):=ZxZ M N 0 o vs
theorem Zhe {M N:Mem} {l o:Nat} {v:V} (h:rd1 M l o=some v):rd1 (M++N) l o=some v:=by
  unfold rd1 at h ⊢
  split at h
  · rename_i b hb
    rw [List.getElem?_append_left (List.getElem?_eq_some_iff.1 hb).1,hb]
    exact h
  · cases h
theorem ZkH {M N:Mem} {l o n:Nat} {v:List V} (h:rdn M l o n=some v):rdn (M++N) l o n=some v:=by
  unfold rdn at h ⊢
  split at h
  · rename_i b hb
    rw [List.getElem?_append_left (List.getElem?_eq_some_iff.1 hb).1,hb]
    exact h
  · cases h
theorem Zn2 {M N:Mem} {v:V} (hs:ZqG v=true):gc M (some (v,M++N))=some (v,M):=by
  simp only [gc]
  exact if_pos ⟨hs,List.prefix_append _ _⟩
theorem Zwi (M N:Mem) (b:Bool):gc M (some (.bool b,M++N))=some (.bool b,M):=Zn2 rfl
theorem ZBe (M N:Mem) (k:IntKind) (n:Int):gc M (some (.int k n,M++N))=some (.int k n,M):=Zn2 rfl
theorem ZFi (M N:Mem) (x:ByteArray):gc M (some (.string x,M++N))=some (.string x,M):=Zn2 rfl
theorem ZFs (M N:Mem) (vs:List V) (h:vs.all Zu3=true):gc M (some (.agg vs.toArray,M++N))=some (.agg vs.toArray,M):=Zn2 h
theorem ZEw (M N:Mem) (vs:List V) (h:vs.all Zu3=true):gc M (some (.tuple vs.toArray,M++N))=some (.tuple vs.toArray,M):=Zn2 h
theorem ZAN (M M':Mem) (a:Option Addr) (n c:Nat):gc M (some (.slice a n c,M'))=some (.slice a n c,M'):=by
  simp only [gc]
  exact if_neg (by simp [ZqG])
theorem Zvd (a:Option Addr) (n c:Nat):Zu3 (.slice a n c)=false:=rfl
theorem Zy7 (a:Option Addr):Zu3 (.pointer a)=false:=rfl
theorem Zzg (k:IntKind) (n:Int):Zu3 (.int k n)=true:=rfl
theorem Zw4 (b:Bool):Zu3 (.bool b)=true:=rfl
theorem Zz0 (s:ByteArray):Zu3 (.string s)=true:=rfl
theorem ZCM (M M':Mem) (vs:List V) (h:vs.all Zu3=false):gc M (some (.agg vs.toArray,M'))=some (.agg vs.toArray,M'):=by
  simp only [gc]
  exact if_neg (by simp only [ZqG]; simp at h ⊢; intro h2; obtain ⟨x,hx,hp⟩:=h; rw [h2 x hx] at hp; cases hp)
theorem ZBR (M M':Mem) (vs:List V) (h:vs.all Zu3=false):gc M (some (.tuple vs.toArray,M'))=some (.tuple vs.toArray,M'):=by
  simp only [gc]
  exact if_neg (by simp only [ZqG]; simp at h ⊢; intro h2; obtain ⟨x,hx,hp⟩:=h; rw [h2 x hx] at hp; cases hp)
theorem ZDx (M:Mem) (v:V):gc M (some (v,M))=some (v,M):=by
  simp only [gc]
  split <;> rfl
theorem ZBA {M M':Mem} {v:V} (hs:ZqG v=false):gc M (some (v,M'))=some (v,M'):=by
  simp only [gc]
  exact if_neg (by simp [hs])
theorem ZuW (M:Mem) (rs:List ARes) (fr:List V) (M':Mem):ZjG M rs (some (.norm,fr,M'))=gc M ((Zmd fr M' rs).map fun v=>(v,M')):=rfl
theorem Zyl (M:Mem) (rs:List ARes) (fr:List V) (M':Mem):ZjG M rs (some (.ret,fr,M'))=gc M ((Zmd fr M' rs).map fun v=>(v,M')):=rfl
theorem ZzH (b:Blk) (N:Mem) (o:Nat):rd1 (b :: N) 0 o=if b.st=1∨b.st=2 then b.cells[o]? else none:=rfl
theorem Zx4 (b:Blk) (N:Mem) (k o:Nat):rd1 (b :: N) (k+1) o=rd1 N k o:=rfl
theorem Zz2 (b:Blk) (N:Mem) (o n:Nat):rdn (b :: N) 0 o n=if (b.st=1∨b.st=2)∧o+n≤b.cells.length then some ((b.cells.drop o).take n) else none:=rfl
theorem Zxc (b:Blk) (N:Mem) (k o n:Nat):rdn (b :: N) (k+1) o n=rdn N k o n:=rfl
theorem ZzM (b:Blk) (N:Mem) (o:Nat) (vs:List V):wrn (b :: N) 0 o vs=if b.st=2∧o+vs.length≤b.cells.length∧vs.all one=true then some ({ b with cells:=splice b.cells o vs } :: N) else none:=by
  unfold wrn
  simp only [List.getElem?_cons_zero,List.set_cons_zero]
theorem ZwA (b:Blk) (N:Mem) (k o:Nat) (vs:List V):wrn (b :: N) (k+1) o vs=(wrn N k o vs).map (b :: ·):=by
  unfold wrn
  simp only [List.getElem?_cons_succ,List.set_cons_succ]
  cases N[k]? with
  | none=>rfl
  | some c=>simp only; split <;> rfl
theorem ZCP (k:IntKind) (n:Int):one (.int k n)=true:=rfl
theorem ZzR (b:Bool):one (.bool b)=true:=rfl
theorem ZD5 (s:ByteArray):one (.string s)=true:=rfl
theorem Zxy (a:Option Addr) (n c:Nat):one (.slice a n c)=true:=rfl
theorem ZB8 (a:Option Addr):one (.pointer a)=true:=rfl
theorem ZAX (f:FuncId) (a b:Array V):one (.func (.func f) a b)=true:=rfl
theorem Zss:one .nilFunc=true:=rfl
theorem Zd {z:Int} (h1:-9223372036854775808≤z) (h2:z≤9223372036854775807):IntKind.i64.wrap z=z:=by
  simp [IntKind.wrap,IntKind.min,IntKind.max,IntKind.signed,IntKind.bits]
  omega
theorem Zp9 {z:Int} (h1:0≤z) (h2:z≤18446744073709551615):IntKind.u64.wrap z=z:=by
  simp [IntKind.wrap,IntKind.min,IntKind.max,IntKind.signed,IntKind.bits]
  omega
theorem ZvW {z:Int} (h1:0≤z) (h2:z≤255):IntKind.u8.wrap z=z:=by
  simp [IntKind.wrap,IntKind.min,IntKind.max,IntKind.signed,IntKind.bits]
  omega
theorem ZqC (a b:Int):(a == b)=decide (a=b):=by
  by_cases h:a=b
  · subst h; simp
  · simp [h]
theorem Zyo (a b:Int):(a != b)=!decide (a=b):=by rw [bne,ZqC]
theorem ZGx (s:List UInt8):ByteArray.size ⟨s.toArray⟩=s.length:=by simp [ByteArray.size]
def ZGS (k:IntKind) (a b:Int):Int:=k.wrap (BitVec.ofInt k.bits a ^^^ BitVec.ofInt k.bits b).toNat
def ZG7 (k:IntKind) (a b:Int):Int:=k.wrap (BitVec.ofInt k.bits a &&& BitVec.ofInt k.bits b).toNat
def bor (k:IntKind) (a b:Int):Int:=k.wrap (BitVec.ofInt k.bits a ||| BitVec.ofInt k.bits b).toNat
def ZGL (k:IntKind) (a b:Int):Int:=k.wrap (BitVec.ofInt k.bits a &&& ~~~ BitVec.ofInt k.bits b).toNat
def ZFl (k:IntKind) (a b:Int):Int:=k.wrap (a * 2 ^ (min b.toNat k.bits))
def ZFc (k:IntKind) (a b:Int):Int:=a.fdiv (2 ^ (min b.toNat k.bits))
theorem ZyB (k:IntKind) (a b:Int):ZgQ .add (.int k a) (.int k b)=some (.int k (k.wrap (a+b))):=by simp [ZgQ]
theorem ZAd (k:IntKind) (a b:Int):ZgQ .sub (.int k a) (.int k b)=some (.int k (k.wrap (a - b))):=by simp [ZgQ]
theorem Zz4 (k:IntKind) (a b:Int):ZgQ .mul (.int k a) (.int k b)=some (.int k (k.wrap (a * b))):=by simp [ZgQ]
theorem Zz3 (k:IntKind) (a b:Int):ZgQ .and (.int k a) (.int k b)=some (.int k (ZG7 k a b)):=by unfold ZgQ; simp only [if_true]; rfl
theorem ZB1 (k:IntKind) (a b:Int):ZgQ .or (.int k a) (.int k b)=some (.int k (bor k a b)):=by unfold ZgQ; simp only [if_true]; rfl
theorem ZAL (k:IntKind) (a b:Int):ZgQ .xor (.int k a) (.int k b)=some (.int k (ZGS k a b)):=by unfold ZgQ; simp only [if_true]; rfl
theorem ZsK (k:IntKind) (a b:Int):ZgQ .andNot (.int k a) (.int k b)=some (.int k (ZGL k a b)):=by unfold ZgQ; simp only [if_true]; rfl
theorem Zzj (k:IntKind) (a b:Int):ZgQ .eql (.int k a) (.int k b)=some (.bool (decide (a=b))):=by simp [ZgQ,ZqC]
theorem ZAY (k:IntKind) (a b:Int):ZgQ .neq (.int k a) (.int k b)=some (.bool (!decide (a=b))):=by simp [ZgQ,Zyo]
theorem ZBb (k:IntKind) (a b:Int):ZgQ .lss (.int k a) (.int k b)=some (.bool (decide (a < b))):=by simp [ZgQ]
theorem ZyK (k:IntKind) (a b:Int):ZgQ .leq (.int k a) (.int k b)=some (.bool (decide (a≤b))):=by simp [ZgQ]
theorem ZzU (k:IntKind) (a b:Int):ZgQ .gtr (.int k a) (.int k b)=some (.bool (decide (b < a))):=by simp [ZgQ]
theorem Zz7 (k:IntKind) (a b:Int):ZgQ .geq (.int k a) (.int k b)=some (.bool (decide (b≤a))):=by simp [ZgQ]
theorem ZA5 (k:IntKind) (a b:Int) (h:b ≠ 0):ZgQ .quo (.int k a) (.int k b)=some (.int k (k.wrap (a.tdiv b))):=by simp [ZgQ,h]
theorem ZyA (k:IntKind) (a b:Int) (h:b ≠ 0):ZgQ .rem (.int k a) (.int k b)=some (.int k (a.tmod b)):=by simp [ZgQ,h]
theorem Zzd (k k':IntKind) (a b:Int) (h:0≤b):ZgQ .shl (.int k a) (.int k' b)=some (.int k (ZFl k a b)):=by
  unfold ZgQ; simp only; rw [if_neg (by omega)]; rfl
theorem ZAV (k k':IntKind) (a b:Int) (h:0≤b):ZgQ .shr (.int k a) (.int k' b)=some (.int k (ZFc k a b)):=by
  unfold ZgQ; simp only; rw [if_neg (by omega)]; rfl
theorem Zw0 (x y:ByteArray):ZgQ .add (.string x) (.string y)=if x.size+y.size≤9223372036854775807 then some (.string ⟨(x.data.toList++y.data.toList).toArray⟩) else none:=rfl
theorem ZxR (x y:ByteArray):ZgQ .eql (.string x) (.string y)=some (.bool (x.data.toList == y.data.toList)):=rfl
theorem Zwe (x y:ByteArray):ZgQ .neq (.string x) (.string y)=some (.bool (!(x.data.toList == y.data.toList))):=rfl
theorem ZwD (x y:ByteArray):ZgQ .lss (.string x) (.string y)=some (.bool (Op.bytesLess x.data.toList y.data.toList)):=rfl
theorem Zv3 (x y:ByteArray):ZgQ .gtr (.string x) (.string y)=some (.bool (!(Op.bytesLess x.data.toList y.data.toList || x.data.toList == y.data.toList))):=rfl
theorem Zsc (k:IntKind) (n:Int):cellsOf (.int k n)=[.int k n]:=rfl
theorem Zrm (b:Bool):cellsOf (.bool b)=[.bool b]:=rfl
theorem Ztc (s:ByteArray):cellsOf (.string s)=[.string s]:=rfl
theorem ZpK (a:Option Addr) (n c:Nat):cellsOf (.slice a n c)=[.slice a n c]:=rfl
theorem Zsx (a:Option Addr):cellsOf (.pointer a)=[.pointer a]:=rfl
theorem Zs2 (cs:Array V):cellsOf (.agg cs)=cs.toList:=rfl
theorem ZrC (f:FuncId) (a b:Array V):cellsOf (.func (.func f) a b)=[.func (.func f) a b]:=rfl
theorem ZnT:cellsOf .nilFunc=[.nilFunc]:=rfl
theorem Zqv (b:UInt8):cellsOf (Y0 b)=[Y0 b]:=rfl
attribute [simp] Zxk Zvo ZuO Zwk Zuq Zpw Zup ZBa ZwC Zvw Zzp Zws ZwI ZEN ZFx ZEM ZFq ZDF ZyU ZyW Zzb Zzs Zv5 ZCV ZDd ZCf ZCW Zy5 ZDC ZCK ZCg ZBE ZzB Zyf Zv8 Zwn ZwJ Zuf ZDT ZDa ZDz ZD4 ZyE Zv4 Zwf Zw3 ZuG Zwq ZvP ZxS ZuY ZwS Zww Zv1 Zwr ZuN ZCv ZBF ZBY ZBH ZyR ZBW ZB5 ZDh ZC3 ZyN ZCE ZDP ZCR ZDJ Zz8 Zxn Zym Zwu ZwY Zvc ZDQ ZD7 ZBZ ZCF ZAt ZD6 ZDb ZDN ZDU ZAG ZA0 ZyM ZzY ZzI ZwK ZA2 Zzc ZAM ZAh ZxL ZDS ZCs ZDn ZyH ZBM ZCL ZDo ZDe ZA6 ZEB ZFm ZEu ZFw ZCS Zza ZyS Zzw Zzz Zyc ZDc ZCY ZDr ZBc Zzl ZyQ ZAZ ZzF Zyb ZCu ZDm ZDD ZC2 ZA9 ZEE ZFd ZFB ZFR ZDG ZA8 Zzx ZAS Zy8 Zxh ZAw ZAe ZzS ZzQ Zyk ZEt ZEq ZFn ZFk ZDk ZEx ZE1 ZET ZEJ ZCt ZCy ZDy ZCr ZBN ZAv ZBO ZDR ZCk ZCT ZyD ZAp Zzn Zzh ZzG Zv9 ZC7 ZD2 ZC8 ZC9 ZAs ZzV Zy6 ZAC ZAj ZwR Zze ZAl ZyC Zzy Zv6 ZzW Zzv ZzK ZAR ZwH ZwO ZxB Zw7 ZvT Zu8 ZDj ZCB ZC0 ZDH Zzu ZBQ ZC1 ZCO ZDV ZyP ZAJ ZyZ ZA4 ZAI ZxI ZDX ZDv ZCX ZDt ZzJ Zzf ZyI ZzC Zyz ZwN ZCw ZDZ ZCe ZB0 ZAi Zz1 ZAc ZAA ZAu ZwL ZwV Zxr ZwM Zyg Zuz ZCH Zwa Zwt ZDs ZES ZBJ Zy3 ZvQ Zv0 ZuU Zvh Zvi ZuB Zxg Zvx Zr1 ZsM Zuv Zsi
  Zwb Zva ZuJ ZvS Zub Zr2 Zuj ZuR ZuV Zxs Zux Zr6 Zw8 Zvg Zyj Zvp ZxX ZuX ZAE ZDL ev JC Zbh Ze Zwy ZAq Zxw Zz5 ZxZ Zy4 Zwi ZBe ZFi ZFs ZEw ZDx ZAN ZCM ZBR Zvd Zy7 Zzg Zw4 Zz0 ZuW Zyl ZyB ZAd Zz4 Zz3 ZB1 ZAL ZsK Zzj ZAY ZBb ZyK ZzU Zz7 ZA5 ZyA Zzd ZAV Zw0 ZxR Zwe ZwD Zv3 Zmd Zr5 ZEd ZqG Zsc Zrm Ztc ZpK Zsx Zs2 ZrC ZnT Zqv splice ZGx ZqC Zyo ZhM Zdi Zi2 Zkw Zpa
  ZzH Zx4 Zz2 Zxc ZzM ZwA ZCP ZzR ZD5 Zxy ZB8 ZAX Zss
end GoAm
