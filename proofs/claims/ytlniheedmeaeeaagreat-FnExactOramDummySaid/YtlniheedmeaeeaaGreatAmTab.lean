/- A table of functions; what is told of the program, looked at function by function. -/
import Derived.Test.YtlniheedmeaeeaaGreatAmRow
set_option autoImplicit false
set_option linter.unusedVariables false
set_option linter.unusedSimpArgs false
namespace GoAm
open Go
def Zok:List (Nat × AFun)→Tab
  | [],_=>none
  | p :: ps,f=>if f=p.1 then some p.2 else Zok ps f
def ZzX (P:Program) (f:Nat) (af:AFun):Bool:=match P.funcs[f]? with
  | some fn=>match fn.body with
    | some c => Zdn P (drA P) c af.code && fn.ntmps == af.ntmps && Zj8 P fn.results.toList af.res && ((fn.name == "runtime.NumGoroutine") == false)
    | none=>false
  | none=>false
theorem ZsJ {P : Program} {f : Nat} {af : AFun} (h : ZzX P f af = true) : ∃ (fn : Func) (c : Code), P.funcs[f]? = some fn ∧ fn.body = some c ∧ Zdn P (drA P) c af.code = true ∧ fn.ntmps = af.ntmps ∧ Zj8 P fn.results.toList af.res = true ∧ (fn.name == "runtime.NumGoroutine") = false := by
  unfold ZzX at h
  split at h
  · rename_i fn hf
    split at h
    · rename_i c hc
      simp only [Bool.and_eq_true,beq_iff_eq] at h
      exact ⟨fn,c,hf,hc,h.1.1.1,h.1.1.2,h.1.2,h.2⟩
    · cases h
  · cases h
theorem ZBB {P:Program}:∀ {l:List (Nat × AFun)},(∀ p ∈ l,ZzX P p.1 p.2=true)→Zye P (drA P) (Zok l)
  | [],_,f,af,h=>by simp [Zok] at h
  | p :: ps,hl,f,af,h=>by
    unfold Zok at h
    split at h
    · rename_i e
      cases h
      subst e
      exact ZsJ (hl p (by simp))
    · exact ZBB (fun q hq=>hl q (by simp [hq])) f af h
end GoAm
