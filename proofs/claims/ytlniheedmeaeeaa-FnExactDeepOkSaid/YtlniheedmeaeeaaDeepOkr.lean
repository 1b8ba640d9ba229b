/- The law returns true, whatever it is handed: by the abstract machine. -/
import Derived.Test.YtlniheedmeaeeaaDeepOkl
import Derived.Test.YtlniheedmeaeeaaRows
import Derived.SizedLaws
import Derived.Handed
import Derived.KernelRfl
set_option autoImplicit false
set_option linter.unusedVariables false
set_option linter.unusedSimpArgs false
namespace Go.Proofs.Ytlniheedmeaeeaa.fnExactDeepOk
open GoAm Go.ChangeShapes Go.WideShapes Go.RowKit
theorem own : ownKnob Try.prog.godebug = none := by kernel_rfl
theorem tabAll : (TL.all fun p => okFun Try.prog p.1 p.2) = true := by kernel_rfl
theorem tab : TabOK Try.prog (drA Try.prog) T0 := tab_ok (fun p hp => List.all_eq_true.1 tabAll p hp)
def shape : List (Bool × Ty) := [(true, (.pr (.int .i64) (.pr (.sl (.int .i64)) (.pr (.pr (.int .i64) (.pr (.int .i64) (.pr (.int .i64) (.pr (.pr (.int .i64) (.pr (.sl (.sl .u8)) (.sl (.pr (.int .i64) (.pr (.int .i64) (.int .i64)))))) (.sl (.pr (.int .i64) (.pr (.int .i64) (.sl .u8)))))))) (.pr (.int .i64) (.pr (.int .i64) (.pr (.int .i64) (.pr (.pr (.int .i64) (.pr (.sl (.sl .u8)) (.sl (.pr (.int .i64) (.pr (.int .i64) (.int .i64)))))) (.sl (.pr (.int .i64) (.pr (.int .i64) (.sl .u8))))))))))))]
theorem shaped : parB Try.prog Try.f6.params.toList shape = true := by kernel_rfl
theorem readable : (Try.f6.params.toList.all fun t => Try.prog.readableRec t && decide (t < Try.prog.types.size)) = true := by kernel_rfl
theorem laid : laidOutB Try.prog = true := by kernel_rfl
theorem open_orders : Try.prog.follows .mixedOrders = true := by kernel_rfl
set_option maxRecDepth 100000 in
theorem lifted (os : Os) (started : os.Started) (H : Type) (enc : TypeId × Value → H) :
    ReturnsInHanded {} Try.checked os 6 .any (Rows.fnExactDeepOkSpec.pre6 enc Try.prog Try.f6 Rows.fnExactDeepOkRow.domain false) (Rows.fnExactDeepOkSpec.post enc Try.prog Try.f6 false true false false) := by
  refine returnsInHanded_of_change_sized (C := Try.checked) own started (by kernel_rfl) Try.func6
    (ChangeSpec.witness6 (enc := enc) (C := Try.checked) false ⟨#[], #[.agg #[(.int .i64 0), (.slice none 0 0), (.int .i64 0), (.int .i64 0), (.int .i64 0), (.int .i64 0), (.slice none 0 0), (.slice none 0 0), (.slice none 0 0), (.int .i64 0), (.int .i64 0), (.int .i64 0), (.int .i64 0), (.slice none 0 0), (.slice none 0 0), (.slice none 0 0)]], []⟩ 8 (by kernel_rfl) (by kernel_rfl) (by kernel_rfl) (by kernel_rfl)) ?_
  intro W base args ds gs before hval0 hW hcnd hsz0 _
  have hW' := hW
  obtain ⟨p, q, hA, hV, rfl, hfz, hnd⟩ := hW
  obtain ⟨rfl, rfl⟩ := trodVars_none hV
  refine (law_calls (enc := enc) open_orders tab shaped law_laws_FnExactDeepOk (ts := Try.f6.params.toList) (b0 := base) (fun j t v ht hv => hval0 j t v (by simpa using ht) hv) hA).mono fun e W' ⟨he, bel⟩ => ?_
  subst he
  have hA' := args_after laid bel readable hA
  rw [Try.params6] at hA
  obtain ⟨d0, rfl⟩ : ∃ (d0 : DataW H), ds = [d0] := by
    exact list_len1 (trod_len hA)
  exact ⟨_, rfl, _, _, _, [], _, [], hW', trodAll_mk1 (shut_bool Try.underlying4 _), hA', rfl, bel.frame _, fun h => by cases h⟩
-- the closed facts, one by one (all at once they need too much memory)
theorem cm1 : Try.prog.mayEnter = true := by kernel_rfl
theorem cm2 : (Rows.fnExactDeepOkRow.lifted == Try.prog.liftsFinal) = true := by kernel_rfl
theorem cm3 : (Rows.fnExactDeepOkRow.inPlace == Try.prog.inPlace 6) = true := by kernel_rfl
theorem cm4 : (Rows.fnExactDeepOkRow.unfollowed == Try.prog.unfollowed 6) = true := by kernel_rfl
theorem cm5 : (Rows.fnExactDeepOkRow.recurses == Try.prog.recurses 6) = true := by kernel_rfl
theorem cm6 : (Rows.fnExactDeepOkRow.named == Try.prog.varsNamed 6) = true := by kernel_rfl
theorem cm7 : Try.prog.stopsHeard = true := by kernel_rfl
theorem cm8 : (Rows.fnExactDeepOkRow.plainKeys == Try.prog.plainKeys) = true := by kernel_rfl
theorem cm9 : (Try.prog.make == some Rows.fnExactDeepOkRow.make) = true := by kernel_rfl
theorem cm10 : mapsRowed Try.prog = true := by kernel_rfl
theorem closed : joinedFacts Try.prog 6 Try.f6 Rows.fnExactDeepOkSpec Rows.fnExactDeepOkRow = true := by
  unfold joinedFacts
  rw [cm1, cm2, cm3, cm4, cm5, cm6, cm7, cm8, cm9, cm10, laid]
  kernel_rfl
theorem nmd : Try.pinned.checked.prog.funcNamed Rows.fnExactDeepOkRow.func = some 6 := by kernel_rfl
theorem over : Rows.fnExactDeepOkRow.holds Try.pinned (OpenSpec.ofChange Rows.fnExactDeepOkSpec) :=
  OpenClaim.holds_of_wide 6 Try.f6 rfl rfl rfl rfl rfl rfl rfl ⟨rfl, rfl, rfl, rfl, rfl⟩ rfl rfl rfl rfl rfl nmd Try.func6 closed
    (of_decide_eq_true (by kernel_rfl)) (by unfold Func.isWrapper; first | (rw [if_pos (by decide +kernel)]; kernel_rfl) | (rw [if_neg (by decide +kernel)]; exact ⟨rfl, rfl⟩))
    (fun os started H enc _ => lifted os started H enc)
end Go.Proofs.Ytlniheedmeaeeaa.fnExactDeepOk
namespace Go.Proofs.Ytlniheedmeaeeaa
/-- The row. -/
theorem fnExactDeepOk_holds : Rows.FnExactDeepOkSaid := fnExactDeepOk.over
#print axioms fnExactDeepOk_holds
end Go.Proofs.Ytlniheedmeaeeaa
