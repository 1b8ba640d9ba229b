/- The law returns true, whatever it is handed: by the abstract machine. -/
import Derived.Test.YtlniheedmeaeeaaGreatDeepLeavesl
import Derived.Test.YtlniheedmeaeeaaGreatRows
import Derived.SizedLaws
import Derived.Handed
import Derived.KernelRfl
set_option autoImplicit false
set_option linter.unusedVariables false
set_option linter.unusedSimpArgs false
namespace Go.Proofs.YtlniheedmeaeeaaGreat.fnExactDeepLeaves
open GoAm Go.ChangeShapes Go.WideShapes Go.RowKit
theorem own:ownKnob Tryz.prog.godebug=none:=by kernel_rfl
theorem tabAll:(TL.all fun p=>okFun Tryz.prog p.1 p.2)=true:=by kernel_rfl
theorem tab:TabOK Tryz.prog (drA Tryz.prog) T0:=tab_ok (fun p hp=>List.all_eq_true.1 tabAll p hp)
def shape:List (Bool × Ty):=[(true,(.pr (.int .i64) (.pr (.sl (.int .i64)) (.pr (.pr (.int .i64) (.pr (.int .i64) (.pr (.int .i64) (.pr (.pr (.int .i64) (.pr (.sl (.sl .u8)) (.sl (.pr (.int .i64) (.pr (.int .i64) (.int .i64)))))) (.sl (.pr (.int .i64) (.pr (.int .i64) (.sl .u8)))))))) (.pr (.int .i64) (.pr (.int .i64) (.pr (.int .i64) (.pr (.pr (.int .i64) (.pr (.sl (.sl .u8)) (.sl (.pr (.int .i64) (.pr (.int .i64) (.int .i64)))))) (.sl (.pr (.int .i64) (.pr (.int .i64) (.sl .u8)))))))))))),(false,(.sl (.int .i64))),(false,(.sl (.int .i64)))]
theorem shaped:parB Tryz.prog Tryz.f5.params.toList shape=true:=by kernel_rfl
theorem readable:(Tryz.f5.params.toList.all fun t=>Tryz.prog.readableRec t && decide (t < Tryz.prog.types.size))=true:=by kernel_rfl
theorem laid:laidOutB Tryz.prog=true:=by kernel_rfl
theorem open_orders:Tryz.prog.follows .mixedOrders=true:=by kernel_rfl
set_option maxRecDepth 100000 in
theorem lifted (os:Os) (started:os.Started) (H:Type) (enc:TypeId × Value→H) :
    ReturnsInHanded {} Tryz.checked os 5 .any (Rows.fnExactDeepLeavesSpec.pre6 enc Tryz.prog Tryz.f5 Rows.fnExactDeepLeavesRow.domain false) (Rows.fnExactDeepLeavesSpec.post enc Tryz.prog Tryz.f5 false true false false):=by
  refine returnsInHanded_of_change_sized (C:=Tryz.checked) own started (by kernel_rfl) Tryz.func5
    (ChangeSpec.witness6 (enc:=enc) (C:=Tryz.checked) false ⟨#[],#[.agg #[(.int .i64 0),(.slice none 0 0),(.int .i64 0),(.int .i64 0),(.int .i64 0),(.int .i64 0),(.slice none 0 0),(.slice none 0 0),(.slice none 0 0),(.int .i64 0),(.int .i64 0),(.int .i64 0),(.int .i64 0),(.slice none 0 0),(.slice none 0 0),(.slice none 0 0)],(.slice none 0 0),(.slice none 0 0)],[]⟩ 8 (by kernel_rfl) (by kernel_rfl) (by kernel_rfl) (by kernel_rfl)) ?_
  intro W base args ds gs before hval0 hW hcnd hsz0 _
  have hW':=hW
  obtain ⟨p,q,hA,hV,rfl,hfz,hnd⟩:=hW
  obtain ⟨rfl,rfl⟩:=trodVars_none hV
  refine (law_calls (enc:=enc) open_orders tab shaped law_laws_FnExactDeepLeaves (ts:=Tryz.f5.params.toList) (b0:=base) (fun j t v ht hv=>hval0 j t v (by simpa using ht) hv) hA).mono fun e W' ⟨he,bel⟩=>?_
  subst he
  have hA':=args_after laid bel readable hA
  rw [Tryz.params5] at hA
  obtain ⟨d0,d1,d2,rfl⟩:∃ (d0 d1 d2:DataW H),ds=[d0,d1,d2]:=by
    exact list_len3 (trod_len hA)
  exact ⟨_,rfl,_,_,_,[],_,[],hW',trodAll_mk1 (shut_bool Tryz.underlying4 _),hA',rfl,bel.frame _,fun h=>by cases h⟩
theorem cm1:Tryz.prog.mayEnter=true:=by kernel_rfl
theorem cm2:(Rows.fnExactDeepLeavesRow.lifted == Tryz.prog.liftsFinal)=true:=by kernel_rfl
theorem cm3:(Rows.fnExactDeepLeavesRow.inPlace == Tryz.prog.inPlace 5)=true:=by kernel_rfl
theorem cm4:(Rows.fnExactDeepLeavesRow.unfollowed == Tryz.prog.unfollowed 5)=true:=by kernel_rfl
theorem cm5:(Rows.fnExactDeepLeavesRow.recurses == Tryz.prog.recurses 5)=true:=by kernel_rfl
theorem cm6:(Rows.fnExactDeepLeavesRow.named == Tryz.prog.varsNamed 5)=true:=by kernel_rfl
theorem cm7:Tryz.prog.stopsHeard=true:=by kernel_rfl
theorem cm8:(Rows.fnExactDeepLeavesRow.plainKeys == Tryz.prog.plainKeys)=true:=by kernel_rfl
theorem cm9:(Tryz.prog.make == some Rows.fnExactDeepLeavesRow.make)=true:=by kernel_rfl
theorem cm10:mapsRowed Tryz.prog=true:=by kernel_rfl
theorem closed:joinedFacts Tryz.prog 5 Tryz.f5 Rows.fnExactDeepLeavesSpec Rows.fnExactDeepLeavesRow=true:=by
  unfold joinedFacts
  rw [cm1,cm2,cm3,cm4,cm5,cm6,cm7,cm8,cm9,cm10,laid]
  kernel_rfl
theorem nmd:Tryz.pinned.checked.prog.funcNamed Rows.fnExactDeepLeavesRow.func=some 5:=by kernel_rfl
theorem over:Rows.fnExactDeepLeavesRow.holds Tryz.pinned (OpenSpec.ofChange Rows.fnExactDeepLeavesSpec) :=
  OpenClaim.holds_of_wide 5 Tryz.f5 rfl rfl rfl rfl rfl rfl rfl ⟨rfl,rfl,rfl,rfl,rfl⟩ rfl rfl rfl rfl rfl nmd Tryz.func5 closed
    (of_decide_eq_true (by kernel_rfl)) (by unfold Func.isWrapper; first | (rw [if_pos (by decide +kernel)]; kernel_rfl) | (rw [if_neg (by decide +kernel)]; exact ⟨rfl,rfl⟩))
    (fun os started H enc _=>lifted os started H enc)
end Go.Proofs.YtlniheedmeaeeaaGreat.fnExactDeepLeaves
namespace Go.Proofs.YtlniheedmeaeeaaGreat
theorem fnExactDeepLeaves_holds:Rows.FnExactDeepLeavesSaid:=fnExactDeepLeaves.over
#print axioms fnExactDeepLeaves_holds
end Go.Proofs.YtlniheedmeaeeaaGreat
