/- The law returns true, whatever it is handed: by the abstract machine. -/
import Derived.Test.YtlniheedmeaeeaaGreatOramDummyl
import Derived.Test.YtlniheedmeaeeaaGreatRows
import Derived.SizedLaws
import Derived.Handed
import Derived.KernelRfl
set_option autoImplicit false
set_option linter.unusedVariables false
set_option linter.unusedSimpArgs false
namespace Go.Proofs.YtlniheedmeaeeaaGreat.fnExactOramDummy
open GoAm Go.ChangeShapes Go.WideShapes Go.RowKit
theorem own:ownKnob Tryz.prog.godebug=none:=by kernel_rfl
theorem ZEs:(TL.all fun p=>ZzX Tryz.prog p.1 p.2)=true:=by kernel_rfl
theorem tab:Zye Tryz.prog (drA Tryz.prog) T0:=ZBB (fun p hp=>List.all_eq_true.1 ZEs p hp)
def shape:List (Bool × Ty):=[(true,(.pr (.int .i64) (.pr (.int .i64) (.pr (.int .i64) (.pr (.pr (.int .i64) (.pr (.sl (.sl .u8)) (.sl (.pr (.int .i64) (.pr (.int .i64) (.int .i64)))))) (.sl (.pr (.int .i64) (.pr (.int .i64) (.sl .u8))))))))),(false,(.int .i64))]
theorem ZFM:ZCa Tryz.prog Tryz.f6.params.toList shape=true:=by kernel_rfl
theorem Zzr:(Tryz.f6.params.toList.all fun t=>Tryz.prog.readableRec t && decide (t < Tryz.prog.types.size))=true:=by kernel_rfl
theorem ZGZ:laidOutB Tryz.prog=true:=by kernel_rfl
theorem ZrU:Tryz.prog.follows .mixedOrders=true:=by kernel_rfl
set_option maxRecDepth 100000 in
theorem lifted (os:Os) (started:os.Started) (H:Type) (enc:TypeId × Value→H) :
    ReturnsInHanded {} Tryz.checked os 6 .any (Rows.fnExactOramDummySpec.pre6 enc Tryz.prog Tryz.f6 Rows.fnExactOramDummyRow.domain false) (Rows.fnExactOramDummySpec.post enc Tryz.prog Tryz.f6 false true false false):=by
  refine returnsInHanded_of_change_sized (C:=Tryz.checked) own started (by kernel_rfl) Tryz.func6
    (ChangeSpec.witness6 (enc:=enc) (C:=Tryz.checked) false ⟨#[],#[.agg #[(.int .i64 0),(.int .i64 0),(.int .i64 0),(.int .i64 0),(.slice none 0 0),(.slice none 0 0),(.slice none 0 0)],(.int .i64 0)],[]⟩ 8 (by kernel_rfl) (by kernel_rfl) (by kernel_rfl) (by kernel_rfl)) ?_
  intro W base args ds gs before hval0 hW hcnd hsz0 _
  have hW':=hW
  obtain ⟨p,q,hA,hV,rfl,hfz,hnd⟩:=hW
  obtain ⟨rfl,rfl⟩:=trodVars_none hV
  refine (Zx5 (enc:=enc) ZrU tab ZFM Zg4 (ts:=Tryz.f6.params.toList) (b0:=base) (fun j t v ht hv=>hval0 j t v (by simpa using ht) hv) hA).mono fun e W' ⟨he,bel⟩=>?_
  subst he
  have hA':=ZpC ZGZ bel Zzr hA
  rw [Tryz.params6] at hA
  obtain ⟨d0,d1,rfl⟩:∃ (d0 d1:DataW H),ds=[d0,d1]:=by
    exact Zx2 (Zto hA)
  exact ⟨_,rfl,_,_,_,[],_,[],hW',trodAll_mk1 (shut_bool Tryz.underlying4 _),hA',rfl,bel.frame _,fun h=>by cases h⟩
theorem cm1:Tryz.prog.mayEnter=true:=by kernel_rfl
theorem cm2:(Rows.fnExactOramDummyRow.lifted == Tryz.prog.liftsFinal)=true:=by kernel_rfl
theorem cm3:(Rows.fnExactOramDummyRow.inPlace == Tryz.prog.inPlace 6)=true:=by kernel_rfl
theorem cm4:(Rows.fnExactOramDummyRow.unfollowed == Tryz.prog.unfollowed 6)=true:=by kernel_rfl
theorem cm5:(Rows.fnExactOramDummyRow.recurses == Tryz.prog.recurses 6)=true:=by kernel_rfl
theorem cm6:(Rows.fnExactOramDummyRow.named == Tryz.prog.varsNamed 6)=true:=by kernel_rfl
theorem cm7:Tryz.prog.stopsHeard=true:=by kernel_rfl
theorem cm8:(Rows.fnExactOramDummyRow.plainKeys == Tryz.prog.plainKeys)=true:=by kernel_rfl
theorem cm9:(Tryz.prog.make == some Rows.fnExactOramDummyRow.make)=true:=by kernel_rfl
theorem ZHf:mapsRowed Tryz.prog=true:=by kernel_rfl
theorem ZFh:joinedFacts Tryz.prog 6 Tryz.f6 Rows.fnExactOramDummySpec Rows.fnExactOramDummyRow=true:=by
  unfold joinedFacts
  rw [cm1,cm2,cm3,cm4,cm5,cm6,cm7,cm8,cm9,ZHf,ZGZ]
  kernel_rfl
theorem nmd:Tryz.pinned.checked.prog.funcNamed Rows.fnExactOramDummyRow.func=some 6:=by kernel_rfl
theorem over:Rows.fnExactOramDummyRow.holds Tryz.pinned (OpenSpec.ofChange Rows.fnExactOramDummySpec) :=
  OpenClaim.holds_of_wide 6 Tryz.f6 rfl rfl rfl rfl rfl rfl rfl ⟨rfl,rfl,rfl,rfl,rfl⟩ rfl rfl rfl rfl rfl nmd Tryz.func6 ZFh
    (of_decide_eq_true (by kernel_rfl)) (by unfold Func.isWrapper; first | (rw [if_pos (by decide +kernel)]; kernel_rfl) | (rw [if_neg (by decide +kernel)]; exact ⟨rfl,rfl⟩))
    (fun os started H enc _=>lifted os started H enc)
end Go.Proofs.YtlniheedmeaeeaaGreat.fnExactOramDummy
namespace Go.Proofs.YtlniheedmeaeeaaGreat
theorem fnExactOramDummy_holds:Rows.FnExactOramDummySaid:=fnExactOramDummy.over
#print axioms fnExactOramDummy_holds
end Go.Proofs.YtlniheedmeaeeaaGreat
