/-
  No cell of these rows narrows 'for every input' (looked for: loops, veiled, ifaces, maps, wideKeys, modest, calm, conditions, laid).
  DERIVED. THE GIVEN ROWS OF THIS SEAT. 10 by the template 'for every input the law returns true; each argument reads behind the call as it read before'; 0 by the template 'total and deterministic' (their statements: YtiboefiiajkknaaTotals.lean).
  GIVEN WITH THE SEED: the statements are not yours to turn. If you find one false, say at which input.
  Laid BY PROGRAM, IN A SANDBOX (cutbox-rows.mjs): the forced cells as the released guide's own fill.sh prints them over the translation 41576fed56c191f4… (all of the seat's roots in one cut). By AI agents, Wed Nov 11 2026. No macro, syntax, notation, axiom, sorry.
-/
import Derived.Test.YtiboefiiajkknaaChecked
import GoSem.Claim
import GoSem.ClaimJoined
import GoSem.ClaimMapViews
import Derived.JoinedTies
import Derived.KernelRfl
namespace Go.Proofs.Ytiboefiiajkknaa
/- THE CELL 'sum', in the pinned program and in every row, IS THE sha256 OF THE DUMP (.gsa) THAT YtiboefiiajkknaaProg.lean LOADS. Nothing in Lean hashes anything: it is a label: what it is worth is what the hold of that sum in a sandbox is worth. -/
noncomputable def Try.pinned : Pinned := { name := "ytiboefiiajkknaa", sum := "41576fed56c191f4f1fefc35a781eab7ec7dd75f12039d92c6fd7ba9715f8754", checked := Try.checked }
namespace Rows
def none {H : Type} : Left H := { results := [], args := [] }

/-- 'laws.FnCoords': WHATEVER THE INPUT: true; the input reads as it did. -/
def fnCoordsSpec : ChangeSpec := { name := "fnCoords", fn := fun _ => fun
  | [d] => { results := [.lit (.bool true)], args := [d] }
  | _ => none }
def fnCoordsRow : OpenClaim := { program := "ytiboefiiajkknaa", sum := "41576fed56c191f4f1fefc35a781eab7ec7dd75f12039d92c6fd7ba9715f8754", func := "loop.example/g00663/laws.FnCoords", spec := "fnCoords", unfollowed := true, recurses := true, apart := false }
def FnCoordsSaid : Prop := fnCoordsRow.holds Try.pinned (OpenSpec.ofChange fnCoordsSpec)

/-- ITS FALSE NEIGHBOUR: 'it returns false'. Refute it at one input. -/
def fnCoordsWrong : ChangeSpec := { name := "fnCoords", fn := fun _ => fun
  | [d] => { results := [.lit (.bool false)], args := [d] }
  | _ => none }
def FnCoordsWrongFalsely : Prop := fnCoordsRow.holds Try.pinned (OpenSpec.ofChange fnCoordsWrong)

/-- 'laws.FnEven': WHATEVER THE INPUT: true; the input reads as it did. -/
def fnEvenSpec : ChangeSpec := { name := "fnEven", fn := fun _ => fun
  | [d] => { results := [.lit (.bool true)], args := [d] }
  | _ => none }
def fnEvenRow : OpenClaim := { program := "ytiboefiiajkknaa", sum := "41576fed56c191f4f1fefc35a781eab7ec7dd75f12039d92c6fd7ba9715f8754", func := "loop.example/g00663/laws.FnEven", spec := "fnEven", unfollowed := true, recurses := true, apart := false }
def FnEvenSaid : Prop := fnEvenRow.holds Try.pinned (OpenSpec.ofChange fnEvenSpec)

/-- ITS FALSE NEIGHBOUR: 'it returns false'. Refute it at one input. -/
def fnEvenWrong : ChangeSpec := { name := "fnEven", fn := fun _ => fun
  | [d] => { results := [.lit (.bool false)], args := [d] }
  | _ => none }
def FnEvenWrongFalsely : Prop := fnEvenRow.holds Try.pinned (OpenSpec.ofChange fnEvenWrong)

/-- 'laws.FnShelfBack': WHATEVER THE INPUT: true; the input reads as it did. -/
def fnShelfBackSpec : ChangeSpec := { name := "fnShelfBack", fn := fun _ => fun
  | [d] => { results := [.lit (.bool true)], args := [d] }
  | _ => none }
def fnShelfBackRow : OpenClaim := { program := "ytiboefiiajkknaa", sum := "41576fed56c191f4f1fefc35a781eab7ec7dd75f12039d92c6fd7ba9715f8754", func := "loop.example/g00663/laws.FnShelfBack", spec := "fnShelfBack", unfollowed := true, recurses := true, apart := false }
def FnShelfBackSaid : Prop := fnShelfBackRow.holds Try.pinned (OpenSpec.ofChange fnShelfBackSpec)

/-- ITS FALSE NEIGHBOUR: 'it returns false'. Refute it at one input. -/
def fnShelfBackWrong : ChangeSpec := { name := "fnShelfBack", fn := fun _ => fun
  | [d] => { results := [.lit (.bool false)], args := [d] }
  | _ => none }
def FnShelfBackWrongFalsely : Prop := fnShelfBackRow.holds Try.pinned (OpenSpec.ofChange fnShelfBackWrong)

/-- 'laws.FnPaired': WHATEVER THE INPUT: true; the input reads as it did. -/
def fnPairedSpec : ChangeSpec := { name := "fnPaired", fn := fun _ => fun
  | [d] => { results := [.lit (.bool true)], args := [d] }
  | _ => none }
def fnPairedRow : OpenClaim := { program := "ytiboefiiajkknaa", sum := "41576fed56c191f4f1fefc35a781eab7ec7dd75f12039d92c6fd7ba9715f8754", func := "loop.example/g00663/laws.FnPaired", spec := "fnPaired", unfollowed := true, recurses := true, apart := false }
def FnPairedSaid : Prop := fnPairedRow.holds Try.pinned (OpenSpec.ofChange fnPairedSpec)

/-- ITS FALSE NEIGHBOUR: 'it returns false'. Refute it at one input. -/
def fnPairedWrong : ChangeSpec := { name := "fnPaired", fn := fun _ => fun
  | [d] => { results := [.lit (.bool false)], args := [d] }
  | _ => none }
def FnPairedWrongFalsely : Prop := fnPairedRow.holds Try.pinned (OpenSpec.ofChange fnPairedWrong)

/-- 'laws.FnShelfBook': WHATEVER THE INPUT: true; the input reads as it did. -/
def fnShelfBookSpec : ChangeSpec := { name := "fnShelfBook", fn := fun _ => fun
  | [d] => { results := [.lit (.bool true)], args := [d] }
  | _ => none }
def fnShelfBookRow : OpenClaim := { program := "ytiboefiiajkknaa", sum := "41576fed56c191f4f1fefc35a781eab7ec7dd75f12039d92c6fd7ba9715f8754", func := "loop.example/g00663/laws.FnShelfBook", spec := "fnShelfBook", unfollowed := true, recurses := true, apart := false }
def FnShelfBookSaid : Prop := fnShelfBookRow.holds Try.pinned (OpenSpec.ofChange fnShelfBookSpec)

/-- ITS FALSE NEIGHBOUR: 'it returns false'. Refute it at one input. -/
def fnShelfBookWrong : ChangeSpec := { name := "fnShelfBook", fn := fun _ => fun
  | [d] => { results := [.lit (.bool false)], args := [d] }
  | _ => none }
def FnShelfBookWrongFalsely : Prop := fnShelfBookRow.holds Try.pinned (OpenSpec.ofChange fnShelfBookWrong)

/-- 'laws.FnExactEvictPlan': WHATEVER THE INPUT: true; the input reads as it did. -/
def fnExactEvictPlanSpec : ChangeSpec := { name := "fnExactEvictPlan", fn := fun _ => fun
  | [d1, d2, d3, d4] => { results := [.lit (.bool true)], args := [d1, d2, d3, d4] }
  | _ => none }
def fnExactEvictPlanRow : OpenClaim := { program := "ytiboefiiajkknaa", sum := "41576fed56c191f4f1fefc35a781eab7ec7dd75f12039d92c6fd7ba9715f8754", func := "loop.example/g00663/laws.FnExactEvictPlan", spec := "fnExactEvictPlan", unfollowed := true, recurses := true, apart := false }
def FnExactEvictPlanSaid : Prop := fnExactEvictPlanRow.holds Try.pinned (OpenSpec.ofChange fnExactEvictPlanSpec)

/-- ITS FALSE NEIGHBOUR: 'it returns false'. Refute it at one input. -/
def fnExactEvictPlanWrong : ChangeSpec := { name := "fnExactEvictPlan", fn := fun _ => fun
  | [d1, d2, d3, d4] => { results := [.lit (.bool false)], args := [d1, d2, d3, d4] }
  | _ => none }
def FnExactEvictPlanWrongFalsely : Prop := fnExactEvictPlanRow.holds Try.pinned (OpenSpec.ofChange fnExactEvictPlanWrong)

/-- 'laws.FnExactEvictRest': WHATEVER THE INPUT: true; the input reads as it did. -/
def fnExactEvictRestSpec : ChangeSpec := { name := "fnExactEvictRest", fn := fun _ => fun
  | [d1, d2, d3, d4] => { results := [.lit (.bool true)], args := [d1, d2, d3, d4] }
  | _ => none }
def fnExactEvictRestRow : OpenClaim := { program := "ytiboefiiajkknaa", sum := "41576fed56c191f4f1fefc35a781eab7ec7dd75f12039d92c6fd7ba9715f8754", func := "loop.example/g00663/laws.FnExactEvictRest", spec := "fnExactEvictRest", unfollowed := true, recurses := true, apart := false }
def FnExactEvictRestSaid : Prop := fnExactEvictRestRow.holds Try.pinned (OpenSpec.ofChange fnExactEvictRestSpec)

/-- ITS FALSE NEIGHBOUR: 'it returns false'. Refute it at one input. -/
def fnExactEvictRestWrong : ChangeSpec := { name := "fnExactEvictRest", fn := fun _ => fun
  | [d1, d2, d3, d4] => { results := [.lit (.bool false)], args := [d1, d2, d3, d4] }
  | _ => none }
def FnExactEvictRestWrongFalsely : Prop := fnExactEvictRestRow.holds Try.pinned (OpenSpec.ofChange fnExactEvictRestWrong)

/-- 'laws.FnStashBook': WHATEVER THE INPUT: true; the input reads as it did. -/
def fnStashBookSpec : ChangeSpec := { name := "fnStashBook", fn := fun _ => fun
  | [d] => { results := [.lit (.bool true)], args := [d] }
  | _ => none }
def fnStashBookRow : OpenClaim := { program := "ytiboefiiajkknaa", sum := "41576fed56c191f4f1fefc35a781eab7ec7dd75f12039d92c6fd7ba9715f8754", func := "loop.example/g00663/laws.FnStashBook", spec := "fnStashBook", inPlace := ["slices.overlaps[loop.example/g00663/impl.Block]"], unfollowed := true, recurses := true, apart := false }
def FnStashBookSaid : Prop := fnStashBookRow.holds Try.pinned (OpenSpec.ofChange fnStashBookSpec)

/-- ITS FALSE NEIGHBOUR: 'it returns false'. Refute it at one input. -/
def fnStashBookWrong : ChangeSpec := { name := "fnStashBook", fn := fun _ => fun
  | [d] => { results := [.lit (.bool false)], args := [d] }
  | _ => none }
def FnStashBookWrongFalsely : Prop := fnStashBookRow.holds Try.pinned (OpenSpec.ofChange fnStashBookWrong)

/-- 'laws.FnReplyBack': WHATEVER THE INPUT: true; the input reads as it did. -/
def fnReplyBackSpec : ChangeSpec := { name := "fnReplyBack", fn := fun _ => fun
  | [d] => { results := [.lit (.bool true)], args := [d] }
  | _ => none }
def fnReplyBackRow : OpenClaim := { program := "ytiboefiiajkknaa", sum := "41576fed56c191f4f1fefc35a781eab7ec7dd75f12039d92c6fd7ba9715f8754", func := "loop.example/g00663/laws.FnReplyBack", spec := "fnReplyBack", unfollowed := true, recurses := true, apart := false }
def FnReplyBackSaid : Prop := fnReplyBackRow.holds Try.pinned (OpenSpec.ofChange fnReplyBackSpec)

/-- ITS FALSE NEIGHBOUR: 'it returns false'. Refute it at one input. -/
def fnReplyBackWrong : ChangeSpec := { name := "fnReplyBack", fn := fun _ => fun
  | [d] => { results := [.lit (.bool false)], args := [d] }
  | _ => none }
def FnReplyBackWrongFalsely : Prop := fnReplyBackRow.holds Try.pinned (OpenSpec.ofChange fnReplyBackWrong)

/-- 'laws.FnBookTop': WHATEVER THE INPUT: true; the input reads as it did. -/
def fnBookTopSpec : ChangeSpec := { name := "fnBookTop", fn := fun _ => fun
  | [d] => { results := [.lit (.bool true)], args := [d] }
  | _ => none }
def fnBookTopRow : OpenClaim := { program := "ytiboefiiajkknaa", sum := "41576fed56c191f4f1fefc35a781eab7ec7dd75f12039d92c6fd7ba9715f8754", func := "loop.example/g00663/laws.FnBookTop", spec := "fnBookTop", unfollowed := true, recurses := true, apart := false }
def FnBookTopSaid : Prop := fnBookTopRow.holds Try.pinned (OpenSpec.ofChange fnBookTopSpec)

/-- ITS FALSE NEIGHBOUR: 'it returns false'. Refute it at one input. -/
def fnBookTopWrong : ChangeSpec := { name := "fnBookTop", fn := fun _ => fun
  | [d] => { results := [.lit (.bool false)], args := [d] }
  | _ => none }
def FnBookTopWrongFalsely : Prop := fnBookTopRow.holds Try.pinned (OpenSpec.ofChange fnBookTopWrong)

/- THE SECOND FORM. 'bulk': how many values and letters a reading holds, each counted each time it is reached (what is shared counts as often as it is met; a slice's spare places count too). A statement '..UptoSaid' is the law's where the arguments, and the package variables that the reading takes, are together of bulk at most 1048576: NARROWER than '..Said'. Prove '..Said' where nothing that the law and all that it calls make is longer than what came in: it says more and counts as full. Else prove '..UptoSaid'. A law counts once. -/
mutual
def uptoBulk {H : Type} : DataW H → Nat
  | .lit (.string bytes) => bytes.length + 1
  | .lit _ => 1
  | .nil => 1
  | .ptr d => uptoBulk d + 1
  | .slice elems spare => uptoBulkAll elems + uptoBulkAll spare + 1
  | .agg parts => uptoBulkAll parts + 1
  | .iface _ d => uptoBulk d + 1
  | .map entries => uptoBulkEntries entries + 1
  | .held _ => 1
def uptoBulkAll {H : Type} : List (DataW H) → Nat
  | [] => 0
  | d :: r => uptoBulk d + uptoBulkAll r
def uptoBulkEntries {H : Type} : List (Lit × DataW H) → Nat
  | [] => 0
  | x :: r => uptoBulkEntry x + uptoBulkEntries r
def uptoBulkEntry {H : Type} : Lit × DataW H → Nat
  | (.string bytes, d) => bytes.length + uptoBulk d + 1
  | (_, d) => uptoBulk d + 1
 end
def uptoSmall : (H : Type) → List (DataW H) → Bool := fun _ ds => decide (uptoBulkAll ds ≤ 1048576)
def OpenSpec.upto (s : _root_.Go.ChangeSpec) : _root_.Go.OpenSpec := { _root_.Go.OpenSpec.ofChange s with cond := some uptoSmall }

/-- 'laws.FnCoords', WHERE WHAT IT READS IS OF BULK AT MOST 1048576: true; the input reads as it did. -/
def fnCoordsUptoRow : OpenClaim := { program := "ytiboefiiajkknaa", sum := "41576fed56c191f4f1fefc35a781eab7ec7dd75f12039d92c6fd7ba9715f8754", func := "loop.example/g00663/laws.FnCoords", spec := "fnCoords", unfollowed := true, recurses := true, apart := false, narrowed := true }
def FnCoordsUptoSaid : Prop := fnCoordsUptoRow.holds Try.pinned (OpenSpec.upto fnCoordsSpec)

/-- 'laws.FnEven', WHERE WHAT IT READS IS OF BULK AT MOST 1048576: true; the input reads as it did. -/
def fnEvenUptoRow : OpenClaim := { program := "ytiboefiiajkknaa", sum := "41576fed56c191f4f1fefc35a781eab7ec7dd75f12039d92c6fd7ba9715f8754", func := "loop.example/g00663/laws.FnEven", spec := "fnEven", unfollowed := true, recurses := true, apart := false, narrowed := true }
def FnEvenUptoSaid : Prop := fnEvenUptoRow.holds Try.pinned (OpenSpec.upto fnEvenSpec)

/-- 'laws.FnShelfBack', WHERE WHAT IT READS IS OF BULK AT MOST 1048576: true; the input reads as it did. -/
def fnShelfBackUptoRow : OpenClaim := { program := "ytiboefiiajkknaa", sum := "41576fed56c191f4f1fefc35a781eab7ec7dd75f12039d92c6fd7ba9715f8754", func := "loop.example/g00663/laws.FnShelfBack", spec := "fnShelfBack", unfollowed := true, recurses := true, apart := false, narrowed := true }
def FnShelfBackUptoSaid : Prop := fnShelfBackUptoRow.holds Try.pinned (OpenSpec.upto fnShelfBackSpec)

/-- 'laws.FnPaired', WHERE WHAT IT READS IS OF BULK AT MOST 1048576: true; the input reads as it did. -/
def fnPairedUptoRow : OpenClaim := { program := "ytiboefiiajkknaa", sum := "41576fed56c191f4f1fefc35a781eab7ec7dd75f12039d92c6fd7ba9715f8754", func := "loop.example/g00663/laws.FnPaired", spec := "fnPaired", unfollowed := true, recurses := true, apart := false, narrowed := true }
def FnPairedUptoSaid : Prop := fnPairedUptoRow.holds Try.pinned (OpenSpec.upto fnPairedSpec)

/-- 'laws.FnShelfBook', WHERE WHAT IT READS IS OF BULK AT MOST 1048576: true; the input reads as it did. -/
def fnShelfBookUptoRow : OpenClaim := { program := "ytiboefiiajkknaa", sum := "41576fed56c191f4f1fefc35a781eab7ec7dd75f12039d92c6fd7ba9715f8754", func := "loop.example/g00663/laws.FnShelfBook", spec := "fnShelfBook", unfollowed := true, recurses := true, apart := false, narrowed := true }
def FnShelfBookUptoSaid : Prop := fnShelfBookUptoRow.holds Try.pinned (OpenSpec.upto fnShelfBookSpec)

/-- 'laws.FnExactEvictPlan', WHERE WHAT IT READS IS OF BULK AT MOST 1048576: true; the input reads as it did. -/
def fnExactEvictPlanUptoRow : OpenClaim := { program := "ytiboefiiajkknaa", sum := "41576fed56c191f4f1fefc35a781eab7ec7dd75f12039d92c6fd7ba9715f8754", func := "loop.example/g00663/laws.FnExactEvictPlan", spec := "fnExactEvictPlan", unfollowed := true, recurses := true, apart := false, narrowed := true }
def FnExactEvictPlanUptoSaid : Prop := fnExactEvictPlanUptoRow.holds Try.pinned (OpenSpec.upto fnExactEvictPlanSpec)

/-- 'laws.FnExactEvictRest', WHERE WHAT IT READS IS OF BULK AT MOST 1048576: true; the input reads as it did. -/
def fnExactEvictRestUptoRow : OpenClaim := { program := "ytiboefiiajkknaa", sum := "41576fed56c191f4f1fefc35a781eab7ec7dd75f12039d92c6fd7ba9715f8754", func := "loop.example/g00663/laws.FnExactEvictRest", spec := "fnExactEvictRest", unfollowed := true, recurses := true, apart := false, narrowed := true }
def FnExactEvictRestUptoSaid : Prop := fnExactEvictRestUptoRow.holds Try.pinned (OpenSpec.upto fnExactEvictRestSpec)

/-- 'laws.FnStashBook', WHERE WHAT IT READS IS OF BULK AT MOST 1048576: true; the input reads as it did. -/
def fnStashBookUptoRow : OpenClaim := { program := "ytiboefiiajkknaa", sum := "41576fed56c191f4f1fefc35a781eab7ec7dd75f12039d92c6fd7ba9715f8754", func := "loop.example/g00663/laws.FnStashBook", spec := "fnStashBook", inPlace := ["slices.overlaps[loop.example/g00663/impl.Block]"], unfollowed := true, recurses := true, apart := false, narrowed := true }
def FnStashBookUptoSaid : Prop := fnStashBookUptoRow.holds Try.pinned (OpenSpec.upto fnStashBookSpec)

/-- 'laws.FnReplyBack', WHERE WHAT IT READS IS OF BULK AT MOST 1048576: true; the input reads as it did. -/
def fnReplyBackUptoRow : OpenClaim := { program := "ytiboefiiajkknaa", sum := "41576fed56c191f4f1fefc35a781eab7ec7dd75f12039d92c6fd7ba9715f8754", func := "loop.example/g00663/laws.FnReplyBack", spec := "fnReplyBack", unfollowed := true, recurses := true, apart := false, narrowed := true }
def FnReplyBackUptoSaid : Prop := fnReplyBackUptoRow.holds Try.pinned (OpenSpec.upto fnReplyBackSpec)

/-- 'laws.FnBookTop', WHERE WHAT IT READS IS OF BULK AT MOST 1048576: true; the input reads as it did. -/
def fnBookTopUptoRow : OpenClaim := { program := "ytiboefiiajkknaa", sum := "41576fed56c191f4f1fefc35a781eab7ec7dd75f12039d92c6fd7ba9715f8754", func := "loop.example/g00663/laws.FnBookTop", spec := "fnBookTop", unfollowed := true, recurses := true, apart := false, narrowed := true }
def FnBookTopUptoSaid : Prop := fnBookTopUptoRow.holds Try.pinned (OpenSpec.upto fnBookTopSpec)

end Rows
end Go.Proofs.Ytiboefiiajkknaa
