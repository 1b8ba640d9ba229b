/-
  No cell of these rows narrows 'for every input' (looked for: loops, veiled, ifaces, maps, wideKeys, modest, calm, conditions, laid).
  DERIVED. THE GIVEN ROWS OF THIS SEAT. 4 by the template 'for every input the law returns true; each argument reads behind the call as it read before'; 0 by the template 'total and deterministic' (their statements: YtlniheedmeaeeaaGreatTotals.lean).
  GIVEN WITH THE SEED: the statements are not yours to turn. If you find one false, say at which input.
  Laid BY PROGRAM, IN A SANDBOX (cutbox-rows.mjs): the forced cells as the released guide's own fill.sh prints them over the translation d1f35e6ae779529d… (all of the seat's roots in one cut). By AI agents, Wed Nov 11 2026. No macro, syntax, notation, axiom, sorry.
-/
import Derived.Test.YtlniheedmeaeeaaGreatChecked
import GoSem.Claim
import GoSem.ClaimJoined
import GoSem.ClaimMapViews
import Derived.JoinedTies
import Derived.KernelRfl
namespace Go.Proofs.YtlniheedmeaeeaaGreat
/- THE CELL 'sum', in the pinned program and in every row, IS THE sha256 OF THE DUMP (.gsa) THAT YtlniheedmeaeeaaGreatProg.lean LOADS. Nothing in Lean hashes anything: it is a label: what it is worth is what the hold of that sum in a sandbox is worth. -/
noncomputable def Tryz.pinned : Pinned := { name := "ytlniheedmeaeeaagreat", sum := "d1f35e6ae779529dbf056b4dd3a4b7f0a4e51a831ac078154fafcac3024ef0a5", checked := Tryz.checked }
namespace Rows
def none {H : Type} : Left H := { results := [], args := [] }

/-- 'laws.FnOramArray': WHATEVER THE INPUT: true; the input reads as it did. -/
def fnOramArraySpec : ChangeSpec := { name := "fnOramArray", fn := fun _ => fun
  | [d] => { results := [.lit (.bool true)], args := [d] }
  | _ => none }
def fnOramArrayRow : OpenClaim := { program := "ytlniheedmeaeeaagreat", sum := "d1f35e6ae779529dbf056b4dd3a4b7f0a4e51a831ac078154fafcac3024ef0a5", func := "loop.example/g00663/laws.FnOramArray", spec := "fnOramArray", inPlace := ["slices.overlaps[loop.example/g00663/impl.Block]"], unfollowed := true, recurses := true, apart := false }
def FnOramArraySaid : Prop := fnOramArrayRow.holds Tryz.pinned (OpenSpec.ofChange fnOramArraySpec)

/-- ITS FALSE NEIGHBOUR: 'it returns false'. Refute it at one input. -/
def fnOramArrayWrong : ChangeSpec := { name := "fnOramArray", fn := fun _ => fun
  | [d] => { results := [.lit (.bool false)], args := [d] }
  | _ => none }
def FnOramArrayWrongFalsely : Prop := fnOramArrayRow.holds Tryz.pinned (OpenSpec.ofChange fnOramArrayWrong)

/-- 'laws.FnExactDeepPos': WHATEVER THE INPUT: true; the input reads as it did. -/
def fnExactDeepPosSpec : ChangeSpec := { name := "fnExactDeepPos", fn := fun _ => fun
  | [d] => { results := [.lit (.bool true)], args := [d] }
  | _ => none }
def fnExactDeepPosRow : OpenClaim := { program := "ytlniheedmeaeeaagreat", sum := "d1f35e6ae779529dbf056b4dd3a4b7f0a4e51a831ac078154fafcac3024ef0a5", func := "loop.example/g00663/laws.FnExactDeepPos", spec := "fnExactDeepPos", inPlace := ["slices.overlaps[loop.example/g00663/impl.Block]"], unfollowed := true, recurses := true, apart := false }
def FnExactDeepPosSaid : Prop := fnExactDeepPosRow.holds Tryz.pinned (OpenSpec.ofChange fnExactDeepPosSpec)

/-- ITS FALSE NEIGHBOUR: 'it returns false'. Refute it at one input. -/
def fnExactDeepPosWrong : ChangeSpec := { name := "fnExactDeepPos", fn := fun _ => fun
  | [d] => { results := [.lit (.bool false)], args := [d] }
  | _ => none }
def FnExactDeepPosWrongFalsely : Prop := fnExactDeepPosRow.holds Tryz.pinned (OpenSpec.ofChange fnExactDeepPosWrong)

/-- 'laws.FnExactDeepLeaves': WHATEVER THE INPUT: true; the input reads as it did. -/
def fnExactDeepLeavesSpec : ChangeSpec := { name := "fnExactDeepLeaves", fn := fun _ => fun
  | [d1, d2, d3] => { results := [.lit (.bool true)], args := [d1, d2, d3] }
  | _ => none }
def fnExactDeepLeavesRow : OpenClaim := { program := "ytlniheedmeaeeaagreat", sum := "d1f35e6ae779529dbf056b4dd3a4b7f0a4e51a831ac078154fafcac3024ef0a5", func := "loop.example/g00663/laws.FnExactDeepLeaves", spec := "fnExactDeepLeaves", inPlace := ["slices.overlaps[loop.example/g00663/impl.Block]"], unfollowed := true, recurses := true, apart := false }
def FnExactDeepLeavesSaid : Prop := fnExactDeepLeavesRow.holds Tryz.pinned (OpenSpec.ofChange fnExactDeepLeavesSpec)

/-- ITS FALSE NEIGHBOUR: 'it returns false'. Refute it at one input. -/
def fnExactDeepLeavesWrong : ChangeSpec := { name := "fnExactDeepLeaves", fn := fun _ => fun
  | [d1, d2, d3] => { results := [.lit (.bool false)], args := [d1, d2, d3] }
  | _ => none }
def FnExactDeepLeavesWrongFalsely : Prop := fnExactDeepLeavesRow.holds Tryz.pinned (OpenSpec.ofChange fnExactDeepLeavesWrong)

/-- 'laws.FnExactOramDummy': WHATEVER THE INPUT: true; the input reads as it did. -/
def fnExactOramDummySpec : ChangeSpec := { name := "fnExactOramDummy", fn := fun _ => fun
  | [d1, d2] => { results := [.lit (.bool true)], args := [d1, d2] }
  | _ => none }
def fnExactOramDummyRow : OpenClaim := { program := "ytlniheedmeaeeaagreat", sum := "d1f35e6ae779529dbf056b4dd3a4b7f0a4e51a831ac078154fafcac3024ef0a5", func := "loop.example/g00663/laws.FnExactOramDummy", spec := "fnExactOramDummy", inPlace := ["slices.overlaps[loop.example/g00663/impl.Block]"], unfollowed := true, recurses := true, apart := false }
def FnExactOramDummySaid : Prop := fnExactOramDummyRow.holds Tryz.pinned (OpenSpec.ofChange fnExactOramDummySpec)

/-- ITS FALSE NEIGHBOUR: 'it returns false'. Refute it at one input. -/
def fnExactOramDummyWrong : ChangeSpec := { name := "fnExactOramDummy", fn := fun _ => fun
  | [d1, d2] => { results := [.lit (.bool false)], args := [d1, d2] }
  | _ => none }
def FnExactOramDummyWrongFalsely : Prop := fnExactOramDummyRow.holds Tryz.pinned (OpenSpec.ofChange fnExactOramDummyWrong)

/- THE SECOND FORM. 'bulk': how many values and letters a reading holds, each counted each time it is reached (what is shared counts as often as it is met; a slice's spare places count too). A statement '..UptoSaid' is the law's where the arguments, and the package variables that the reading takes, are together of bulk at most 1048576: NARROWER than '..Said'. Prove '..Said' where nothing that the law and all that it calls make is longer than what came in: it says more and counts as full. Else prove '..UptoSaid'. A law counts once. -/
mutual
def uptoBulk {H : Type} : DataW H → Nat
  | .lit (.string bytes) => bytes.length + 1
  | .lit _ => 1
  | .nil => 1
  | .ptr d => uptoBulk d + 1
  | .slice elems spare => uptoBulkAll elems + uptoBulkAll spare + 1
  | .agg parts => uptoBulkAll parts + 1
  | .iface _ d => uptoBulk d + 1
  | .map entries => uptoBulkEntries entries + 1
  | .held _ => 1
def uptoBulkAll {H : Type} : List (DataW H) → Nat
  | [] => 0
  | d :: r => uptoBulk d + uptoBulkAll r
def uptoBulkEntries {H : Type} : List (Lit × DataW H) → Nat
  | [] => 0
  | x :: r => uptoBulkEntry x + uptoBulkEntries r
def uptoBulkEntry {H : Type} : Lit × DataW H → Nat
  | (.string bytes, d) => bytes.length + uptoBulk d + 1
  | (_, d) => uptoBulk d + 1
 end
def uptoSmall : (H : Type) → List (DataW H) → Bool := fun _ ds => decide (uptoBulkAll ds ≤ 1048576)
def OpenSpec.upto (s : _root_.Go.ChangeSpec) : _root_.Go.OpenSpec := { _root_.Go.OpenSpec.ofChange s with cond := some uptoSmall }

/-- 'laws.FnOramArray', WHERE WHAT IT READS IS OF BULK AT MOST 1048576: true; the input reads as it did. -/
def fnOramArrayUptoRow : OpenClaim := { program := "ytlniheedmeaeeaagreat", sum := "d1f35e6ae779529dbf056b4dd3a4b7f0a4e51a831ac078154fafcac3024ef0a5", func := "loop.example/g00663/laws.FnOramArray", spec := "fnOramArray", inPlace := ["slices.overlaps[loop.example/g00663/impl.Block]"], unfollowed := true, recurses := true, apart := false, narrowed := true }
def FnOramArrayUptoSaid : Prop := fnOramArrayUptoRow.holds Tryz.pinned (OpenSpec.upto fnOramArraySpec)

/-- 'laws.FnExactDeepPos', WHERE WHAT IT READS IS OF BULK AT MOST 1048576: true; the input reads as it did. -/
def fnExactDeepPosUptoRow : OpenClaim := { program := "ytlniheedmeaeeaagreat", sum := "d1f35e6ae779529dbf056b4dd3a4b7f0a4e51a831ac078154fafcac3024ef0a5", func := "loop.example/g00663/laws.FnExactDeepPos", spec := "fnExactDeepPos", inPlace := ["slices.overlaps[loop.example/g00663/impl.Block]"], unfollowed := true, recurses := true, apart := false, narrowed := true }
def FnExactDeepPosUptoSaid : Prop := fnExactDeepPosUptoRow.holds Tryz.pinned (OpenSpec.upto fnExactDeepPosSpec)

/-- 'laws.FnExactDeepLeaves', WHERE WHAT IT READS IS OF BULK AT MOST 1048576: true; the input reads as it did. -/
def fnExactDeepLeavesUptoRow : OpenClaim := { program := "ytlniheedmeaeeaagreat", sum := "d1f35e6ae779529dbf056b4dd3a4b7f0a4e51a831ac078154fafcac3024ef0a5", func := "loop.example/g00663/laws.FnExactDeepLeaves", spec := "fnExactDeepLeaves", inPlace := ["slices.overlaps[loop.example/g00663/impl.Block]"], unfollowed := true, recurses := true, apart := false, narrowed := true }
def FnExactDeepLeavesUptoSaid : Prop := fnExactDeepLeavesUptoRow.holds Tryz.pinned (OpenSpec.upto fnExactDeepLeavesSpec)

/-- 'laws.FnExactOramDummy', WHERE WHAT IT READS IS OF BULK AT MOST 1048576: true; the input reads as it did. -/
def fnExactOramDummyUptoRow : OpenClaim := { program := "ytlniheedmeaeeaagreat", sum := "d1f35e6ae779529dbf056b4dd3a4b7f0a4e51a831ac078154fafcac3024ef0a5", func := "loop.example/g00663/laws.FnExactOramDummy", spec := "fnExactOramDummy", inPlace := ["slices.overlaps[loop.example/g00663/impl.Block]"], unfollowed := true, recurses := true, apart := false, narrowed := true }
def FnExactOramDummyUptoSaid : Prop := fnExactOramDummyUptoRow.holds Tryz.pinned (OpenSpec.upto fnExactOramDummySpec)

end Rows
end Go.Proofs.YtlniheedmeaeeaaGreat
