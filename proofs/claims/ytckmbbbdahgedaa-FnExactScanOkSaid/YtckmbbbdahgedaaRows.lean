/-
  No cell of these rows narrows 'for every input' (looked for: loops, veiled, ifaces, maps, wideKeys, modest, calm, conditions, laid).
  DERIVED. THE GIVEN ROWS OF THIS SEAT. 6 by the template 'for every input the law returns true; each argument reads behind the call as it read before'; 0 by the template 'total and deterministic' (their statements: YtckmbbbdahgedaaTotals.lean).
  GIVEN WITH THE SEED: the statements are not yours to turn. If you find one false, say at which input.
  Laid BY PROGRAM, IN A SANDBOX (cutbox-rows.mjs): the forced cells as the released guide's own fill.sh prints them over the translation 7db749f198047f52… (all of the seat's roots in one cut). By AI agents, Wed Nov 11 2026. No macro, syntax, notation, axiom, sorry.
-/
import Derived.Test.YtckmbbbdahgedaaChecked
import GoSem.Claim
import GoSem.ClaimJoined
import GoSem.ClaimMapViews
import Derived.JoinedTies
import Derived.KernelRfl
namespace Go.Proofs.Ytckmbbbdahgedaa
/- THE CELL 'sum', in the pinned program and in every row, IS THE sha256 OF THE DUMP (.gsa) THAT YtckmbbbdahgedaaProg.lean LOADS. Nothing in Lean hashes anything: it is a label: what it is worth is what the hold of that sum in a sandbox is worth. -/
noncomputable def Try.pinned : Pinned := { name := "ytckmbbbdahgedaa", sum := "7db749f198047f52920d0e5eeebc63d057ab50481651baf33d25f65d87823cfe", checked := Try.checked }
namespace Rows
def none {H : Type} : Left H := { results := [], args := [] }

/-- 'laws.FnExactEvictPlan': WHATEVER THE INPUT: true; the input reads as it did. -/
def fnExactEvictPlanSpec : ChangeSpec := { name := "fnExactEvictPlan", fn := fun _ => fun
  | [d1, d2, d3, d4] => { results := [.lit (.bool true)], args := [d1, d2, d3, d4] }
  | _ => none }
def fnExactEvictPlanRow : OpenClaim := { program := "ytckmbbbdahgedaa", sum := "7db749f198047f52920d0e5eeebc63d057ab50481651baf33d25f65d87823cfe", func := "loop.example/g00663/laws.FnExactEvictPlan", spec := "fnExactEvictPlan", unfollowed := true, recurses := true, apart := false }
def FnExactEvictPlanSaid : Prop := fnExactEvictPlanRow.holds Try.pinned (OpenSpec.ofChange fnExactEvictPlanSpec)

/-- ITS FALSE NEIGHBOUR: 'it returns false'. Refute it at one input. -/
def fnExactEvictPlanWrong : ChangeSpec := { name := "fnExactEvictPlan", fn := fun _ => fun
  | [d1, d2, d3, d4] => { results := [.lit (.bool false)], args := [d1, d2, d3, d4] }
  | _ => none }
def FnExactEvictPlanWrongFalsely : Prop := fnExactEvictPlanRow.holds Try.pinned (OpenSpec.ofChange fnExactEvictPlanWrong)

/-- 'laws.FnExactEvictRest': WHATEVER THE INPUT: true; the input reads as it did. -/
def fnExactEvictRestSpec : ChangeSpec := { name := "fnExactEvictRest", fn := fun _ => fun
  | [d1, d2, d3, d4] => { results := [.lit (.bool true)], args := [d1, d2, d3, d4] }
  | _ => none }
def fnExactEvictRestRow : OpenClaim := { program := "ytckmbbbdahgedaa", sum := "7db749f198047f52920d0e5eeebc63d057ab50481651baf33d25f65d87823cfe", func := "loop.example/g00663/laws.FnExactEvictRest", spec := "fnExactEvictRest", unfollowed := true, recurses := true, apart := false }
def FnExactEvictRestSaid : Prop := fnExactEvictRestRow.holds Try.pinned (OpenSpec.ofChange fnExactEvictRestSpec)

/-- ITS FALSE NEIGHBOUR: 'it returns false'. Refute it at one input. -/
def fnExactEvictRestWrong : ChangeSpec := { name := "fnExactEvictRest", fn := fun _ => fun
  | [d1, d2, d3, d4] => { results := [.lit (.bool false)], args := [d1, d2, d3, d4] }
  | _ => none }
def FnExactEvictRestWrongFalsely : Prop := fnExactEvictRestRow.holds Try.pinned (OpenSpec.ofChange fnExactEvictRestWrong)

/-- 'laws.FnExactStashPut': WHATEVER THE INPUT: true; the input reads as it did. -/
def fnExactStashPutSpec : ChangeSpec := { name := "fnExactStashPut", fn := fun _ => fun
  | [d1, d2, d3, d4] => { results := [.lit (.bool true)], args := [d1, d2, d3, d4] }
  | _ => none }
def fnExactStashPutRow : OpenClaim := { program := "ytckmbbbdahgedaa", sum := "7db749f198047f52920d0e5eeebc63d057ab50481651baf33d25f65d87823cfe", func := "loop.example/g00663/laws.FnExactStashPut", spec := "fnExactStashPut", inPlace := ["slices.overlaps[loop.example/g00663/impl.Block]"], unfollowed := true, recurses := true, apart := false }
def FnExactStashPutSaid : Prop := fnExactStashPutRow.holds Try.pinned (OpenSpec.ofChange fnExactStashPutSpec)

/-- ITS FALSE NEIGHBOUR: 'it returns false'. Refute it at one input. -/
def fnExactStashPutWrong : ChangeSpec := { name := "fnExactStashPut", fn := fun _ => fun
  | [d1, d2, d3, d4] => { results := [.lit (.bool false)], args := [d1, d2, d3, d4] }
  | _ => none }
def FnExactStashPutWrongFalsely : Prop := fnExactStashPutRow.holds Try.pinned (OpenSpec.ofChange fnExactStashPutWrong)

/-- 'laws.FnExactScanOk': WHATEVER THE INPUT: true; the input reads as it did. -/
def fnExactScanOkSpec : ChangeSpec := { name := "fnExactScanOk", fn := fun _ => fun
  | [d] => { results := [.lit (.bool true)], args := [d] }
  | _ => none }
def fnExactScanOkRow : OpenClaim := { program := "ytckmbbbdahgedaa", sum := "7db749f198047f52920d0e5eeebc63d057ab50481651baf33d25f65d87823cfe", func := "loop.example/g00663/laws.FnExactScanOk", spec := "fnExactScanOk", unfollowed := true, recurses := true, apart := false }
def FnExactScanOkSaid : Prop := fnExactScanOkRow.holds Try.pinned (OpenSpec.ofChange fnExactScanOkSpec)

/-- ITS FALSE NEIGHBOUR: 'it returns false'. Refute it at one input. -/
def fnExactScanOkWrong : ChangeSpec := { name := "fnExactScanOk", fn := fun _ => fun
  | [d] => { results := [.lit (.bool false)], args := [d] }
  | _ => none }
def FnExactScanOkWrongFalsely : Prop := fnExactScanOkRow.holds Try.pinned (OpenSpec.ofChange fnExactScanOkWrong)

/-- 'laws.FnExactReplyOf': WHATEVER THE INPUT: true; the input reads as it did. -/
def fnExactReplyOfSpec : ChangeSpec := { name := "fnExactReplyOf", fn := fun _ => fun
  | [d1, d2, d3] => { results := [.lit (.bool true)], args := [d1, d2, d3] }
  | _ => none }
def fnExactReplyOfRow : OpenClaim := { program := "ytckmbbbdahgedaa", sum := "7db749f198047f52920d0e5eeebc63d057ab50481651baf33d25f65d87823cfe", func := "loop.example/g00663/laws.FnExactReplyOf", spec := "fnExactReplyOf", unfollowed := true, recurses := true, apart := false }
def FnExactReplyOfSaid : Prop := fnExactReplyOfRow.holds Try.pinned (OpenSpec.ofChange fnExactReplyOfSpec)

/-- ITS FALSE NEIGHBOUR: 'it returns false'. Refute it at one input. -/
def fnExactReplyOfWrong : ChangeSpec := { name := "fnExactReplyOf", fn := fun _ => fun
  | [d1, d2, d3] => { results := [.lit (.bool false)], args := [d1, d2, d3] }
  | _ => none }
def FnExactReplyOfWrongFalsely : Prop := fnExactReplyOfRow.holds Try.pinned (OpenSpec.ofChange fnExactReplyOfWrong)

/-- 'laws.FnExactReplyRead': WHATEVER THE INPUT: true; the input reads as it did. -/
def fnExactReplyReadSpec : ChangeSpec := { name := "fnExactReplyRead", fn := fun _ => fun
  | [d1, d2, d3] => { results := [.lit (.bool true)], args := [d1, d2, d3] }
  | _ => none }
def fnExactReplyReadRow : OpenClaim := { program := "ytckmbbbdahgedaa", sum := "7db749f198047f52920d0e5eeebc63d057ab50481651baf33d25f65d87823cfe", func := "loop.example/g00663/laws.FnExactReplyRead", spec := "fnExactReplyRead", unfollowed := true, recurses := true, apart := false }
def FnExactReplyReadSaid : Prop := fnExactReplyReadRow.holds Try.pinned (OpenSpec.ofChange fnExactReplyReadSpec)

/-- ITS FALSE NEIGHBOUR: 'it returns false'. Refute it at one input. -/
def fnExactReplyReadWrong : ChangeSpec := { name := "fnExactReplyRead", fn := fun _ => fun
  | [d1, d2, d3] => { results := [.lit (.bool false)], args := [d1, d2, d3] }
  | _ => none }
def FnExactReplyReadWrongFalsely : Prop := fnExactReplyReadRow.holds Try.pinned (OpenSpec.ofChange fnExactReplyReadWrong)

/- THE SECOND FORM. 'bulk': how many values and letters a reading holds, each counted each time it is reached (what is shared counts as often as it is met; a slice's spare places count too). A statement '..UptoSaid' is the law's where the arguments, and the package variables that the reading takes, are together of bulk at most 1048576: NARROWER than '..Said'. Prove '..Said' where nothing that the law and all that it calls make is longer than what came in: it says more and counts as full. Else prove '..UptoSaid'. A law counts once. -/
mutual
def uptoBulk {H : Type} : DataW H → Nat
  | .lit (.string bytes) => bytes.length + 1
  | .lit _ => 1
  | .nil => 1
  | .ptr d => uptoBulk d + 1
  | .slice elems spare => uptoBulkAll elems + uptoBulkAll spare + 1
  | .agg parts => uptoBulkAll parts + 1
  | .iface _ d => uptoBulk d + 1
  | .map entries => uptoBulkEntries entries + 1
  | .held _ => 1
def uptoBulkAll {H : Type} : List (DataW H) → Nat
  | [] => 0
  | d :: r => uptoBulk d + uptoBulkAll r
def uptoBulkEntries {H : Type} : List (Lit × DataW H) → Nat
  | [] => 0
  | x :: r => uptoBulkEntry x + uptoBulkEntries r
def uptoBulkEntry {H : Type} : Lit × DataW H → Nat
  | (.string bytes, d) => bytes.length + uptoBulk d + 1
  | (_, d) => uptoBulk d + 1
 end
def uptoSmall : (H : Type) → List (DataW H) → Bool := fun _ ds => decide (uptoBulkAll ds ≤ 1048576)
def OpenSpec.upto (s : _root_.Go.ChangeSpec) : _root_.Go.OpenSpec := { _root_.Go.OpenSpec.ofChange s with cond := some uptoSmall }

/-- 'laws.FnExactEvictPlan', WHERE WHAT IT READS IS OF BULK AT MOST 1048576: true; the input reads as it did. -/
def fnExactEvictPlanUptoRow : OpenClaim := { program := "ytckmbbbdahgedaa", sum := "7db749f198047f52920d0e5eeebc63d057ab50481651baf33d25f65d87823cfe", func := "loop.example/g00663/laws.FnExactEvictPlan", spec := "fnExactEvictPlan", unfollowed := true, recurses := true, apart := false, narrowed := true }
def FnExactEvictPlanUptoSaid : Prop := fnExactEvictPlanUptoRow.holds Try.pinned (OpenSpec.upto fnExactEvictPlanSpec)

/-- 'laws.FnExactEvictRest', WHERE WHAT IT READS IS OF BULK AT MOST 1048576: true; the input reads as it did. -/
def fnExactEvictRestUptoRow : OpenClaim := { program := "ytckmbbbdahgedaa", sum := "7db749f198047f52920d0e5eeebc63d057ab50481651baf33d25f65d87823cfe", func := "loop.example/g00663/laws.FnExactEvictRest", spec := "fnExactEvictRest", unfollowed := true, recurses := true, apart := false, narrowed := true }
def FnExactEvictRestUptoSaid : Prop := fnExactEvictRestUptoRow.holds Try.pinned (OpenSpec.upto fnExactEvictRestSpec)

/-- 'laws.FnExactStashPut', WHERE WHAT IT READS IS OF BULK AT MOST 1048576: true; the input reads as it did. -/
def fnExactStashPutUptoRow : OpenClaim := { program := "ytckmbbbdahgedaa", sum := "7db749f198047f52920d0e5eeebc63d057ab50481651baf33d25f65d87823cfe", func := "loop.example/g00663/laws.FnExactStashPut", spec := "fnExactStashPut", inPlace := ["slices.overlaps[loop.example/g00663/impl.Block]"], unfollowed := true, recurses := true, apart := false, narrowed := true }
def FnExactStashPutUptoSaid : Prop := fnExactStashPutUptoRow.holds Try.pinned (OpenSpec.upto fnExactStashPutSpec)

/-- 'laws.FnExactScanOk', WHERE WHAT IT READS IS OF BULK AT MOST 1048576: true; the input reads as it did. -/
def fnExactScanOkUptoRow : OpenClaim := { program := "ytckmbbbdahgedaa", sum := "7db749f198047f52920d0e5eeebc63d057ab50481651baf33d25f65d87823cfe", func := "loop.example/g00663/laws.FnExactScanOk", spec := "fnExactScanOk", unfollowed := true, recurses := true, apart := false, narrowed := true }
def FnExactScanOkUptoSaid : Prop := fnExactScanOkUptoRow.holds Try.pinned (OpenSpec.upto fnExactScanOkSpec)

/-- 'laws.FnExactReplyOf', WHERE WHAT IT READS IS OF BULK AT MOST 1048576: true; the input reads as it did. -/
def fnExactReplyOfUptoRow : OpenClaim := { program := "ytckmbbbdahgedaa", sum := "7db749f198047f52920d0e5eeebc63d057ab50481651baf33d25f65d87823cfe", func := "loop.example/g00663/laws.FnExactReplyOf", spec := "fnExactReplyOf", unfollowed := true, recurses := true, apart := false, narrowed := true }
def FnExactReplyOfUptoSaid : Prop := fnExactReplyOfUptoRow.holds Try.pinned (OpenSpec.upto fnExactReplyOfSpec)

/-- 'laws.FnExactReplyRead', WHERE WHAT IT READS IS OF BULK AT MOST 1048576: true; the input reads as it did. -/
def fnExactReplyReadUptoRow : OpenClaim := { program := "ytckmbbbdahgedaa", sum := "7db749f198047f52920d0e5eeebc63d057ab50481651baf33d25f65d87823cfe", func := "loop.example/g00663/laws.FnExactReplyRead", spec := "fnExactReplyRead", unfollowed := true, recurses := true, apart := false, narrowed := true }
def FnExactReplyReadUptoSaid : Prop := fnExactReplyReadUptoRow.holds Try.pinned (OpenSpec.upto fnExactReplyReadSpec)

end Rows
end Go.Proofs.Ytckmbbbdahgedaa
