/-
  No cell of these rows narrows 'for every input' (looked for: loops, veiled, ifaces, maps, wideKeys, modest, calm, conditions, laid).
  DERIVED. THE GIVEN ROWS OF THIS SEAT. 12 by the template 'for every input the law returns true; each argument reads behind the call as it read before'; 0 by the template 'total and deterministic' (their statements: YtcikkbcneeakiaaTotals.lean).
  GIVEN WITH THE SEED: the statements are not yours to turn. If you find one false, say at which input.
  Laid BY PROGRAM, IN A SANDBOX (cutbox-rows.mjs): the forced cells as the released guide's own fill.sh prints them over the translation 8c3ff50794814362… (all of the seat's roots in one cut). By AI agents, Wed Nov 11 2026. No macro, syntax, notation, axiom, sorry.
-/
import Derived.Test.YtcikkbcneeakiaaChecked
import GoSem.Claim
import GoSem.ClaimJoined
import GoSem.ClaimMapViews
import Derived.JoinedTies
import Derived.KernelRfl
namespace Go.Proofs.Ytcikkbcneeakiaa
/- THE CELL 'sum', in the pinned program and in every row, IS THE sha256 OF THE DUMP (.gsa) THAT YtcikkbcneeakiaaProg.lean LOADS. Nothing in Lean hashes anything: it is a label: what it is worth is what the hold of that sum in a sandbox is worth. -/
noncomputable def Try.pinned : Pinned := { name := "ytcikkbcneeakiaa", sum := "8c3ff507948143623ab18fd2ccb74ce60293686a5ade2091dd67ff687102ba98", checked := Try.checked }
namespace Rows
def none {H : Type} : Left H := { results := [], args := [] }

/-- 'laws.FnPaired': WHATEVER THE INPUT: true; the input reads as it did. -/
def fnPairedSpec : ChangeSpec := { name := "fnPaired", fn := fun _ => fun
  | [d] => { results := [.lit (.bool true)], args := [d] }
  | _ => none }
def fnPairedRow : OpenClaim := { program := "ytcikkbcneeakiaa", sum := "8c3ff507948143623ab18fd2ccb74ce60293686a5ade2091dd67ff687102ba98", func := "loop.example/g00663/laws.FnPaired", spec := "fnPaired", unfollowed := true, recurses := true, apart := false }
def FnPairedSaid : Prop := fnPairedRow.holds Try.pinned (OpenSpec.ofChange fnPairedSpec)

/-- ITS FALSE NEIGHBOUR: 'it returns false'. Refute it at one input. -/
def fnPairedWrong : ChangeSpec := { name := "fnPaired", fn := fun _ => fun
  | [d] => { results := [.lit (.bool false)], args := [d] }
  | _ => none }
def FnPairedWrongFalsely : Prop := fnPairedRow.holds Try.pinned (OpenSpec.ofChange fnPairedWrong)

/-- 'laws.FnShelfBook': WHATEVER THE INPUT: true; the input reads as it did. -/
def fnShelfBookSpec : ChangeSpec := { name := "fnShelfBook", fn := fun _ => fun
  | [d] => { results := [.lit (.bool true)], args := [d] }
  | _ => none }
def fnShelfBookRow : OpenClaim := { program := "ytcikkbcneeakiaa", sum := "8c3ff507948143623ab18fd2ccb74ce60293686a5ade2091dd67ff687102ba98", func := "loop.example/g00663/laws.FnShelfBook", spec := "fnShelfBook", unfollowed := true, recurses := true, apart := false }
def FnShelfBookSaid : Prop := fnShelfBookRow.holds Try.pinned (OpenSpec.ofChange fnShelfBookSpec)

/-- ITS FALSE NEIGHBOUR: 'it returns false'. Refute it at one input. -/
def fnShelfBookWrong : ChangeSpec := { name := "fnShelfBook", fn := fun _ => fun
  | [d] => { results := [.lit (.bool false)], args := [d] }
  | _ => none }
def FnShelfBookWrongFalsely : Prop := fnShelfBookRow.holds Try.pinned (OpenSpec.ofChange fnShelfBookWrong)

/-- 'laws.FnExactBookOk': WHATEVER THE INPUT: true; the input reads as it did. -/
def fnExactBookOkSpec : ChangeSpec := { name := "fnExactBookOk", fn := fun _ => fun
  | [d] => { results := [.lit (.bool true)], args := [d] }
  | _ => none }
def fnExactBookOkRow : OpenClaim := { program := "ytcikkbcneeakiaa", sum := "8c3ff507948143623ab18fd2ccb74ce60293686a5ade2091dd67ff687102ba98", func := "loop.example/g00663/laws.FnExactBookOk", spec := "fnExactBookOk", apart := false }
def FnExactBookOkSaid : Prop := fnExactBookOkRow.holds Try.pinned (OpenSpec.ofChange fnExactBookOkSpec)

/-- ITS FALSE NEIGHBOUR: 'it returns false'. Refute it at one input. -/
def fnExactBookOkWrong : ChangeSpec := { name := "fnExactBookOk", fn := fun _ => fun
  | [d] => { results := [.lit (.bool false)], args := [d] }
  | _ => none }
def FnExactBookOkWrongFalsely : Prop := fnExactBookOkRow.holds Try.pinned (OpenSpec.ofChange fnExactBookOkWrong)

/-- 'laws.FnExactShelfRead': WHATEVER THE INPUT: true; the input reads as it did. -/
def fnExactShelfReadSpec : ChangeSpec := { name := "fnExactShelfRead", fn := fun _ => fun
  | [d] => { results := [.lit (.bool true)], args := [d] }
  | _ => none }
def fnExactShelfReadRow : OpenClaim := { program := "ytcikkbcneeakiaa", sum := "8c3ff507948143623ab18fd2ccb74ce60293686a5ade2091dd67ff687102ba98", func := "loop.example/g00663/laws.FnExactShelfRead", spec := "fnExactShelfRead", unfollowed := true, recurses := true, apart := false }
def FnExactShelfReadSaid : Prop := fnExactShelfReadRow.holds Try.pinned (OpenSpec.ofChange fnExactShelfReadSpec)

/-- ITS FALSE NEIGHBOUR: 'it returns false'. Refute it at one input. -/
def fnExactShelfReadWrong : ChangeSpec := { name := "fnExactShelfRead", fn := fun _ => fun
  | [d] => { results := [.lit (.bool false)], args := [d] }
  | _ => none }
def FnExactShelfReadWrongFalsely : Prop := fnExactShelfReadRow.holds Try.pinned (OpenSpec.ofChange fnExactShelfReadWrong)

/-- 'laws.FnExactOramNew': WHATEVER THE INPUT: true; the input reads as it did. -/
def fnExactOramNewSpec : ChangeSpec := { name := "fnExactOramNew", fn := fun _ => fun
  | [d1, d2, d3] => { results := [.lit (.bool true)], args := [d1, d2, d3] }
  | _ => none }
def fnExactOramNewRow : OpenClaim := { program := "ytcikkbcneeakiaa", sum := "8c3ff507948143623ab18fd2ccb74ce60293686a5ade2091dd67ff687102ba98", func := "loop.example/g00663/laws.FnExactOramNew", spec := "fnExactOramNew", apart := false }
def FnExactOramNewSaid : Prop := fnExactOramNewRow.holds Try.pinned (OpenSpec.ofChange fnExactOramNewSpec)

/-- ITS FALSE NEIGHBOUR: 'it returns false'. Refute it at one input. -/
def fnExactOramNewWrong : ChangeSpec := { name := "fnExactOramNew", fn := fun _ => fun
  | [d1, d2, d3] => { results := [.lit (.bool false)], args := [d1, d2, d3] }
  | _ => none }
def FnExactOramNewWrongFalsely : Prop := fnExactOramNewRow.holds Try.pinned (OpenSpec.ofChange fnExactOramNewWrong)

/-- 'laws.FnExactBookFind': WHATEVER THE INPUT: true; the input reads as it did. -/
def fnExactBookFindSpec : ChangeSpec := { name := "fnExactBookFind", fn := fun _ => fun
  | [d1, d2] => { results := [.lit (.bool true)], args := [d1, d2] }
  | _ => none }
def fnExactBookFindRow : OpenClaim := { program := "ytcikkbcneeakiaa", sum := "8c3ff507948143623ab18fd2ccb74ce60293686a5ade2091dd67ff687102ba98", func := "loop.example/g00663/laws.FnExactBookFind", spec := "fnExactBookFind", unfollowed := true, recurses := true, apart := false }
def FnExactBookFindSaid : Prop := fnExactBookFindRow.holds Try.pinned (OpenSpec.ofChange fnExactBookFindSpec)

/-- ITS FALSE NEIGHBOUR: 'it returns false'. Refute it at one input. -/
def fnExactBookFindWrong : ChangeSpec := { name := "fnExactBookFind", fn := fun _ => fun
  | [d1, d2] => { results := [.lit (.bool false)], args := [d1, d2] }
  | _ => none }
def FnExactBookFindWrongFalsely : Prop := fnExactBookFindRow.holds Try.pinned (OpenSpec.ofChange fnExactBookFindWrong)

/-- 'laws.FnExactReplyOk': WHATEVER THE INPUT: true; the input reads as it did. -/
def fnExactReplyOkSpec : ChangeSpec := { name := "fnExactReplyOk", fn := fun _ => fun
  | [d1, d2, d3] => { results := [.lit (.bool true)], args := [d1, d2, d3] }
  | _ => none }
def fnExactReplyOkRow : OpenClaim := { program := "ytcikkbcneeakiaa", sum := "8c3ff507948143623ab18fd2ccb74ce60293686a5ade2091dd67ff687102ba98", func := "loop.example/g00663/laws.FnExactReplyOk", spec := "fnExactReplyOk", unfollowed := true, recurses := true, apart := false }
def FnExactReplyOkSaid : Prop := fnExactReplyOkRow.holds Try.pinned (OpenSpec.ofChange fnExactReplyOkSpec)

/-- ITS FALSE NEIGHBOUR: 'it returns false'. Refute it at one input. -/
def fnExactReplyOkWrong : ChangeSpec := { name := "fnExactReplyOk", fn := fun _ => fun
  | [d1, d2, d3] => { results := [.lit (.bool false)], args := [d1, d2, d3] }
  | _ => none }
def FnExactReplyOkWrongFalsely : Prop := fnExactReplyOkRow.holds Try.pinned (OpenSpec.ofChange fnExactReplyOkWrong)

/-- 'laws.FnExactEvictPlan': WHATEVER THE INPUT: true; the input reads as it did. -/
def fnExactEvictPlanSpec : ChangeSpec := { name := "fnExactEvictPlan", fn := fun _ => fun
  | [d1, d2, d3, d4] => { results := [.lit (.bool true)], args := [d1, d2, d3, d4] }
  | _ => none }
def fnExactEvictPlanRow : OpenClaim := { program := "ytcikkbcneeakiaa", sum := "8c3ff507948143623ab18fd2ccb74ce60293686a5ade2091dd67ff687102ba98", func := "loop.example/g00663/laws.FnExactEvictPlan", spec := "fnExactEvictPlan", unfollowed := true, recurses := true, apart := false }
def FnExactEvictPlanSaid : Prop := fnExactEvictPlanRow.holds Try.pinned (OpenSpec.ofChange fnExactEvictPlanSpec)

/-- ITS FALSE NEIGHBOUR: 'it returns false'. Refute it at one input. -/
def fnExactEvictPlanWrong : ChangeSpec := { name := "fnExactEvictPlan", fn := fun _ => fun
  | [d1, d2, d3, d4] => { results := [.lit (.bool false)], args := [d1, d2, d3, d4] }
  | _ => none }
def FnExactEvictPlanWrongFalsely : Prop := fnExactEvictPlanRow.holds Try.pinned (OpenSpec.ofChange fnExactEvictPlanWrong)

/-- 'laws.FnExactEvictRest': WHATEVER THE INPUT: true; the input reads as it did. -/
def fnExactEvictRestSpec : ChangeSpec := { name := "fnExactEvictRest", fn := fun _ => fun
  | [d1, d2, d3, d4] => { results := [.lit (.bool true)], args := [d1, d2, d3, d4] }
  | _ => none }
def fnExactEvictRestRow : OpenClaim := { program := "ytcikkbcneeakiaa", sum := "8c3ff507948143623ab18fd2ccb74ce60293686a5ade2091dd67ff687102ba98", func := "loop.example/g00663/laws.FnExactEvictRest", spec := "fnExactEvictRest", unfollowed := true, recurses := true, apart := false }
def FnExactEvictRestSaid : Prop := fnExactEvictRestRow.holds Try.pinned (OpenSpec.ofChange fnExactEvictRestSpec)

/-- ITS FALSE NEIGHBOUR: 'it returns false'. Refute it at one input. -/
def fnExactEvictRestWrong : ChangeSpec := { name := "fnExactEvictRest", fn := fun _ => fun
  | [d1, d2, d3, d4] => { results := [.lit (.bool false)], args := [d1, d2, d3, d4] }
  | _ => none }
def FnExactEvictRestWrongFalsely : Prop := fnExactEvictRestRow.holds Try.pinned (OpenSpec.ofChange fnExactEvictRestWrong)

/-- 'laws.FnExactStashPut': WHATEVER THE INPUT: true; the input reads as it did. -/
def fnExactStashPutSpec : ChangeSpec := { name := "fnExactStashPut", fn := fun _ => fun
  | [d1, d2, d3, d4] => { results := [.lit (.bool true)], args := [d1, d2, d3, d4] }
  | _ => none }
def fnExactStashPutRow : OpenClaim := { program := "ytcikkbcneeakiaa", sum := "8c3ff507948143623ab18fd2ccb74ce60293686a5ade2091dd67ff687102ba98", func := "loop.example/g00663/laws.FnExactStashPut", spec := "fnExactStashPut", inPlace := ["slices.overlaps[loop.example/g00663/impl.Block]"], unfollowed := true, recurses := true, apart := false }
def FnExactStashPutSaid : Prop := fnExactStashPutRow.holds Try.pinned (OpenSpec.ofChange fnExactStashPutSpec)

/-- ITS FALSE NEIGHBOUR: 'it returns false'. Refute it at one input. -/
def fnExactStashPutWrong : ChangeSpec := { name := "fnExactStashPut", fn := fun _ => fun
  | [d1, d2, d3, d4] => { results := [.lit (.bool false)], args := [d1, d2, d3, d4] }
  | _ => none }
def FnExactStashPutWrongFalsely : Prop := fnExactStashPutRow.holds Try.pinned (OpenSpec.ofChange fnExactStashPutWrong)

/-- 'laws.FnExactScanOk': WHATEVER THE INPUT: true; the input reads as it did. -/
def fnExactScanOkSpec : ChangeSpec := { name := "fnExactScanOk", fn := fun _ => fun
  | [d] => { results := [.lit (.bool true)], args := [d] }
  | _ => none }
def fnExactScanOkRow : OpenClaim := { program := "ytcikkbcneeakiaa", sum := "8c3ff507948143623ab18fd2ccb74ce60293686a5ade2091dd67ff687102ba98", func := "loop.example/g00663/laws.FnExactScanOk", spec := "fnExactScanOk", unfollowed := true, recurses := true, apart := false }
def FnExactScanOkSaid : Prop := fnExactScanOkRow.holds Try.pinned (OpenSpec.ofChange fnExactScanOkSpec)

/-- ITS FALSE NEIGHBOUR: 'it returns false'. Refute it at one input. -/
def fnExactScanOkWrong : ChangeSpec := { name := "fnExactScanOk", fn := fun _ => fun
  | [d] => { results := [.lit (.bool false)], args := [d] }
  | _ => none }
def FnExactScanOkWrongFalsely : Prop := fnExactScanOkRow.holds Try.pinned (OpenSpec.ofChange fnExactScanOkWrong)

/-- 'laws.FnStashBook': WHATEVER THE INPUT: true; the input reads as it did. -/
def fnStashBookSpec : ChangeSpec := { name := "fnStashBook", fn := fun _ => fun
  | [d] => { results := [.lit (.bool true)], args := [d] }
  | _ => none }
def fnStashBookRow : OpenClaim := { program := "ytcikkbcneeakiaa", sum := "8c3ff507948143623ab18fd2ccb74ce60293686a5ade2091dd67ff687102ba98", func := "loop.example/g00663/laws.FnStashBook", spec := "fnStashBook", inPlace := ["slices.overlaps[loop.example/g00663/impl.Block]"], unfollowed := true, recurses := true, apart := false }
def FnStashBookSaid : Prop := fnStashBookRow.holds Try.pinned (OpenSpec.ofChange fnStashBookSpec)

/-- ITS FALSE NEIGHBOUR: 'it returns false'. Refute it at one input. -/
def fnStashBookWrong : ChangeSpec := { name := "fnStashBook", fn := fun _ => fun
  | [d] => { results := [.lit (.bool false)], args := [d] }
  | _ => none }
def FnStashBookWrongFalsely : Prop := fnStashBookRow.holds Try.pinned (OpenSpec.ofChange fnStashBookWrong)

/- THE SECOND FORM. 'bulk': how many values and letters a reading holds, each counted each time it is reached (what is shared counts as often as it is met; a slice's spare places count too). A statement '..UptoSaid' is the law's where the arguments, and the package variables that the reading takes, are together of bulk at most 1048576: NARROWER than '..Said'. Prove '..Said' where nothing that the law and all that it calls make is longer than what came in: it says more and counts as full. Else prove '..UptoSaid'. A law counts once. -/
mutual
def uptoBulk {H : Type} : DataW H → Nat
  | .lit (.string bytes) => bytes.length + 1
  | .lit _ => 1
  | .nil => 1
  | .ptr d => uptoBulk d + 1
  | .slice elems spare => uptoBulkAll elems + uptoBulkAll spare + 1
  | .agg parts => uptoBulkAll parts + 1
  | .iface _ d => uptoBulk d + 1
  | .map entries => uptoBulkEntries entries + 1
  | .held _ => 1
def uptoBulkAll {H : Type} : List (DataW H) → Nat
  | [] => 0
  | d :: r => uptoBulk d + uptoBulkAll r
def uptoBulkEntries {H : Type} : List (Lit × DataW H) → Nat
  | [] => 0
  | x :: r => uptoBulkEntry x + uptoBulkEntries r
def uptoBulkEntry {H : Type} : Lit × DataW H → Nat
  | (.string bytes, d) => bytes.length + uptoBulk d + 1
  | (_, d) => uptoBulk d + 1
 end
def uptoSmall : (H : Type) → List (DataW H) → Bool := fun _ ds => decide (uptoBulkAll ds ≤ 1048576)
def OpenSpec.upto (s : _root_.Go.ChangeSpec) : _root_.Go.OpenSpec := { _root_.Go.OpenSpec.ofChange s with cond := some uptoSmall }

/-- 'laws.FnPaired', WHERE WHAT IT READS IS OF BULK AT MOST 1048576: true; the input reads as it did. -/
def fnPairedUptoRow : OpenClaim := { program := "ytcikkbcneeakiaa", sum := "8c3ff507948143623ab18fd2ccb74ce60293686a5ade2091dd67ff687102ba98", func := "loop.example/g00663/laws.FnPaired", spec := "fnPaired", unfollowed := true, recurses := true, apart := false, narrowed := true }
def FnPairedUptoSaid : Prop := fnPairedUptoRow.holds Try.pinned (OpenSpec.upto fnPairedSpec)

/-- 'laws.FnShelfBook', WHERE WHAT IT READS IS OF BULK AT MOST 1048576: true; the input reads as it did. -/
def fnShelfBookUptoRow : OpenClaim := { program := "ytcikkbcneeakiaa", sum := "8c3ff507948143623ab18fd2ccb74ce60293686a5ade2091dd67ff687102ba98", func := "loop.example/g00663/laws.FnShelfBook", spec := "fnShelfBook", unfollowed := true, recurses := true, apart := false, narrowed := true }
def FnShelfBookUptoSaid : Prop := fnShelfBookUptoRow.holds Try.pinned (OpenSpec.upto fnShelfBookSpec)

/-- 'laws.FnExactBookOk', WHERE WHAT IT READS IS OF BULK AT MOST 1048576: true; the input reads as it did. -/
def fnExactBookOkUptoRow : OpenClaim := { program := "ytcikkbcneeakiaa", sum := "8c3ff507948143623ab18fd2ccb74ce60293686a5ade2091dd67ff687102ba98", func := "loop.example/g00663/laws.FnExactBookOk", spec := "fnExactBookOk", apart := false, narrowed := true }
def FnExactBookOkUptoSaid : Prop := fnExactBookOkUptoRow.holds Try.pinned (OpenSpec.upto fnExactBookOkSpec)

/-- 'laws.FnExactShelfRead', WHERE WHAT IT READS IS OF BULK AT MOST 1048576: true; the input reads as it did. -/
def fnExactShelfReadUptoRow : OpenClaim := { program := "ytcikkbcneeakiaa", sum := "8c3ff507948143623ab18fd2ccb74ce60293686a5ade2091dd67ff687102ba98", func := "loop.example/g00663/laws.FnExactShelfRead", spec := "fnExactShelfRead", unfollowed := true, recurses := true, apart := false, narrowed := true }
def FnExactShelfReadUptoSaid : Prop := fnExactShelfReadUptoRow.holds Try.pinned (OpenSpec.upto fnExactShelfReadSpec)

/-- 'laws.FnExactOramNew', WHERE WHAT IT READS IS OF BULK AT MOST 1048576: true; the input reads as it did. -/
def fnExactOramNewUptoRow : OpenClaim := { program := "ytcikkbcneeakiaa", sum := "8c3ff507948143623ab18fd2ccb74ce60293686a5ade2091dd67ff687102ba98", func := "loop.example/g00663/laws.FnExactOramNew", spec := "fnExactOramNew", apart := false, narrowed := true }
def FnExactOramNewUptoSaid : Prop := fnExactOramNewUptoRow.holds Try.pinned (OpenSpec.upto fnExactOramNewSpec)

/-- 'laws.FnExactBookFind', WHERE WHAT IT READS IS OF BULK AT MOST 1048576: true; the input reads as it did. -/
def fnExactBookFindUptoRow : OpenClaim := { program := "ytcikkbcneeakiaa", sum := "8c3ff507948143623ab18fd2ccb74ce60293686a5ade2091dd67ff687102ba98", func := "loop.example/g00663/laws.FnExactBookFind", spec := "fnExactBookFind", unfollowed := true, recurses := true, apart := false, narrowed := true }
def FnExactBookFindUptoSaid : Prop := fnExactBookFindUptoRow.holds Try.pinned (OpenSpec.upto fnExactBookFindSpec)

/-- 'laws.FnExactReplyOk', WHERE WHAT IT READS IS OF BULK AT MOST 1048576: true; the input reads as it did. -/
def fnExactReplyOkUptoRow : OpenClaim := { program := "ytcikkbcneeakiaa", sum := "8c3ff507948143623ab18fd2ccb74ce60293686a5ade2091dd67ff687102ba98", func := "loop.example/g00663/laws.FnExactReplyOk", spec := "fnExactReplyOk", unfollowed := true, recurses := true, apart := false, narrowed := true }
def FnExactReplyOkUptoSaid : Prop := fnExactReplyOkUptoRow.holds Try.pinned (OpenSpec.upto fnExactReplyOkSpec)

/-- 'laws.FnExactEvictPlan', WHERE WHAT IT READS IS OF BULK AT MOST 1048576: true; the input reads as it did. -/
def fnExactEvictPlanUptoRow : OpenClaim := { program := "ytcikkbcneeakiaa", sum := "8c3ff507948143623ab18fd2ccb74ce60293686a5ade2091dd67ff687102ba98", func := "loop.example/g00663/laws.FnExactEvictPlan", spec := "fnExactEvictPlan", unfollowed := true, recurses := true, apart := false, narrowed := true }
def FnExactEvictPlanUptoSaid : Prop := fnExactEvictPlanUptoRow.holds Try.pinned (OpenSpec.upto fnExactEvictPlanSpec)

/-- 'laws.FnExactEvictRest', WHERE WHAT IT READS IS OF BULK AT MOST 1048576: true; the input reads as it did. -/
def fnExactEvictRestUptoRow : OpenClaim := { program := "ytcikkbcneeakiaa", sum := "8c3ff507948143623ab18fd2ccb74ce60293686a5ade2091dd67ff687102ba98", func := "loop.example/g00663/laws.FnExactEvictRest", spec := "fnExactEvictRest", unfollowed := true, recurses := true, apart := false, narrowed := true }
def FnExactEvictRestUptoSaid : Prop := fnExactEvictRestUptoRow.holds Try.pinned (OpenSpec.upto fnExactEvictRestSpec)

/-- 'laws.FnExactStashPut', WHERE WHAT IT READS IS OF BULK AT MOST 1048576: true; the input reads as it did. -/
def fnExactStashPutUptoRow : OpenClaim := { program := "ytcikkbcneeakiaa", sum := "8c3ff507948143623ab18fd2ccb74ce60293686a5ade2091dd67ff687102ba98", func := "loop.example/g00663/laws.FnExactStashPut", spec := "fnExactStashPut", inPlace := ["slices.overlaps[loop.example/g00663/impl.Block]"], unfollowed := true, recurses := true, apart := false, narrowed := true }
def FnExactStashPutUptoSaid : Prop := fnExactStashPutUptoRow.holds Try.pinned (OpenSpec.upto fnExactStashPutSpec)

/-- 'laws.FnExactScanOk', WHERE WHAT IT READS IS OF BULK AT MOST 1048576: true; the input reads as it did. -/
def fnExactScanOkUptoRow : OpenClaim := { program := "ytcikkbcneeakiaa", sum := "8c3ff507948143623ab18fd2ccb74ce60293686a5ade2091dd67ff687102ba98", func := "loop.example/g00663/laws.FnExactScanOk", spec := "fnExactScanOk", unfollowed := true, recurses := true, apart := false, narrowed := true }
def FnExactScanOkUptoSaid : Prop := fnExactScanOkUptoRow.holds Try.pinned (OpenSpec.upto fnExactScanOkSpec)

/-- 'laws.FnStashBook', WHERE WHAT IT READS IS OF BULK AT MOST 1048576: true; the input reads as it did. -/
def fnStashBookUptoRow : OpenClaim := { program := "ytcikkbcneeakiaa", sum := "8c3ff507948143623ab18fd2ccb74ce60293686a5ade2091dd67ff687102ba98", func := "loop.example/g00663/laws.FnStashBook", spec := "fnStashBook", inPlace := ["slices.overlaps[loop.example/g00663/impl.Block]"], unfollowed := true, recurses := true, apart := false, narrowed := true }
def FnStashBookUptoSaid : Prop := fnStashBookUptoRow.holds Try.pinned (OpenSpec.upto fnStashBookSpec)

end Rows
end Go.Proofs.Ytcikkbcneeakiaa
