/-
  No cell of these rows narrows 'for every input' (looked for: loops, veiled, ifaces, maps, wideKeys, modest, calm, conditions, laid).
  DERIVED. THE GIVEN ROWS OF THIS SEAT. 7 by the template 'for every input the law returns true; each argument reads behind the call as it read before'; 0 by the template 'total and deterministic' (their statements: YtlcggckcfaiolaaTotals.lean).
  GIVEN WITH THE SEED: the statements are not yours to turn. If you find one false, say at which input.
  Laid BY PROGRAM, IN A SANDBOX (cutbox-rows.mjs): the forced cells as the released guide's own fill.sh prints them over the translation d8b0d48a6b70f570… (all of the seat's roots in one cut). By AI agents, Wed Nov 11 2026. No macro, syntax, notation, axiom, sorry.
-/
import Derived.Test.YtlcggckcfaiolaaChecked
import GoSem.Claim
import GoSem.ClaimJoined
import GoSem.ClaimMapViews
import Derived.JoinedTies
import Derived.KernelRfl
namespace Go.Proofs.Ytlcggckcfaiolaa
/- THE CELL 'sum', in the pinned program and in every row, IS THE sha256 OF THE DUMP (.gsa) THAT YtlcggckcfaiolaaProg.lean LOADS. Nothing in Lean hashes anything: it is a label: what it is worth is what the hold of that sum in a sandbox is worth. -/
noncomputable def Try.pinned : Pinned := { name := "ytlcggckcfaiolaa", sum := "d8b0d48a6b70f5701bef160caf0b5e0b7656a3643fc9e030519222003d5b40d0", checked := Try.checked }
namespace Rows
def none {H : Type} : Left H := { results := [], args := [] }

/-- 'laws.FnExactSeqCounts': WHATEVER THE INPUT: true; the input reads as it did. -/
def fnExactSeqCountsSpec : ChangeSpec := { name := "fnExactSeqCounts", fn := fun _ => fun
  | [d1, d2, d3] => { results := [.lit (.bool true)], args := [d1, d2, d3] }
  | _ => none }
def fnExactSeqCountsRow : OpenClaim := { program := "ytlcggckcfaiolaa", sum := "d8b0d48a6b70f5701bef160caf0b5e0b7656a3643fc9e030519222003d5b40d0", func := "loop.example/g00663/laws.FnExactSeqCounts", spec := "fnExactSeqCounts", unfollowed := true, recurses := true, apart := false }
def FnExactSeqCountsSaid : Prop := fnExactSeqCountsRow.holds Try.pinned (OpenSpec.ofChange fnExactSeqCountsSpec)

/-- ITS FALSE NEIGHBOUR: 'it returns false'. Refute it at one input. -/
def fnExactSeqCountsWrong : ChangeSpec := { name := "fnExactSeqCounts", fn := fun _ => fun
  | [d1, d2, d3] => { results := [.lit (.bool false)], args := [d1, d2, d3] }
  | _ => none }
def FnExactSeqCountsWrongFalsely : Prop := fnExactSeqCountsRow.holds Try.pinned (OpenSpec.ofChange fnExactSeqCountsWrong)

/-- 'laws.FnExactBookTop': WHATEVER THE INPUT: true; the input reads as it did. -/
def fnExactBookTopSpec : ChangeSpec := { name := "fnExactBookTop", fn := fun _ => fun
  | [d1, d2, d3, d4] => { results := [.lit (.bool true)], args := [d1, d2, d3, d4] }
  | _ => none }
def fnExactBookTopRow : OpenClaim := { program := "ytlcggckcfaiolaa", sum := "d8b0d48a6b70f5701bef160caf0b5e0b7656a3643fc9e030519222003d5b40d0", func := "loop.example/g00663/laws.FnExactBookTop", spec := "fnExactBookTop", unfollowed := true, recurses := true, apart := false }
def FnExactBookTopSaid : Prop := fnExactBookTopRow.holds Try.pinned (OpenSpec.ofChange fnExactBookTopSpec)

/-- ITS FALSE NEIGHBOUR: 'it returns false'. Refute it at one input. -/
def fnExactBookTopWrong : ChangeSpec := { name := "fnExactBookTop", fn := fun _ => fun
  | [d1, d2, d3, d4] => { results := [.lit (.bool false)], args := [d1, d2, d3, d4] }
  | _ => none }
def FnExactBookTopWrongFalsely : Prop := fnExactBookTopRow.holds Try.pinned (OpenSpec.ofChange fnExactBookTopWrong)

/-- 'laws.FnExactOramOk': WHATEVER THE INPUT: true; the input reads as it did. -/
def fnExactOramOkSpec : ChangeSpec := { name := "fnExactOramOk", fn := fun _ => fun
  | [d] => { results := [.lit (.bool true)], args := [d] }
  | _ => none }
def fnExactOramOkRow : OpenClaim := { program := "ytlcggckcfaiolaa", sum := "d8b0d48a6b70f5701bef160caf0b5e0b7656a3643fc9e030519222003d5b40d0", func := "loop.example/g00663/laws.FnExactOramOk", spec := "fnExactOramOk", inPlace := ["slices.overlaps[loop.example/g00663/impl.Block]"], unfollowed := true, recurses := true, apart := false }
def FnExactOramOkSaid : Prop := fnExactOramOkRow.holds Try.pinned (OpenSpec.ofChange fnExactOramOkSpec)

/-- ITS FALSE NEIGHBOUR: 'it returns false'. Refute it at one input. -/
def fnExactOramOkWrong : ChangeSpec := { name := "fnExactOramOk", fn := fun _ => fun
  | [d] => { results := [.lit (.bool false)], args := [d] }
  | _ => none }
def FnExactOramOkWrongFalsely : Prop := fnExactOramOkRow.holds Try.pinned (OpenSpec.ofChange fnExactOramOkWrong)

/-- 'laws.FnExactOramBlocks': WHATEVER THE INPUT: true; the input reads as it did. -/
def fnExactOramBlocksSpec : ChangeSpec := { name := "fnExactOramBlocks", fn := fun _ => fun
  | [d] => { results := [.lit (.bool true)], args := [d] }
  | _ => none }
def fnExactOramBlocksRow : OpenClaim := { program := "ytlcggckcfaiolaa", sum := "d8b0d48a6b70f5701bef160caf0b5e0b7656a3643fc9e030519222003d5b40d0", func := "loop.example/g00663/laws.FnExactOramBlocks", spec := "fnExactOramBlocks", inPlace := ["slices.overlaps[loop.example/g00663/impl.Block]"], unfollowed := true, recurses := true, apart := false }
def FnExactOramBlocksSaid : Prop := fnExactOramBlocksRow.holds Try.pinned (OpenSpec.ofChange fnExactOramBlocksSpec)

/-- ITS FALSE NEIGHBOUR: 'it returns false'. Refute it at one input. -/
def fnExactOramBlocksWrong : ChangeSpec := { name := "fnExactOramBlocks", fn := fun _ => fun
  | [d] => { results := [.lit (.bool false)], args := [d] }
  | _ => none }
def FnExactOramBlocksWrongFalsely : Prop := fnExactOramBlocksRow.holds Try.pinned (OpenSpec.ofChange fnExactOramBlocksWrong)

/-- 'laws.FnExactDeepOk': WHATEVER THE INPUT: true; the input reads as it did. -/
def fnExactDeepOkSpec : ChangeSpec := { name := "fnExactDeepOk", fn := fun _ => fun
  | [d] => { results := [.lit (.bool true)], args := [d] }
  | _ => none }
def fnExactDeepOkRow : OpenClaim := { program := "ytlcggckcfaiolaa", sum := "d8b0d48a6b70f5701bef160caf0b5e0b7656a3643fc9e030519222003d5b40d0", func := "loop.example/g00663/laws.FnExactDeepOk", spec := "fnExactDeepOk", inPlace := ["slices.overlaps[loop.example/g00663/impl.Block]"], unfollowed := true, recurses := true, apart := false }
def FnExactDeepOkSaid : Prop := fnExactDeepOkRow.holds Try.pinned (OpenSpec.ofChange fnExactDeepOkSpec)

/-- ITS FALSE NEIGHBOUR: 'it returns false'. Refute it at one input. -/
def fnExactDeepOkWrong : ChangeSpec := { name := "fnExactDeepOk", fn := fun _ => fun
  | [d] => { results := [.lit (.bool false)], args := [d] }
  | _ => none }
def FnExactDeepOkWrongFalsely : Prop := fnExactDeepOkRow.holds Try.pinned (OpenSpec.ofChange fnExactDeepOkWrong)

/-- 'laws.FnExactScanPut': WHATEVER THE INPUT: true; the input reads as it did. -/
def fnExactScanPutSpec : ChangeSpec := { name := "fnExactScanPut", fn := fun _ => fun
  | [d1, d2, d3] => { results := [.lit (.bool true)], args := [d1, d2, d3] }
  | _ => none }
def fnExactScanPutRow : OpenClaim := { program := "ytlcggckcfaiolaa", sum := "d8b0d48a6b70f5701bef160caf0b5e0b7656a3643fc9e030519222003d5b40d0", func := "loop.example/g00663/laws.FnExactScanPut", spec := "fnExactScanPut", unfollowed := true, recurses := true, apart := false }
def FnExactScanPutSaid : Prop := fnExactScanPutRow.holds Try.pinned (OpenSpec.ofChange fnExactScanPutSpec)

/-- ITS FALSE NEIGHBOUR: 'it returns false'. Refute it at one input. -/
def fnExactScanPutWrong : ChangeSpec := { name := "fnExactScanPut", fn := fun _ => fun
  | [d1, d2, d3] => { results := [.lit (.bool false)], args := [d1, d2, d3] }
  | _ => none }
def FnExactScanPutWrongFalsely : Prop := fnExactScanPutRow.holds Try.pinned (OpenSpec.ofChange fnExactScanPutWrong)

/-- 'laws.FnExactScanEntries': WHATEVER THE INPUT: true; the input reads as it did. -/
def fnExactScanEntriesSpec : ChangeSpec := { name := "fnExactScanEntries", fn := fun _ => fun
  | [d] => { results := [.lit (.bool true)], args := [d] }
  | _ => none }
def fnExactScanEntriesRow : OpenClaim := { program := "ytlcggckcfaiolaa", sum := "d8b0d48a6b70f5701bef160caf0b5e0b7656a3643fc9e030519222003d5b40d0", func := "loop.example/g00663/laws.FnExactScanEntries", spec := "fnExactScanEntries", unfollowed := true, recurses := true, apart := false }
def FnExactScanEntriesSaid : Prop := fnExactScanEntriesRow.holds Try.pinned (OpenSpec.ofChange fnExactScanEntriesSpec)

/-- ITS FALSE NEIGHBOUR: 'it returns false'. Refute it at one input. -/
def fnExactScanEntriesWrong : ChangeSpec := { name := "fnExactScanEntries", fn := fun _ => fun
  | [d] => { results := [.lit (.bool false)], args := [d] }
  | _ => none }
def FnExactScanEntriesWrongFalsely : Prop := fnExactScanEntriesRow.holds Try.pinned (OpenSpec.ofChange fnExactScanEntriesWrong)

/- THE SECOND FORM. 'bulk': how many values and letters a reading holds, each counted each time it is reached (what is shared counts as often as it is met; a slice's spare places count too). A statement '..UptoSaid' is the law's where the arguments, and the package variables that the reading takes, are together of bulk at most 1048576: NARROWER than '..Said'. Prove '..Said' where nothing that the law and all that it calls make is longer than what came in: it says more and counts as full. Else prove '..UptoSaid'. A law counts once. -/
mutual
def uptoBulk {H : Type} : DataW H → Nat
  | .lit (.string bytes) => bytes.length + 1
  | .lit _ => 1
  | .nil => 1
  | .ptr d => uptoBulk d + 1
  | .slice elems spare => uptoBulkAll elems + uptoBulkAll spare + 1
  | .agg parts => uptoBulkAll parts + 1
  | .iface _ d => uptoBulk d + 1
  | .map entries => uptoBulkEntries entries + 1
  | .held _ => 1
def uptoBulkAll {H : Type} : List (DataW H) → Nat
  | [] => 0
  | d :: r => uptoBulk d + uptoBulkAll r
def uptoBulkEntries {H : Type} : List (Lit × DataW H) → Nat
  | [] => 0
  | x :: r => uptoBulkEntry x + uptoBulkEntries r
def uptoBulkEntry {H : Type} : Lit × DataW H → Nat
  | (.string bytes, d) => bytes.length + uptoBulk d + 1
  | (_, d) => uptoBulk d + 1
 end
def uptoSmall : (H : Type) → List (DataW H) → Bool := fun _ ds => decide (uptoBulkAll ds ≤ 1048576)
def OpenSpec.upto (s : _root_.Go.ChangeSpec) : _root_.Go.OpenSpec := { _root_.Go.OpenSpec.ofChange s with cond := some uptoSmall }

/-- 'laws.FnExactSeqCounts', WHERE WHAT IT READS IS OF BULK AT MOST 1048576: true; the input reads as it did. -/
def fnExactSeqCountsUptoRow : OpenClaim := { program := "ytlcggckcfaiolaa", sum := "d8b0d48a6b70f5701bef160caf0b5e0b7656a3643fc9e030519222003d5b40d0", func := "loop.example/g00663/laws.FnExactSeqCounts", spec := "fnExactSeqCounts", unfollowed := true, recurses := true, apart := false, narrowed := true }
def FnExactSeqCountsUptoSaid : Prop := fnExactSeqCountsUptoRow.holds Try.pinned (OpenSpec.upto fnExactSeqCountsSpec)

/-- 'laws.FnExactBookTop', WHERE WHAT IT READS IS OF BULK AT MOST 1048576: true; the input reads as it did. -/
def fnExactBookTopUptoRow : OpenClaim := { program := "ytlcggckcfaiolaa", sum := "d8b0d48a6b70f5701bef160caf0b5e0b7656a3643fc9e030519222003d5b40d0", func := "loop.example/g00663/laws.FnExactBookTop", spec := "fnExactBookTop", unfollowed := true, recurses := true, apart := false, narrowed := true }
def FnExactBookTopUptoSaid : Prop := fnExactBookTopUptoRow.holds Try.pinned (OpenSpec.upto fnExactBookTopSpec)

/-- 'laws.FnExactOramOk', WHERE WHAT IT READS IS OF BULK AT MOST 1048576: true; the input reads as it did. -/
def fnExactOramOkUptoRow : OpenClaim := { program := "ytlcggckcfaiolaa", sum := "d8b0d48a6b70f5701bef160caf0b5e0b7656a3643fc9e030519222003d5b40d0", func := "loop.example/g00663/laws.FnExactOramOk", spec := "fnExactOramOk", inPlace := ["slices.overlaps[loop.example/g00663/impl.Block]"], unfollowed := true, recurses := true, apart := false, narrowed := true }
def FnExactOramOkUptoSaid : Prop := fnExactOramOkUptoRow.holds Try.pinned (OpenSpec.upto fnExactOramOkSpec)

/-- 'laws.FnExactOramBlocks', WHERE WHAT IT READS IS OF BULK AT MOST 1048576: true; the input reads as it did. -/
def fnExactOramBlocksUptoRow : OpenClaim := { program := "ytlcggckcfaiolaa", sum := "d8b0d48a6b70f5701bef160caf0b5e0b7656a3643fc9e030519222003d5b40d0", func := "loop.example/g00663/laws.FnExactOramBlocks", spec := "fnExactOramBlocks", inPlace := ["slices.overlaps[loop.example/g00663/impl.Block]"], unfollowed := true, recurses := true, apart := false, narrowed := true }
def FnExactOramBlocksUptoSaid : Prop := fnExactOramBlocksUptoRow.holds Try.pinned (OpenSpec.upto fnExactOramBlocksSpec)

/-- 'laws.FnExactDeepOk', WHERE WHAT IT READS IS OF BULK AT MOST 1048576: true; the input reads as it did. -/
def fnExactDeepOkUptoRow : OpenClaim := { program := "ytlcggckcfaiolaa", sum := "d8b0d48a6b70f5701bef160caf0b5e0b7656a3643fc9e030519222003d5b40d0", func := "loop.example/g00663/laws.FnExactDeepOk", spec := "fnExactDeepOk", inPlace := ["slices.overlaps[loop.example/g00663/impl.Block]"], unfollowed := true, recurses := true, apart := false, narrowed := true }
def FnExactDeepOkUptoSaid : Prop := fnExactDeepOkUptoRow.holds Try.pinned (OpenSpec.upto fnExactDeepOkSpec)

/-- 'laws.FnExactScanPut', WHERE WHAT IT READS IS OF BULK AT MOST 1048576: true; the input reads as it did. -/
def fnExactScanPutUptoRow : OpenClaim := { program := "ytlcggckcfaiolaa", sum := "d8b0d48a6b70f5701bef160caf0b5e0b7656a3643fc9e030519222003d5b40d0", func := "loop.example/g00663/laws.FnExactScanPut", spec := "fnExactScanPut", unfollowed := true, recurses := true, apart := false, narrowed := true }
def FnExactScanPutUptoSaid : Prop := fnExactScanPutUptoRow.holds Try.pinned (OpenSpec.upto fnExactScanPutSpec)

/-- 'laws.FnExactScanEntries', WHERE WHAT IT READS IS OF BULK AT MOST 1048576: true; the input reads as it did. -/
def fnExactScanEntriesUptoRow : OpenClaim := { program := "ytlcggckcfaiolaa", sum := "d8b0d48a6b70f5701bef160caf0b5e0b7656a3643fc9e030519222003d5b40d0", func := "loop.example/g00663/laws.FnExactScanEntries", spec := "fnExactScanEntries", unfollowed := true, recurses := true, apart := false, narrowed := true }
def FnExactScanEntriesUptoSaid : Prop := fnExactScanEntriesUptoRow.holds Try.pinned (OpenSpec.upto fnExactScanEntriesSpec)

end Rows
end Go.Proofs.Ytlcggckcfaiolaa
