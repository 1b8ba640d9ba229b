/-
  No cell of these rows narrows 'for every input' (looked for: loops, veiled, ifaces, maps, wideKeys, modest, calm, conditions, laid).
  DERIVED. THE GIVEN ROWS OF THIS SEAT. 4 by the template 'for every input the law returns true; each argument reads behind the call as it read before'; 0 by the template 'total and deterministic' (their statements: YtlniheedmeaeeaaTotals.lean).
  GIVEN WITH THE SEED: the statements are not yours to turn. If you find one false, say at which input.
  Laid BY PROGRAM, IN A SANDBOX (cutbox-rows.mjs): the forced cells as the released guide's own fill.sh prints them over the translation 4e762c1e425ba248… (all of the seat's roots in one cut). By AI agents, Wed Nov 11 2026. No macro, syntax, notation, axiom, sorry.
-/
import Derived.Test.YtlniheedmeaeeaaChecked
import GoSem.Claim
import GoSem.ClaimJoined
import GoSem.ClaimMapViews
import Derived.JoinedTies
import Derived.KernelRfl
namespace Go.Proofs.Ytlniheedmeaeeaa
/- THE CELL 'sum', in the pinned program and in every row, IS THE sha256 OF THE DUMP (.gsa) THAT YtlniheedmeaeeaaProg.lean LOADS. Nothing in Lean hashes anything: it is a label: what it is worth is what the hold of that sum in a sandbox is worth. -/
noncomputable def Try.pinned : Pinned := { name := "ytlniheedmeaeeaa", sum := "4e762c1e425ba248b2459d607eca174813533b6e3b497734db8783feca7f9090", checked := Try.checked }
namespace Rows
def none {H : Type} : Left H := { results := [], args := [] }

/-- 'laws.FnExactStashPut': WHATEVER THE INPUT: true; the input reads as it did. -/
def fnExactStashPutSpec : ChangeSpec := { name := "fnExactStashPut", fn := fun _ => fun
  | [d1, d2, d3, d4] => { results := [.lit (.bool true)], args := [d1, d2, d3, d4] }
  | _ => none }
def fnExactStashPutRow : OpenClaim := { program := "ytlniheedmeaeeaa", sum := "4e762c1e425ba248b2459d607eca174813533b6e3b497734db8783feca7f9090", func := "loop.example/g00663/laws.FnExactStashPut", spec := "fnExactStashPut", inPlace := ["slices.overlaps[loop.example/g00663/impl.Block]"], unfollowed := true, recurses := true, apart := false }
def FnExactStashPutSaid : Prop := fnExactStashPutRow.holds Try.pinned (OpenSpec.ofChange fnExactStashPutSpec)

/-- ITS FALSE NEIGHBOUR: 'it returns false'. Refute it at one input. -/
def fnExactStashPutWrong : ChangeSpec := { name := "fnExactStashPut", fn := fun _ => fun
  | [d1, d2, d3, d4] => { results := [.lit (.bool false)], args := [d1, d2, d3, d4] }
  | _ => none }
def FnExactStashPutWrongFalsely : Prop := fnExactStashPutRow.holds Try.pinned (OpenSpec.ofChange fnExactStashPutWrong)

/-- 'laws.FnExactOramOk': WHATEVER THE INPUT: true; the input reads as it did. -/
def fnExactOramOkSpec : ChangeSpec := { name := "fnExactOramOk", fn := fun _ => fun
  | [d] => { results := [.lit (.bool true)], args := [d] }
  | _ => none }
def fnExactOramOkRow : OpenClaim := { program := "ytlniheedmeaeeaa", sum := "4e762c1e425ba248b2459d607eca174813533b6e3b497734db8783feca7f9090", func := "loop.example/g00663/laws.FnExactOramOk", spec := "fnExactOramOk", inPlace := ["slices.overlaps[loop.example/g00663/impl.Block]"], unfollowed := true, recurses := true, apart := false }
def FnExactOramOkSaid : Prop := fnExactOramOkRow.holds Try.pinned (OpenSpec.ofChange fnExactOramOkSpec)

/-- ITS FALSE NEIGHBOUR: 'it returns false'. Refute it at one input. -/
def fnExactOramOkWrong : ChangeSpec := { name := "fnExactOramOk", fn := fun _ => fun
  | [d] => { results := [.lit (.bool false)], args := [d] }
  | _ => none }
def FnExactOramOkWrongFalsely : Prop := fnExactOramOkRow.holds Try.pinned (OpenSpec.ofChange fnExactOramOkWrong)

/-- 'laws.FnExactOramBlocks': WHATEVER THE INPUT: true; the input reads as it did. -/
def fnExactOramBlocksSpec : ChangeSpec := { name := "fnExactOramBlocks", fn := fun _ => fun
  | [d] => { results := [.lit (.bool true)], args := [d] }
  | _ => none }
def fnExactOramBlocksRow : OpenClaim := { program := "ytlniheedmeaeeaa", sum := "4e762c1e425ba248b2459d607eca174813533b6e3b497734db8783feca7f9090", func := "loop.example/g00663/laws.FnExactOramBlocks", spec := "fnExactOramBlocks", inPlace := ["slices.overlaps[loop.example/g00663/impl.Block]"], unfollowed := true, recurses := true, apart := false }
def FnExactOramBlocksSaid : Prop := fnExactOramBlocksRow.holds Try.pinned (OpenSpec.ofChange fnExactOramBlocksSpec)

/-- ITS FALSE NEIGHBOUR: 'it returns false'. Refute it at one input. -/
def fnExactOramBlocksWrong : ChangeSpec := { name := "fnExactOramBlocks", fn := fun _ => fun
  | [d] => { results := [.lit (.bool false)], args := [d] }
  | _ => none }
def FnExactOramBlocksWrongFalsely : Prop := fnExactOramBlocksRow.holds Try.pinned (OpenSpec.ofChange fnExactOramBlocksWrong)

/-- 'laws.FnExactDeepOk': WHATEVER THE INPUT: true; the input reads as it did. -/
def fnExactDeepOkSpec : ChangeSpec := { name := "fnExactDeepOk", fn := fun _ => fun
  | [d] => { results := [.lit (.bool true)], args := [d] }
  | _ => none }
def fnExactDeepOkRow : OpenClaim := { program := "ytlniheedmeaeeaa", sum := "4e762c1e425ba248b2459d607eca174813533b6e3b497734db8783feca7f9090", func := "loop.example/g00663/laws.FnExactDeepOk", spec := "fnExactDeepOk", inPlace := ["slices.overlaps[loop.example/g00663/impl.Block]"], unfollowed := true, recurses := true, apart := false }
def FnExactDeepOkSaid : Prop := fnExactDeepOkRow.holds Try.pinned (OpenSpec.ofChange fnExactDeepOkSpec)

/-- ITS FALSE NEIGHBOUR: 'it returns false'. Refute it at one input. -/
def fnExactDeepOkWrong : ChangeSpec := { name := "fnExactDeepOk", fn := fun _ => fun
  | [d] => { results := [.lit (.bool false)], args := [d] }
  | _ => none }
def FnExactDeepOkWrongFalsely : Prop := fnExactDeepOkRow.holds Try.pinned (OpenSpec.ofChange fnExactDeepOkWrong)

/- THE SECOND FORM. 'bulk': how many values and letters a reading holds, each counted each time it is reached (what is shared counts as often as it is met; a slice's spare places count too). A statement '..UptoSaid' is the law's where the arguments, and the package variables that the reading takes, are together of bulk at most 1048576: NARROWER than '..Said'. Prove '..Said' where nothing that the law and all that it calls make is longer than what came in: it says more and counts as full. Else prove '..UptoSaid'. A law counts once. -/
mutual
def uptoBulk {H : Type} : DataW H → Nat
  | .lit (.string bytes) => bytes.length + 1
  | .lit _ => 1
  | .nil => 1
  | .ptr d => uptoBulk d + 1
  | .slice elems spare => uptoBulkAll elems + uptoBulkAll spare + 1
  | .agg parts => uptoBulkAll parts + 1
  | .iface _ d => uptoBulk d + 1
  | .map entries => uptoBulkEntries entries + 1
  | .held _ => 1
def uptoBulkAll {H : Type} : List (DataW H) → Nat
  | [] => 0
  | d :: r => uptoBulk d + uptoBulkAll r
def uptoBulkEntries {H : Type} : List (Lit × DataW H) → Nat
  | [] => 0
  | x :: r => uptoBulkEntry x + uptoBulkEntries r
def uptoBulkEntry {H : Type} : Lit × DataW H → Nat
  | (.string bytes, d) => bytes.length + uptoBulk d + 1
  | (_, d) => uptoBulk d + 1
 end
def uptoSmall : (H : Type) → List (DataW H) → Bool := fun _ ds => decide (uptoBulkAll ds ≤ 1048576)
def OpenSpec.upto (s : _root_.Go.ChangeSpec) : _root_.Go.OpenSpec := { _root_.Go.OpenSpec.ofChange s with cond := some uptoSmall }

/-- 'laws.FnExactStashPut', WHERE WHAT IT READS IS OF BULK AT MOST 1048576: true; the input reads as it did. -/
def fnExactStashPutUptoRow : OpenClaim := { program := "ytlniheedmeaeeaa", sum := "4e762c1e425ba248b2459d607eca174813533b6e3b497734db8783feca7f9090", func := "loop.example/g00663/laws.FnExactStashPut", spec := "fnExactStashPut", inPlace := ["slices.overlaps[loop.example/g00663/impl.Block]"], unfollowed := true, recurses := true, apart := false, narrowed := true }
def FnExactStashPutUptoSaid : Prop := fnExactStashPutUptoRow.holds Try.pinned (OpenSpec.upto fnExactStashPutSpec)

/-- 'laws.FnExactOramOk', WHERE WHAT IT READS IS OF BULK AT MOST 1048576: true; the input reads as it did. -/
def fnExactOramOkUptoRow : OpenClaim := { program := "ytlniheedmeaeeaa", sum := "4e762c1e425ba248b2459d607eca174813533b6e3b497734db8783feca7f9090", func := "loop.example/g00663/laws.FnExactOramOk", spec := "fnExactOramOk", inPlace := ["slices.overlaps[loop.example/g00663/impl.Block]"], unfollowed := true, recurses := true, apart := false, narrowed := true }
def FnExactOramOkUptoSaid : Prop := fnExactOramOkUptoRow.holds Try.pinned (OpenSpec.upto fnExactOramOkSpec)

/-- 'laws.FnExactOramBlocks', WHERE WHAT IT READS IS OF BULK AT MOST 1048576: true; the input reads as it did. -/
def fnExactOramBlocksUptoRow : OpenClaim := { program := "ytlniheedmeaeeaa", sum := "4e762c1e425ba248b2459d607eca174813533b6e3b497734db8783feca7f9090", func := "loop.example/g00663/laws.FnExactOramBlocks", spec := "fnExactOramBlocks", inPlace := ["slices.overlaps[loop.example/g00663/impl.Block]"], unfollowed := true, recurses := true, apart := false, narrowed := true }
def FnExactOramBlocksUptoSaid : Prop := fnExactOramBlocksUptoRow.holds Try.pinned (OpenSpec.upto fnExactOramBlocksSpec)

/-- 'laws.FnExactDeepOk', WHERE WHAT IT READS IS OF BULK AT MOST 1048576: true; the input reads as it did. -/
def fnExactDeepOkUptoRow : OpenClaim := { program := "ytlniheedmeaeeaa", sum := "4e762c1e425ba248b2459d607eca174813533b6e3b497734db8783feca7f9090", func := "loop.example/g00663/laws.FnExactDeepOk", spec := "fnExactDeepOk", inPlace := ["slices.overlaps[loop.example/g00663/impl.Block]"], unfollowed := true, recurses := true, apart := false, narrowed := true }
def FnExactDeepOkUptoSaid : Prop := fnExactDeepOkUptoRow.holds Try.pinned (OpenSpec.upto fnExactDeepOkSpec)

end Rows
end Go.Proofs.Ytlniheedmeaeeaa
