/-
  No cell of these rows narrows 'for every input' (looked for: loops, veiled, ifaces, maps, wideKeys, modest, calm, conditions, laid).
  DERIVED. THE GIVEN ROWS OF THIS SEAT. 12 by the template 'for every input the law returns true; each argument reads behind the call as it read before'; 0 by the template 'total and deterministic' (their statements: YtambjdldjgehkaaTotals.lean).
  GIVEN WITH THE SEED: the statements are not yours to turn. If you find one false, say at which input.
  Laid BY PROGRAM, IN A SANDBOX (cutbox-rows.mjs): the forced cells as the released guide's own fill.sh prints them over the translation 5ab50b12f31cc031… (all of the seat's roots in one cut). By AI agents, Wed Nov 11 2026. No macro, syntax, notation, axiom, sorry.
-/
import Derived.Test.YtambjdldjgehkaaChecked
import GoSem.Claim
import GoSem.ClaimJoined
import GoSem.ClaimMapViews
import Derived.JoinedTies
import Derived.KernelRfl
namespace Go.Proofs.Ytambjdldjgehkaa
/- THE CELL 'sum', in the pinned program and in every row, IS THE sha256 OF THE DUMP (.gsa) THAT YtambjdldjgehkaaProg.lean LOADS. Nothing in Lean hashes anything: it is a label: what it is worth is what the hold of that sum in a sandbox is worth. -/
noncomputable def Try.pinned : Pinned := { name := "ytambjdldjgehkaa", sum := "5ab50b12f31cc0311cdcdeeda612a57cb12f81efb89ca86a3b4f0f744f39be2f", checked := Try.checked }
namespace Rows
def none {H : Type} : Left H := { results := [], args := [] }

/-- 'laws.FnExactPathSeq': WHATEVER THE INPUT: true; the input reads as it did. -/
def fnExactPathSeqSpec : ChangeSpec := { name := "fnExactPathSeq", fn := fun _ => fun
  | [d1, d2, d3, d4] => { results := [.lit (.bool true)], args := [d1, d2, d3, d4] }
  | _ => none }
def fnExactPathSeqRow : OpenClaim := { program := "ytambjdldjgehkaa", sum := "5ab50b12f31cc0311cdcdeeda612a57cb12f81efb89ca86a3b4f0f744f39be2f", func := "loop.example/g00663/laws.FnExactPathSeq", spec := "fnExactPathSeq", unfollowed := true, recurses := true, apart := false }
def FnExactPathSeqSaid : Prop := fnExactPathSeqRow.holds Try.pinned (OpenSpec.ofChange fnExactPathSeqSpec)

/-- ITS FALSE NEIGHBOUR: 'it returns false'. Refute it at one input. -/
def fnExactPathSeqWrong : ChangeSpec := { name := "fnExactPathSeq", fn := fun _ => fun
  | [d1, d2, d3, d4] => { results := [.lit (.bool false)], args := [d1, d2, d3, d4] }
  | _ => none }
def FnExactPathSeqWrongFalsely : Prop := fnExactPathSeqRow.holds Try.pinned (OpenSpec.ofChange fnExactPathSeqWrong)

/-- 'laws.FnExactShelfFind': WHATEVER THE INPUT: true; the input reads as it did. -/
def fnExactShelfFindSpec : ChangeSpec := { name := "fnExactShelfFind", fn := fun _ => fun
  | [d1, d2] => { results := [.lit (.bool true)], args := [d1, d2] }
  | _ => none }
def fnExactShelfFindRow : OpenClaim := { program := "ytambjdldjgehkaa", sum := "5ab50b12f31cc0311cdcdeeda612a57cb12f81efb89ca86a3b4f0f744f39be2f", func := "loop.example/g00663/laws.FnExactShelfFind", spec := "fnExactShelfFind", unfollowed := true, recurses := true, apart := false }
def FnExactShelfFindSaid : Prop := fnExactShelfFindRow.holds Try.pinned (OpenSpec.ofChange fnExactShelfFindSpec)

/-- ITS FALSE NEIGHBOUR: 'it returns false'. Refute it at one input. -/
def fnExactShelfFindWrong : ChangeSpec := { name := "fnExactShelfFind", fn := fun _ => fun
  | [d1, d2] => { results := [.lit (.bool false)], args := [d1, d2] }
  | _ => none }
def FnExactShelfFindWrongFalsely : Prop := fnExactShelfFindRow.holds Try.pinned (OpenSpec.ofChange fnExactShelfFindWrong)

/-- 'laws.FnExactPairDraws': WHATEVER THE INPUT: true; the input reads as it did. -/
def fnExactPairDrawsSpec : ChangeSpec := { name := "fnExactPairDraws", fn := fun _ => fun
  | [d1, d2, d3, d4] => { results := [.lit (.bool true)], args := [d1, d2, d3, d4] }
  | _ => none }
def fnExactPairDrawsRow : OpenClaim := { program := "ytambjdldjgehkaa", sum := "5ab50b12f31cc0311cdcdeeda612a57cb12f81efb89ca86a3b4f0f744f39be2f", func := "loop.example/g00663/laws.FnExactPairDraws", spec := "fnExactPairDraws", unfollowed := true, recurses := true, apart := false }
def FnExactPairDrawsSaid : Prop := fnExactPairDrawsRow.holds Try.pinned (OpenSpec.ofChange fnExactPairDrawsSpec)

/-- ITS FALSE NEIGHBOUR: 'it returns false'. Refute it at one input. -/
def fnExactPairDrawsWrong : ChangeSpec := { name := "fnExactPairDraws", fn := fun _ => fun
  | [d1, d2, d3, d4] => { results := [.lit (.bool false)], args := [d1, d2, d3, d4] }
  | _ => none }
def FnExactPairDrawsWrongFalsely : Prop := fnExactPairDrawsRow.holds Try.pinned (OpenSpec.ofChange fnExactPairDrawsWrong)

/-- 'laws.FnExactSeqCounts': WHATEVER THE INPUT: true; the input reads as it did. -/
def fnExactSeqCountsSpec : ChangeSpec := { name := "fnExactSeqCounts", fn := fun _ => fun
  | [d1, d2, d3] => { results := [.lit (.bool true)], args := [d1, d2, d3] }
  | _ => none }
def fnExactSeqCountsRow : OpenClaim := { program := "ytambjdldjgehkaa", sum := "5ab50b12f31cc0311cdcdeeda612a57cb12f81efb89ca86a3b4f0f744f39be2f", func := "loop.example/g00663/laws.FnExactSeqCounts", spec := "fnExactSeqCounts", unfollowed := true, recurses := true, apart := false }
def FnExactSeqCountsSaid : Prop := fnExactSeqCountsRow.holds Try.pinned (OpenSpec.ofChange fnExactSeqCountsSpec)

/-- ITS FALSE NEIGHBOUR: 'it returns false'. Refute it at one input. -/
def fnExactSeqCountsWrong : ChangeSpec := { name := "fnExactSeqCounts", fn := fun _ => fun
  | [d1, d2, d3] => { results := [.lit (.bool false)], args := [d1, d2, d3] }
  | _ => none }
def FnExactSeqCountsWrongFalsely : Prop := fnExactSeqCountsRow.holds Try.pinned (OpenSpec.ofChange fnExactSeqCountsWrong)

/-- 'laws.FnExactScanNew': WHATEVER THE INPUT: true; the input reads as it did. -/
def fnExactScanNewSpec : ChangeSpec := { name := "fnExactScanNew", fn := fun _ => fun
  | [d] => { results := [.lit (.bool true)], args := [d] }
  | _ => none }
def fnExactScanNewRow : OpenClaim := { program := "ytambjdldjgehkaa", sum := "5ab50b12f31cc0311cdcdeeda612a57cb12f81efb89ca86a3b4f0f744f39be2f", func := "loop.example/g00663/laws.FnExactScanNew", spec := "fnExactScanNew", apart := false }
def FnExactScanNewSaid : Prop := fnExactScanNewRow.holds Try.pinned (OpenSpec.ofChange fnExactScanNewSpec)

/-- ITS FALSE NEIGHBOUR: 'it returns false'. Refute it at one input. -/
def fnExactScanNewWrong : ChangeSpec := { name := "fnExactScanNew", fn := fun _ => fun
  | [d] => { results := [.lit (.bool false)], args := [d] }
  | _ => none }
def FnExactScanNewWrongFalsely : Prop := fnExactScanNewRow.holds Try.pinned (OpenSpec.ofChange fnExactScanNewWrong)

/-- 'laws.FnCoords': WHATEVER THE INPUT: true; the input reads as it did. -/
def fnCoordsSpec : ChangeSpec := { name := "fnCoords", fn := fun _ => fun
  | [d] => { results := [.lit (.bool true)], args := [d] }
  | _ => none }
def fnCoordsRow : OpenClaim := { program := "ytambjdldjgehkaa", sum := "5ab50b12f31cc0311cdcdeeda612a57cb12f81efb89ca86a3b4f0f744f39be2f", func := "loop.example/g00663/laws.FnCoords", spec := "fnCoords", unfollowed := true, recurses := true, apart := false }
def FnCoordsSaid : Prop := fnCoordsRow.holds Try.pinned (OpenSpec.ofChange fnCoordsSpec)

/-- ITS FALSE NEIGHBOUR: 'it returns false'. Refute it at one input. -/
def fnCoordsWrong : ChangeSpec := { name := "fnCoords", fn := fun _ => fun
  | [d] => { results := [.lit (.bool false)], args := [d] }
  | _ => none }
def FnCoordsWrongFalsely : Prop := fnCoordsRow.holds Try.pinned (OpenSpec.ofChange fnCoordsWrong)

/-- 'laws.FnEven': WHATEVER THE INPUT: true; the input reads as it did. -/
def fnEvenSpec : ChangeSpec := { name := "fnEven", fn := fun _ => fun
  | [d] => { results := [.lit (.bool true)], args := [d] }
  | _ => none }
def fnEvenRow : OpenClaim := { program := "ytambjdldjgehkaa", sum := "5ab50b12f31cc0311cdcdeeda612a57cb12f81efb89ca86a3b4f0f744f39be2f", func := "loop.example/g00663/laws.FnEven", spec := "fnEven", unfollowed := true, recurses := true, apart := false }
def FnEvenSaid : Prop := fnEvenRow.holds Try.pinned (OpenSpec.ofChange fnEvenSpec)

/-- ITS FALSE NEIGHBOUR: 'it returns false'. Refute it at one input. -/
def fnEvenWrong : ChangeSpec := { name := "fnEven", fn := fun _ => fun
  | [d] => { results := [.lit (.bool false)], args := [d] }
  | _ => none }
def FnEvenWrongFalsely : Prop := fnEvenRow.holds Try.pinned (OpenSpec.ofChange fnEvenWrong)

/-- 'laws.FnExactShelfDrop': WHATEVER THE INPUT: true; the input reads as it did. -/
def fnExactShelfDropSpec : ChangeSpec := { name := "fnExactShelfDrop", fn := fun _ => fun
  | [d1, d2] => { results := [.lit (.bool true)], args := [d1, d2] }
  | _ => none }
def fnExactShelfDropRow : OpenClaim := { program := "ytambjdldjgehkaa", sum := "5ab50b12f31cc0311cdcdeeda612a57cb12f81efb89ca86a3b4f0f744f39be2f", func := "loop.example/g00663/laws.FnExactShelfDrop", spec := "fnExactShelfDrop", unfollowed := true, recurses := true, apart := false }
def FnExactShelfDropSaid : Prop := fnExactShelfDropRow.holds Try.pinned (OpenSpec.ofChange fnExactShelfDropSpec)

/-- ITS FALSE NEIGHBOUR: 'it returns false'. Refute it at one input. -/
def fnExactShelfDropWrong : ChangeSpec := { name := "fnExactShelfDrop", fn := fun _ => fun
  | [d1, d2] => { results := [.lit (.bool false)], args := [d1, d2] }
  | _ => none }
def FnExactShelfDropWrongFalsely : Prop := fnExactShelfDropRow.holds Try.pinned (OpenSpec.ofChange fnExactShelfDropWrong)

/-- 'laws.FnExactShelfSet': WHATEVER THE INPUT: true; the input reads as it did. -/
def fnExactShelfSetSpec : ChangeSpec := { name := "fnExactShelfSet", fn := fun _ => fun
  | [d1, d2] => { results := [.lit (.bool true)], args := [d1, d2] }
  | _ => none }
def fnExactShelfSetRow : OpenClaim := { program := "ytambjdldjgehkaa", sum := "5ab50b12f31cc0311cdcdeeda612a57cb12f81efb89ca86a3b4f0f744f39be2f", func := "loop.example/g00663/laws.FnExactShelfSet", spec := "fnExactShelfSet", unfollowed := true, recurses := true, apart := false }
def FnExactShelfSetSaid : Prop := fnExactShelfSetRow.holds Try.pinned (OpenSpec.ofChange fnExactShelfSetSpec)

/-- ITS FALSE NEIGHBOUR: 'it returns false'. Refute it at one input. -/
def fnExactShelfSetWrong : ChangeSpec := { name := "fnExactShelfSet", fn := fun _ => fun
  | [d1, d2] => { results := [.lit (.bool false)], args := [d1, d2] }
  | _ => none }
def FnExactShelfSetWrongFalsely : Prop := fnExactShelfSetRow.holds Try.pinned (OpenSpec.ofChange fnExactShelfSetWrong)

/-- 'laws.FnExactShelfAdd': WHATEVER THE INPUT: true; the input reads as it did. -/
def fnExactShelfAddSpec : ChangeSpec := { name := "fnExactShelfAdd", fn := fun _ => fun
  | [d1, d2] => { results := [.lit (.bool true)], args := [d1, d2] }
  | _ => none }
def fnExactShelfAddRow : OpenClaim := { program := "ytambjdldjgehkaa", sum := "5ab50b12f31cc0311cdcdeeda612a57cb12f81efb89ca86a3b4f0f744f39be2f", func := "loop.example/g00663/laws.FnExactShelfAdd", spec := "fnExactShelfAdd", unfollowed := true, recurses := true, apart := false }
def FnExactShelfAddSaid : Prop := fnExactShelfAddRow.holds Try.pinned (OpenSpec.ofChange fnExactShelfAddSpec)

/-- ITS FALSE NEIGHBOUR: 'it returns false'. Refute it at one input. -/
def fnExactShelfAddWrong : ChangeSpec := { name := "fnExactShelfAdd", fn := fun _ => fun
  | [d1, d2] => { results := [.lit (.bool false)], args := [d1, d2] }
  | _ => none }
def FnExactShelfAddWrongFalsely : Prop := fnExactShelfAddRow.holds Try.pinned (OpenSpec.ofChange fnExactShelfAddWrong)

/-- 'laws.FnShelfBack': WHATEVER THE INPUT: true; the input reads as it did. -/
def fnShelfBackSpec : ChangeSpec := { name := "fnShelfBack", fn := fun _ => fun
  | [d] => { results := [.lit (.bool true)], args := [d] }
  | _ => none }
def fnShelfBackRow : OpenClaim := { program := "ytambjdldjgehkaa", sum := "5ab50b12f31cc0311cdcdeeda612a57cb12f81efb89ca86a3b4f0f744f39be2f", func := "loop.example/g00663/laws.FnShelfBack", spec := "fnShelfBack", unfollowed := true, recurses := true, apart := false }
def FnShelfBackSaid : Prop := fnShelfBackRow.holds Try.pinned (OpenSpec.ofChange fnShelfBackSpec)

/-- ITS FALSE NEIGHBOUR: 'it returns false'. Refute it at one input. -/
def fnShelfBackWrong : ChangeSpec := { name := "fnShelfBack", fn := fun _ => fun
  | [d] => { results := [.lit (.bool false)], args := [d] }
  | _ => none }
def FnShelfBackWrongFalsely : Prop := fnShelfBackRow.holds Try.pinned (OpenSpec.ofChange fnShelfBackWrong)

/-- 'laws.FnExactShelfOf': WHATEVER THE INPUT: true; the input reads as it did. -/
def fnExactShelfOfSpec : ChangeSpec := { name := "fnExactShelfOf", fn := fun _ => fun
  | [d] => { results := [.lit (.bool true)], args := [d] }
  | _ => none }
def fnExactShelfOfRow : OpenClaim := { program := "ytambjdldjgehkaa", sum := "5ab50b12f31cc0311cdcdeeda612a57cb12f81efb89ca86a3b4f0f744f39be2f", func := "loop.example/g00663/laws.FnExactShelfOf", spec := "fnExactShelfOf", unfollowed := true, recurses := true, apart := false }
def FnExactShelfOfSaid : Prop := fnExactShelfOfRow.holds Try.pinned (OpenSpec.ofChange fnExactShelfOfSpec)

/-- ITS FALSE NEIGHBOUR: 'it returns false'. Refute it at one input. -/
def fnExactShelfOfWrong : ChangeSpec := { name := "fnExactShelfOf", fn := fun _ => fun
  | [d] => { results := [.lit (.bool false)], args := [d] }
  | _ => none }
def FnExactShelfOfWrongFalsely : Prop := fnExactShelfOfRow.holds Try.pinned (OpenSpec.ofChange fnExactShelfOfWrong)

/- THE SECOND FORM. 'bulk': how many values and letters a reading holds, each counted each time it is reached (what is shared counts as often as it is met; a slice's spare places count too). A statement '..UptoSaid' is the law's where the arguments, and the package variables that the reading takes, are together of bulk at most 1048576: NARROWER than '..Said'. Prove '..Said' where nothing that the law and all that it calls make is longer than what came in: it says more and counts as full. Else prove '..UptoSaid'. A law counts once. -/
mutual
def uptoBulk {H : Type} : DataW H → Nat
  | .lit (.string bytes) => bytes.length + 1
  | .lit _ => 1
  | .nil => 1
  | .ptr d => uptoBulk d + 1
  | .slice elems spare => uptoBulkAll elems + uptoBulkAll spare + 1
  | .agg parts => uptoBulkAll parts + 1
  | .iface _ d => uptoBulk d + 1
  | .map entries => uptoBulkEntries entries + 1
  | .held _ => 1
def uptoBulkAll {H : Type} : List (DataW H) → Nat
  | [] => 0
  | d :: r => uptoBulk d + uptoBulkAll r
def uptoBulkEntries {H : Type} : List (Lit × DataW H) → Nat
  | [] => 0
  | x :: r => uptoBulkEntry x + uptoBulkEntries r
def uptoBulkEntry {H : Type} : Lit × DataW H → Nat
  | (.string bytes, d) => bytes.length + uptoBulk d + 1
  | (_, d) => uptoBulk d + 1
 end
def uptoSmall : (H : Type) → List (DataW H) → Bool := fun _ ds => decide (uptoBulkAll ds ≤ 1048576)
def OpenSpec.upto (s : _root_.Go.ChangeSpec) : _root_.Go.OpenSpec := { _root_.Go.OpenSpec.ofChange s with cond := some uptoSmall }

/-- 'laws.FnExactPathSeq', WHERE WHAT IT READS IS OF BULK AT MOST 1048576: true; the input reads as it did. -/
def fnExactPathSeqUptoRow : OpenClaim := { program := "ytambjdldjgehkaa", sum := "5ab50b12f31cc0311cdcdeeda612a57cb12f81efb89ca86a3b4f0f744f39be2f", func := "loop.example/g00663/laws.FnExactPathSeq", spec := "fnExactPathSeq", unfollowed := true, recurses := true, apart := false, narrowed := true }
def FnExactPathSeqUptoSaid : Prop := fnExactPathSeqUptoRow.holds Try.pinned (OpenSpec.upto fnExactPathSeqSpec)

/-- 'laws.FnExactShelfFind', WHERE WHAT IT READS IS OF BULK AT MOST 1048576: true; the input reads as it did. -/
def fnExactShelfFindUptoRow : OpenClaim := { program := "ytambjdldjgehkaa", sum := "5ab50b12f31cc0311cdcdeeda612a57cb12f81efb89ca86a3b4f0f744f39be2f", func := "loop.example/g00663/laws.FnExactShelfFind", spec := "fnExactShelfFind", unfollowed := true, recurses := true, apart := false, narrowed := true }
def FnExactShelfFindUptoSaid : Prop := fnExactShelfFindUptoRow.holds Try.pinned (OpenSpec.upto fnExactShelfFindSpec)

/-- 'laws.FnExactPairDraws', WHERE WHAT IT READS IS OF BULK AT MOST 1048576: true; the input reads as it did. -/
def fnExactPairDrawsUptoRow : OpenClaim := { program := "ytambjdldjgehkaa", sum := "5ab50b12f31cc0311cdcdeeda612a57cb12f81efb89ca86a3b4f0f744f39be2f", func := "loop.example/g00663/laws.FnExactPairDraws", spec := "fnExactPairDraws", unfollowed := true, recurses := true, apart := false, narrowed := true }
def FnExactPairDrawsUptoSaid : Prop := fnExactPairDrawsUptoRow.holds Try.pinned (OpenSpec.upto fnExactPairDrawsSpec)

/-- 'laws.FnExactSeqCounts', WHERE WHAT IT READS IS OF BULK AT MOST 1048576: true; the input reads as it did. -/
def fnExactSeqCountsUptoRow : OpenClaim := { program := "ytambjdldjgehkaa", sum := "5ab50b12f31cc0311cdcdeeda612a57cb12f81efb89ca86a3b4f0f744f39be2f", func := "loop.example/g00663/laws.FnExactSeqCounts", spec := "fnExactSeqCounts", unfollowed := true, recurses := true, apart := false, narrowed := true }
def FnExactSeqCountsUptoSaid : Prop := fnExactSeqCountsUptoRow.holds Try.pinned (OpenSpec.upto fnExactSeqCountsSpec)

/-- 'laws.FnExactScanNew', WHERE WHAT IT READS IS OF BULK AT MOST 1048576: true; the input reads as it did. -/
def fnExactScanNewUptoRow : OpenClaim := { program := "ytambjdldjgehkaa", sum := "5ab50b12f31cc0311cdcdeeda612a57cb12f81efb89ca86a3b4f0f744f39be2f", func := "loop.example/g00663/laws.FnExactScanNew", spec := "fnExactScanNew", apart := false, narrowed := true }
def FnExactScanNewUptoSaid : Prop := fnExactScanNewUptoRow.holds Try.pinned (OpenSpec.upto fnExactScanNewSpec)

/-- 'laws.FnCoords', WHERE WHAT IT READS IS OF BULK AT MOST 1048576: true; the input reads as it did. -/
def fnCoordsUptoRow : OpenClaim := { program := "ytambjdldjgehkaa", sum := "5ab50b12f31cc0311cdcdeeda612a57cb12f81efb89ca86a3b4f0f744f39be2f", func := "loop.example/g00663/laws.FnCoords", spec := "fnCoords", unfollowed := true, recurses := true, apart := false, narrowed := true }
def FnCoordsUptoSaid : Prop := fnCoordsUptoRow.holds Try.pinned (OpenSpec.upto fnCoordsSpec)

/-- 'laws.FnEven', WHERE WHAT IT READS IS OF BULK AT MOST 1048576: true; the input reads as it did. -/
def fnEvenUptoRow : OpenClaim := { program := "ytambjdldjgehkaa", sum := "5ab50b12f31cc0311cdcdeeda612a57cb12f81efb89ca86a3b4f0f744f39be2f", func := "loop.example/g00663/laws.FnEven", spec := "fnEven", unfollowed := true, recurses := true, apart := false, narrowed := true }
def FnEvenUptoSaid : Prop := fnEvenUptoRow.holds Try.pinned (OpenSpec.upto fnEvenSpec)

/-- 'laws.FnExactShelfDrop', WHERE WHAT IT READS IS OF BULK AT MOST 1048576: true; the input reads as it did. -/
def fnExactShelfDropUptoRow : OpenClaim := { program := "ytambjdldjgehkaa", sum := "5ab50b12f31cc0311cdcdeeda612a57cb12f81efb89ca86a3b4f0f744f39be2f", func := "loop.example/g00663/laws.FnExactShelfDrop", spec := "fnExactShelfDrop", unfollowed := true, recurses := true, apart := false, narrowed := true }
def FnExactShelfDropUptoSaid : Prop := fnExactShelfDropUptoRow.holds Try.pinned (OpenSpec.upto fnExactShelfDropSpec)

/-- 'laws.FnExactShelfSet', WHERE WHAT IT READS IS OF BULK AT MOST 1048576: true; the input reads as it did. -/
def fnExactShelfSetUptoRow : OpenClaim := { program := "ytambjdldjgehkaa", sum := "5ab50b12f31cc0311cdcdeeda612a57cb12f81efb89ca86a3b4f0f744f39be2f", func := "loop.example/g00663/laws.FnExactShelfSet", spec := "fnExactShelfSet", unfollowed := true, recurses := true, apart := false, narrowed := true }
def FnExactShelfSetUptoSaid : Prop := fnExactShelfSetUptoRow.holds Try.pinned (OpenSpec.upto fnExactShelfSetSpec)

/-- 'laws.FnExactShelfAdd', WHERE WHAT IT READS IS OF BULK AT MOST 1048576: true; the input reads as it did. -/
def fnExactShelfAddUptoRow : OpenClaim := { program := "ytambjdldjgehkaa", sum := "5ab50b12f31cc0311cdcdeeda612a57cb12f81efb89ca86a3b4f0f744f39be2f", func := "loop.example/g00663/laws.FnExactShelfAdd", spec := "fnExactShelfAdd", unfollowed := true, recurses := true, apart := false, narrowed := true }
def FnExactShelfAddUptoSaid : Prop := fnExactShelfAddUptoRow.holds Try.pinned (OpenSpec.upto fnExactShelfAddSpec)

/-- 'laws.FnShelfBack', WHERE WHAT IT READS IS OF BULK AT MOST 1048576: true; the input reads as it did. -/
def fnShelfBackUptoRow : OpenClaim := { program := "ytambjdldjgehkaa", sum := "5ab50b12f31cc0311cdcdeeda612a57cb12f81efb89ca86a3b4f0f744f39be2f", func := "loop.example/g00663/laws.FnShelfBack", spec := "fnShelfBack", unfollowed := true, recurses := true, apart := false, narrowed := true }
def FnShelfBackUptoSaid : Prop := fnShelfBackUptoRow.holds Try.pinned (OpenSpec.upto fnShelfBackSpec)

/-- 'laws.FnExactShelfOf', WHERE WHAT IT READS IS OF BULK AT MOST 1048576: true; the input reads as it did. -/
def fnExactShelfOfUptoRow : OpenClaim := { program := "ytambjdldjgehkaa", sum := "5ab50b12f31cc0311cdcdeeda612a57cb12f81efb89ca86a3b4f0f744f39be2f", func := "loop.example/g00663/laws.FnExactShelfOf", spec := "fnExactShelfOf", unfollowed := true, recurses := true, apart := false, narrowed := true }
def FnExactShelfOfUptoSaid : Prop := fnExactShelfOfUptoRow.holds Try.pinned (OpenSpec.upto fnExactShelfOfSpec)

end Rows
end Go.Proofs.Ytambjdldjgehkaa
