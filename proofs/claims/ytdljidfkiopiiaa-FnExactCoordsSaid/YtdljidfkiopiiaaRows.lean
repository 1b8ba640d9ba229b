/-
  No cell of these rows narrows 'for every input' (looked for: loops, veiled, ifaces, maps, wideKeys, modest, calm, conditions, laid).
  DERIVED. THE GIVEN ROWS OF THIS SEAT. 11 by the template 'for every input the law returns true; each argument reads behind the call as it read before'; 0 by the template 'total and deterministic' (their statements: YtdljidfkiopiiaaTotals.lean).
  GIVEN WITH THE SEED: the statements are not yours to turn. If you find one false, say at which input.
  Laid BY PROGRAM, IN A SANDBOX (cutbox-rows.mjs): the forced cells as the released guide's own fill.sh prints them over the translation 3dd0fd71a19d8977… (all of the seat's roots in one cut). By AI agents, Wed Nov 11 2026. No macro, syntax, notation, axiom, sorry.
-/
import Derived.Test.YtdljidfkiopiiaaChecked
import GoSem.Claim
import GoSem.ClaimJoined
import GoSem.ClaimMapViews
import Derived.JoinedTies
import Derived.KernelRfl
namespace Go.Proofs.Ytdljidfkiopiiaa
/- THE CELL 'sum', in the pinned program and in every row, IS THE sha256 OF THE DUMP (.gsa) THAT YtdljidfkiopiiaaProg.lean LOADS. Nothing in Lean hashes anything: it is a label: what it is worth is what the hold of that sum in a sandbox is worth. -/
noncomputable def Try.pinned : Pinned := { name := "ytdljidfkiopiiaa", sum := "3dd0fd71a19d897770dfcdc563d530c3083669d7ca1d5edb69b33832d466f079", checked := Try.checked }
namespace Rows
def none {H : Type} : Left H := { results := [], args := [] }

/-- 'laws.FnExactConfOk': WHATEVER THE INPUT: true; the input reads as it did. -/
def fnExactConfOkSpec : ChangeSpec := { name := "fnExactConfOk", fn := fun _ => fun
  | [d] => { results := [.lit (.bool true)], args := [d] }
  | _ => none }
def fnExactConfOkRow : OpenClaim := { program := "ytdljidfkiopiiaa", sum := "3dd0fd71a19d897770dfcdc563d530c3083669d7ca1d5edb69b33832d466f079", func := "loop.example/g00663/laws.FnExactConfOk", spec := "fnExactConfOk", apart := false }
def FnExactConfOkSaid : Prop := fnExactConfOkRow.holds Try.pinned (OpenSpec.ofChange fnExactConfOkSpec)

/-- ITS FALSE NEIGHBOUR: 'it returns false'. Refute it at one input. -/
def fnExactConfOkWrong : ChangeSpec := { name := "fnExactConfOk", fn := fun _ => fun
  | [d] => { results := [.lit (.bool false)], args := [d] }
  | _ => none }
def FnExactConfOkWrongFalsely : Prop := fnExactConfOkRow.holds Try.pinned (OpenSpec.ofChange fnExactConfOkWrong)

/-- 'laws.FnExactDeepDraws': WHATEVER THE INPUT: true; the input reads as it did. -/
def fnExactDeepDrawsSpec : ChangeSpec := { name := "fnExactDeepDraws", fn := fun _ => fun
  | [d] => { results := [.lit (.bool true)], args := [d] }
  | _ => none }
def fnExactDeepDrawsRow : OpenClaim := { program := "ytdljidfkiopiiaa", sum := "3dd0fd71a19d897770dfcdc563d530c3083669d7ca1d5edb69b33832d466f079", func := "loop.example/g00663/laws.FnExactDeepDraws", spec := "fnExactDeepDraws", apart := false }
def FnExactDeepDrawsSaid : Prop := fnExactDeepDrawsRow.holds Try.pinned (OpenSpec.ofChange fnExactDeepDrawsSpec)

/-- ITS FALSE NEIGHBOUR: 'it returns false'. Refute it at one input. -/
def fnExactDeepDrawsWrong : ChangeSpec := { name := "fnExactDeepDraws", fn := fun _ => fun
  | [d] => { results := [.lit (.bool false)], args := [d] }
  | _ => none }
def FnExactDeepDrawsWrongFalsely : Prop := fnExactDeepDrawsRow.holds Try.pinned (OpenSpec.ofChange fnExactDeepDrawsWrong)

/-- 'laws.FnExactReplySize': WHATEVER THE INPUT: true; the input reads as it did. -/
def fnExactReplySizeSpec : ChangeSpec := { name := "fnExactReplySize", fn := fun _ => fun
  | [d1, d2] => { results := [.lit (.bool true)], args := [d1, d2] }
  | _ => none }
def fnExactReplySizeRow : OpenClaim := { program := "ytdljidfkiopiiaa", sum := "3dd0fd71a19d897770dfcdc563d530c3083669d7ca1d5edb69b33832d466f079", func := "loop.example/g00663/laws.FnExactReplySize", spec := "fnExactReplySize", apart := false }
def FnExactReplySizeSaid : Prop := fnExactReplySizeRow.holds Try.pinned (OpenSpec.ofChange fnExactReplySizeSpec)

/-- ITS FALSE NEIGHBOUR: 'it returns false'. Refute it at one input. -/
def fnExactReplySizeWrong : ChangeSpec := { name := "fnExactReplySize", fn := fun _ => fun
  | [d1, d2] => { results := [.lit (.bool false)], args := [d1, d2] }
  | _ => none }
def FnExactReplySizeWrongFalsely : Prop := fnExactReplySizeRow.holds Try.pinned (OpenSpec.ofChange fnExactReplySizeWrong)

/-- 'laws.FnExactReqOk': WHATEVER THE INPUT: true; the input reads as it did. -/
def fnExactReqOkSpec : ChangeSpec := { name := "fnExactReqOk", fn := fun _ => fun
  | [d] => { results := [.lit (.bool true)], args := [d] }
  | _ => none }
def fnExactReqOkRow : OpenClaim := { program := "ytdljidfkiopiiaa", sum := "3dd0fd71a19d897770dfcdc563d530c3083669d7ca1d5edb69b33832d466f079", func := "loop.example/g00663/laws.FnExactReqOk", spec := "fnExactReqOk", apart := false }
def FnExactReqOkSaid : Prop := fnExactReqOkRow.holds Try.pinned (OpenSpec.ofChange fnExactReqOkSpec)

/-- ITS FALSE NEIGHBOUR: 'it returns false'. Refute it at one input. -/
def fnExactReqOkWrong : ChangeSpec := { name := "fnExactReqOk", fn := fun _ => fun
  | [d] => { results := [.lit (.bool false)], args := [d] }
  | _ => none }
def FnExactReqOkWrongFalsely : Prop := fnExactReqOkRow.holds Try.pinned (OpenSpec.ofChange fnExactReqOkWrong)

/-- 'laws.FnExactHashWord': WHATEVER THE INPUT: true; the input reads as it did. -/
def fnExactHashWordSpec : ChangeSpec := { name := "fnExactHashWord", fn := fun _ => fun
  | [d1, d2] => { results := [.lit (.bool true)], args := [d1, d2] }
  | _ => none }
def fnExactHashWordRow : OpenClaim := { program := "ytdljidfkiopiiaa", sum := "3dd0fd71a19d897770dfcdc563d530c3083669d7ca1d5edb69b33832d466f079", func := "loop.example/g00663/laws.FnExactHashWord", spec := "fnExactHashWord", apart := false }
def FnExactHashWordSaid : Prop := fnExactHashWordRow.holds Try.pinned (OpenSpec.ofChange fnExactHashWordSpec)

/-- ITS FALSE NEIGHBOUR: 'it returns false'. Refute it at one input. -/
def fnExactHashWordWrong : ChangeSpec := { name := "fnExactHashWord", fn := fun _ => fun
  | [d1, d2] => { results := [.lit (.bool false)], args := [d1, d2] }
  | _ => none }
def FnExactHashWordWrongFalsely : Prop := fnExactHashWordRow.holds Try.pinned (OpenSpec.ofChange fnExactHashWordWrong)

/-- 'laws.FnExactShelfFor': WHATEVER THE INPUT: true; the input reads as it did. -/
def fnExactShelfForSpec : ChangeSpec := { name := "fnExactShelfFor", fn := fun _ => fun
  | [d1, d2, d3] => { results := [.lit (.bool true)], args := [d1, d2, d3] }
  | _ => none }
def fnExactShelfForRow : OpenClaim := { program := "ytdljidfkiopiiaa", sum := "3dd0fd71a19d897770dfcdc563d530c3083669d7ca1d5edb69b33832d466f079", func := "loop.example/g00663/laws.FnExactShelfFor", spec := "fnExactShelfFor", apart := false }
def FnExactShelfForSaid : Prop := fnExactShelfForRow.holds Try.pinned (OpenSpec.ofChange fnExactShelfForSpec)

/-- ITS FALSE NEIGHBOUR: 'it returns false'. Refute it at one input. -/
def fnExactShelfForWrong : ChangeSpec := { name := "fnExactShelfFor", fn := fun _ => fun
  | [d1, d2, d3] => { results := [.lit (.bool false)], args := [d1, d2, d3] }
  | _ => none }
def FnExactShelfForWrongFalsely : Prop := fnExactShelfForRow.holds Try.pinned (OpenSpec.ofChange fnExactShelfForWrong)

/-- 'laws.FnExactCoords': WHATEVER THE INPUT: true; the input reads as it did. -/
def fnExactCoordsSpec : ChangeSpec := { name := "fnExactCoords", fn := fun _ => fun
  | [d1, d2] => { results := [.lit (.bool true)], args := [d1, d2] }
  | _ => none }
def fnExactCoordsRow : OpenClaim := { program := "ytdljidfkiopiiaa", sum := "3dd0fd71a19d897770dfcdc563d530c3083669d7ca1d5edb69b33832d466f079", func := "loop.example/g00663/laws.FnExactCoords", spec := "fnExactCoords", unfollowed := true, recurses := true, apart := false }
def FnExactCoordsSaid : Prop := fnExactCoordsRow.holds Try.pinned (OpenSpec.ofChange fnExactCoordsSpec)

/-- ITS FALSE NEIGHBOUR: 'it returns false'. Refute it at one input. -/
def fnExactCoordsWrong : ChangeSpec := { name := "fnExactCoords", fn := fun _ => fun
  | [d1, d2] => { results := [.lit (.bool false)], args := [d1, d2] }
  | _ => none }
def FnExactCoordsWrongFalsely : Prop := fnExactCoordsRow.holds Try.pinned (OpenSpec.ofChange fnExactCoordsWrong)

/-- 'laws.FnExactBookNew': WHATEVER THE INPUT: true; the input reads as it did. -/
def fnExactBookNewSpec : ChangeSpec := { name := "fnExactBookNew", fn := fun _ => fun
  | [d] => { results := [.lit (.bool true)], args := [d] }
  | _ => none }
def fnExactBookNewRow : OpenClaim := { program := "ytdljidfkiopiiaa", sum := "3dd0fd71a19d897770dfcdc563d530c3083669d7ca1d5edb69b33832d466f079", func := "loop.example/g00663/laws.FnExactBookNew", spec := "fnExactBookNew", apart := false }
def FnExactBookNewSaid : Prop := fnExactBookNewRow.holds Try.pinned (OpenSpec.ofChange fnExactBookNewSpec)

/-- ITS FALSE NEIGHBOUR: 'it returns false'. Refute it at one input. -/
def fnExactBookNewWrong : ChangeSpec := { name := "fnExactBookNew", fn := fun _ => fun
  | [d] => { results := [.lit (.bool false)], args := [d] }
  | _ => none }
def FnExactBookNewWrongFalsely : Prop := fnExactBookNewRow.holds Try.pinned (OpenSpec.ofChange fnExactBookNewWrong)

/-- 'laws.FnExactReqsOk': WHATEVER THE INPUT: true; the input reads as it did. -/
def fnExactReqsOkSpec : ChangeSpec := { name := "fnExactReqsOk", fn := fun _ => fun
  | [d] => { results := [.lit (.bool true)], args := [d] }
  | _ => none }
def fnExactReqsOkRow : OpenClaim := { program := "ytdljidfkiopiiaa", sum := "3dd0fd71a19d897770dfcdc563d530c3083669d7ca1d5edb69b33832d466f079", func := "loop.example/g00663/laws.FnExactReqsOk", spec := "fnExactReqsOk", unfollowed := true, recurses := true, apart := false }
def FnExactReqsOkSaid : Prop := fnExactReqsOkRow.holds Try.pinned (OpenSpec.ofChange fnExactReqsOkSpec)

/-- ITS FALSE NEIGHBOUR: 'it returns false'. Refute it at one input. -/
def fnExactReqsOkWrong : ChangeSpec := { name := "fnExactReqsOk", fn := fun _ => fun
  | [d] => { results := [.lit (.bool false)], args := [d] }
  | _ => none }
def FnExactReqsOkWrongFalsely : Prop := fnExactReqsOkRow.holds Try.pinned (OpenSpec.ofChange fnExactReqsOkWrong)

/-- 'laws.FnExactPathSeq': WHATEVER THE INPUT: true; the input reads as it did. -/
def fnExactPathSeqSpec : ChangeSpec := { name := "fnExactPathSeq", fn := fun _ => fun
  | [d1, d2, d3, d4] => { results := [.lit (.bool true)], args := [d1, d2, d3, d4] }
  | _ => none }
def fnExactPathSeqRow : OpenClaim := { program := "ytdljidfkiopiiaa", sum := "3dd0fd71a19d897770dfcdc563d530c3083669d7ca1d5edb69b33832d466f079", func := "loop.example/g00663/laws.FnExactPathSeq", spec := "fnExactPathSeq", unfollowed := true, recurses := true, apart := false }
def FnExactPathSeqSaid : Prop := fnExactPathSeqRow.holds Try.pinned (OpenSpec.ofChange fnExactPathSeqSpec)

/-- ITS FALSE NEIGHBOUR: 'it returns false'. Refute it at one input. -/
def fnExactPathSeqWrong : ChangeSpec := { name := "fnExactPathSeq", fn := fun _ => fun
  | [d1, d2, d3, d4] => { results := [.lit (.bool false)], args := [d1, d2, d3, d4] }
  | _ => none }
def FnExactPathSeqWrongFalsely : Prop := fnExactPathSeqRow.holds Try.pinned (OpenSpec.ofChange fnExactPathSeqWrong)

/-- 'laws.FnExactShelfOk': WHATEVER THE INPUT: true; the input reads as it did. -/
def fnExactShelfOkSpec : ChangeSpec := { name := "fnExactShelfOk", fn := fun _ => fun
  | [d] => { results := [.lit (.bool true)], args := [d] }
  | _ => none }
def fnExactShelfOkRow : OpenClaim := { program := "ytdljidfkiopiiaa", sum := "3dd0fd71a19d897770dfcdc563d530c3083669d7ca1d5edb69b33832d466f079", func := "loop.example/g00663/laws.FnExactShelfOk", spec := "fnExactShelfOk", unfollowed := true, recurses := true, apart := false }
def FnExactShelfOkSaid : Prop := fnExactShelfOkRow.holds Try.pinned (OpenSpec.ofChange fnExactShelfOkSpec)

/-- ITS FALSE NEIGHBOUR: 'it returns false'. Refute it at one input. -/
def fnExactShelfOkWrong : ChangeSpec := { name := "fnExactShelfOk", fn := fun _ => fun
  | [d] => { results := [.lit (.bool false)], args := [d] }
  | _ => none }
def FnExactShelfOkWrongFalsely : Prop := fnExactShelfOkRow.holds Try.pinned (OpenSpec.ofChange fnExactShelfOkWrong)

/- THE SECOND FORM. 'bulk': how many values and letters a reading holds, each counted each time it is reached (what is shared counts as often as it is met; a slice's spare places count too). A statement '..UptoSaid' is the law's where the arguments, and the package variables that the reading takes, are together of bulk at most 1048576: NARROWER than '..Said'. Prove '..Said' where nothing that the law and all that it calls make is longer than what came in: it says more and counts as full. Else prove '..UptoSaid'. A law counts once. -/
mutual
def uptoBulk {H : Type} : DataW H → Nat
  | .lit (.string bytes) => bytes.length + 1
  | .lit _ => 1
  | .nil => 1
  | .ptr d => uptoBulk d + 1
  | .slice elems spare => uptoBulkAll elems + uptoBulkAll spare + 1
  | .agg parts => uptoBulkAll parts + 1
  | .iface _ d => uptoBulk d + 1
  | .map entries => uptoBulkEntries entries + 1
  | .held _ => 1
def uptoBulkAll {H : Type} : List (DataW H) → Nat
  | [] => 0
  | d :: r => uptoBulk d + uptoBulkAll r
def uptoBulkEntries {H : Type} : List (Lit × DataW H) → Nat
  | [] => 0
  | x :: r => uptoBulkEntry x + uptoBulkEntries r
def uptoBulkEntry {H : Type} : Lit × DataW H → Nat
  | (.string bytes, d) => bytes.length + uptoBulk d + 1
  | (_, d) => uptoBulk d + 1
 end
def uptoSmall : (H : Type) → List (DataW H) → Bool := fun _ ds => decide (uptoBulkAll ds ≤ 1048576)
def OpenSpec.upto (s : _root_.Go.ChangeSpec) : _root_.Go.OpenSpec := { _root_.Go.OpenSpec.ofChange s with cond := some uptoSmall }

/-- 'laws.FnExactConfOk', WHERE WHAT IT READS IS OF BULK AT MOST 1048576: true; the input reads as it did. -/
def fnExactConfOkUptoRow : OpenClaim := { program := "ytdljidfkiopiiaa", sum := "3dd0fd71a19d897770dfcdc563d530c3083669d7ca1d5edb69b33832d466f079", func := "loop.example/g00663/laws.FnExactConfOk", spec := "fnExactConfOk", apart := false, narrowed := true }
def FnExactConfOkUptoSaid : Prop := fnExactConfOkUptoRow.holds Try.pinned (OpenSpec.upto fnExactConfOkSpec)

/-- 'laws.FnExactDeepDraws', WHERE WHAT IT READS IS OF BULK AT MOST 1048576: true; the input reads as it did. -/
def fnExactDeepDrawsUptoRow : OpenClaim := { program := "ytdljidfkiopiiaa", sum := "3dd0fd71a19d897770dfcdc563d530c3083669d7ca1d5edb69b33832d466f079", func := "loop.example/g00663/laws.FnExactDeepDraws", spec := "fnExactDeepDraws", apart := false, narrowed := true }
def FnExactDeepDrawsUptoSaid : Prop := fnExactDeepDrawsUptoRow.holds Try.pinned (OpenSpec.upto fnExactDeepDrawsSpec)

/-- 'laws.FnExactReplySize', WHERE WHAT IT READS IS OF BULK AT MOST 1048576: true; the input reads as it did. -/
def fnExactReplySizeUptoRow : OpenClaim := { program := "ytdljidfkiopiiaa", sum := "3dd0fd71a19d897770dfcdc563d530c3083669d7ca1d5edb69b33832d466f079", func := "loop.example/g00663/laws.FnExactReplySize", spec := "fnExactReplySize", apart := false, narrowed := true }
def FnExactReplySizeUptoSaid : Prop := fnExactReplySizeUptoRow.holds Try.pinned (OpenSpec.upto fnExactReplySizeSpec)

/-- 'laws.FnExactReqOk', WHERE WHAT IT READS IS OF BULK AT MOST 1048576: true; the input reads as it did. -/
def fnExactReqOkUptoRow : OpenClaim := { program := "ytdljidfkiopiiaa", sum := "3dd0fd71a19d897770dfcdc563d530c3083669d7ca1d5edb69b33832d466f079", func := "loop.example/g00663/laws.FnExactReqOk", spec := "fnExactReqOk", apart := false, narrowed := true }
def FnExactReqOkUptoSaid : Prop := fnExactReqOkUptoRow.holds Try.pinned (OpenSpec.upto fnExactReqOkSpec)

/-- 'laws.FnExactHashWord', WHERE WHAT IT READS IS OF BULK AT MOST 1048576: true; the input reads as it did. -/
def fnExactHashWordUptoRow : OpenClaim := { program := "ytdljidfkiopiiaa", sum := "3dd0fd71a19d897770dfcdc563d530c3083669d7ca1d5edb69b33832d466f079", func := "loop.example/g00663/laws.FnExactHashWord", spec := "fnExactHashWord", apart := false, narrowed := true }
def FnExactHashWordUptoSaid : Prop := fnExactHashWordUptoRow.holds Try.pinned (OpenSpec.upto fnExactHashWordSpec)

/-- 'laws.FnExactShelfFor', WHERE WHAT IT READS IS OF BULK AT MOST 1048576: true; the input reads as it did. -/
def fnExactShelfForUptoRow : OpenClaim := { program := "ytdljidfkiopiiaa", sum := "3dd0fd71a19d897770dfcdc563d530c3083669d7ca1d5edb69b33832d466f079", func := "loop.example/g00663/laws.FnExactShelfFor", spec := "fnExactShelfFor", apart := false, narrowed := true }
def FnExactShelfForUptoSaid : Prop := fnExactShelfForUptoRow.holds Try.pinned (OpenSpec.upto fnExactShelfForSpec)

/-- 'laws.FnExactCoords', WHERE WHAT IT READS IS OF BULK AT MOST 1048576: true; the input reads as it did. -/
def fnExactCoordsUptoRow : OpenClaim := { program := "ytdljidfkiopiiaa", sum := "3dd0fd71a19d897770dfcdc563d530c3083669d7ca1d5edb69b33832d466f079", func := "loop.example/g00663/laws.FnExactCoords", spec := "fnExactCoords", unfollowed := true, recurses := true, apart := false, narrowed := true }
def FnExactCoordsUptoSaid : Prop := fnExactCoordsUptoRow.holds Try.pinned (OpenSpec.upto fnExactCoordsSpec)

/-- 'laws.FnExactBookNew', WHERE WHAT IT READS IS OF BULK AT MOST 1048576: true; the input reads as it did. -/
def fnExactBookNewUptoRow : OpenClaim := { program := "ytdljidfkiopiiaa", sum := "3dd0fd71a19d897770dfcdc563d530c3083669d7ca1d5edb69b33832d466f079", func := "loop.example/g00663/laws.FnExactBookNew", spec := "fnExactBookNew", apart := false, narrowed := true }
def FnExactBookNewUptoSaid : Prop := fnExactBookNewUptoRow.holds Try.pinned (OpenSpec.upto fnExactBookNewSpec)

/-- 'laws.FnExactReqsOk', WHERE WHAT IT READS IS OF BULK AT MOST 1048576: true; the input reads as it did. -/
def fnExactReqsOkUptoRow : OpenClaim := { program := "ytdljidfkiopiiaa", sum := "3dd0fd71a19d897770dfcdc563d530c3083669d7ca1d5edb69b33832d466f079", func := "loop.example/g00663/laws.FnExactReqsOk", spec := "fnExactReqsOk", unfollowed := true, recurses := true, apart := false, narrowed := true }
def FnExactReqsOkUptoSaid : Prop := fnExactReqsOkUptoRow.holds Try.pinned (OpenSpec.upto fnExactReqsOkSpec)

/-- 'laws.FnExactPathSeq', WHERE WHAT IT READS IS OF BULK AT MOST 1048576: true; the input reads as it did. -/
def fnExactPathSeqUptoRow : OpenClaim := { program := "ytdljidfkiopiiaa", sum := "3dd0fd71a19d897770dfcdc563d530c3083669d7ca1d5edb69b33832d466f079", func := "loop.example/g00663/laws.FnExactPathSeq", spec := "fnExactPathSeq", unfollowed := true, recurses := true, apart := false, narrowed := true }
def FnExactPathSeqUptoSaid : Prop := fnExactPathSeqUptoRow.holds Try.pinned (OpenSpec.upto fnExactPathSeqSpec)

/-- 'laws.FnExactShelfOk', WHERE WHAT IT READS IS OF BULK AT MOST 1048576: true; the input reads as it did. -/
def fnExactShelfOkUptoRow : OpenClaim := { program := "ytdljidfkiopiiaa", sum := "3dd0fd71a19d897770dfcdc563d530c3083669d7ca1d5edb69b33832d466f079", func := "loop.example/g00663/laws.FnExactShelfOk", spec := "fnExactShelfOk", unfollowed := true, recurses := true, apart := false, narrowed := true }
def FnExactShelfOkUptoSaid : Prop := fnExactShelfOkUptoRow.holds Try.pinned (OpenSpec.upto fnExactShelfOkSpec)

end Rows
end Go.Proofs.Ytdljidfkiopiiaa
