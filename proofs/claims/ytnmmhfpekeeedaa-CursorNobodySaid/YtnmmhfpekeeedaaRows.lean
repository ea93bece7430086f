/-
  No cell of these rows narrows 'for every input' (looked for: loops, veiled, ifaces, maps, wideKeys, modest, calm, conditions, laid).
  DERIVED. THE GIVEN ROWS OF THIS SEAT. 8 by the template 'for every input the law returns true; each argument reads behind the call as it read before'; 0 by the template 'total and deterministic' (their statements: YtnmmhfpekeeedaaTotals.lean).
  GIVEN WITH THE SEED: the statements are not yours to turn. If you find one false, say at which input.
  Laid BY PROGRAM, IN A SANDBOX (cutbox-rows.mjs): the forced cells as the released guide's own fill.sh prints them over the translation 5d60f8ab57933676… (all of the seat's roots in one cut). By AI agents, Wed Nov 11 2026. No macro, syntax, notation, axiom, sorry.
-/
import Derived.Test.YtnmmhfpekeeedaaChecked
import GoSem.Claim
import GoSem.ClaimJoined
import GoSem.ClaimMapViews
import Derived.JoinedTies
import Derived.KernelRfl
namespace Go.Proofs.Ytnmmhfpekeeedaa
/- THE CELL 'sum', in the pinned program and in every row, IS THE sha256 OF THE DUMP (.gsa) THAT YtnmmhfpekeeedaaProg.lean LOADS. Nothing in Lean hashes anything: it is a label: what it is worth is what the hold of that sum in a sandbox is worth. -/
noncomputable def Try.pinned : Pinned := { name := "ytnmmhfpekeeedaa", sum := "5d60f8ab57933676cff69aae23e720606b352dce164f5de1ee19819a62a37a42", checked := Try.checked }
namespace Rows
def none {H : Type} : Left H := { results := [], args := [] }

/-- 'regimenlaw12.ScanTokens': WHATEVER THE INPUT: true; the input reads as it did. -/
def scanTokensSpec : ChangeSpec := { name := "scanTokens", fn := fun _ => fun
  | [d] => { results := [.lit (.bool true)], args := [d] }
  | _ => none }
def scanTokensRow : OpenClaim := { program := "ytnmmhfpekeeedaa", sum := "5d60f8ab57933676cff69aae23e720606b352dce164f5de1ee19819a62a37a42", func := "regimen/regimenlaw12.ScanTokens", spec := "scanTokens", inPlace := ["internal/bytealg.IndexByteString"], unfollowed := true, recurses := true, apart := false }
def ScanTokensSaid : Prop := scanTokensRow.holds Try.pinned (OpenSpec.ofChange scanTokensSpec)

/-- ITS FALSE NEIGHBOUR: 'it returns false'. Refute it at one input. -/
def scanTokensWrong : ChangeSpec := { name := "scanTokens", fn := fun _ => fun
  | [d] => { results := [.lit (.bool false)], args := [d] }
  | _ => none }
def ScanTokensWrongFalsely : Prop := scanTokensRow.holds Try.pinned (OpenSpec.ofChange scanTokensWrong)

/-- 'regimenlaw12.ScanFull': WHATEVER THE INPUT: true; the input reads as it did. -/
def scanFullSpec : ChangeSpec := { name := "scanFull", fn := fun _ => fun
  | [d] => { results := [.lit (.bool true)], args := [d] }
  | _ => none }
def scanFullRow : OpenClaim := { program := "ytnmmhfpekeeedaa", sum := "5d60f8ab57933676cff69aae23e720606b352dce164f5de1ee19819a62a37a42", func := "regimen/regimenlaw12.ScanFull", spec := "scanFull", inPlace := ["internal/bytealg.IndexByteString"], unfollowed := true, recurses := true, apart := false }
def ScanFullSaid : Prop := scanFullRow.holds Try.pinned (OpenSpec.ofChange scanFullSpec)

/-- ITS FALSE NEIGHBOUR: 'it returns false'. Refute it at one input. -/
def scanFullWrong : ChangeSpec := { name := "scanFull", fn := fun _ => fun
  | [d] => { results := [.lit (.bool false)], args := [d] }
  | _ => none }
def ScanFullWrongFalsely : Prop := scanFullRow.holds Try.pinned (OpenSpec.ofChange scanFullWrong)

/-- 'regimenlaw29.BetterLaws': WHATEVER THE INPUT: true; the input reads as it did. -/
def betterLawsSpec : ChangeSpec := { name := "betterLaws", fn := fun _ => fun
  | [d1, d2] => { results := [.lit (.bool true)], args := [d1, d2] }
  | _ => none }
def betterLawsRow : OpenClaim := { program := "ytnmmhfpekeeedaa", sum := "5d60f8ab57933676cff69aae23e720606b352dce164f5de1ee19819a62a37a42", func := "regimen/regimenlaw29.BetterLaws", spec := "betterLaws", unfollowed := true, recurses := true, named := ["math/bits.divideError", "math/bits.overflowError"], apart := false }
def BetterLawsSaid : Prop := betterLawsRow.holds Try.pinned (OpenSpec.ofChange betterLawsSpec)

/-- ITS FALSE NEIGHBOUR: 'it returns false'. Refute it at one input. -/
def betterLawsWrong : ChangeSpec := { name := "betterLaws", fn := fun _ => fun
  | [d1, d2] => { results := [.lit (.bool false)], args := [d1, d2] }
  | _ => none }
def BetterLawsWrongFalsely : Prop := betterLawsRow.holds Try.pinned (OpenSpec.ofChange betterLawsWrong)

/-- 'regimenlaw29.BetterFirst': WHATEVER THE INPUT: true; the input reads as it did. -/
def betterFirstSpec : ChangeSpec := { name := "betterFirst", fn := fun _ => fun
  | [d1, d2] => { results := [.lit (.bool true)], args := [d1, d2] }
  | _ => none }
def betterFirstRow : OpenClaim := { program := "ytnmmhfpekeeedaa", sum := "5d60f8ab57933676cff69aae23e720606b352dce164f5de1ee19819a62a37a42", func := "regimen/regimenlaw29.BetterFirst", spec := "betterFirst", unfollowed := true, recurses := true, named := ["math/bits.divideError", "math/bits.overflowError"], apart := false }
def BetterFirstSaid : Prop := betterFirstRow.holds Try.pinned (OpenSpec.ofChange betterFirstSpec)

/-- ITS FALSE NEIGHBOUR: 'it returns false'. Refute it at one input. -/
def betterFirstWrong : ChangeSpec := { name := "betterFirst", fn := fun _ => fun
  | [d1, d2] => { results := [.lit (.bool false)], args := [d1, d2] }
  | _ => none }
def BetterFirstWrongFalsely : Prop := betterFirstRow.holds Try.pinned (OpenSpec.ofChange betterFirstWrong)

/-- 'regimenlaw13.CursorNobody': WHATEVER THE INPUT: true; the input reads as it did. -/
def cursorNobodySpec : ChangeSpec := { name := "cursorNobody", fn := fun _ => fun
  | [d] => { results := [.lit (.bool true)], args := [d] }
  | _ => none }
def cursorNobodyRow : OpenClaim := { program := "ytnmmhfpekeeedaa", sum := "5d60f8ab57933676cff69aae23e720606b352dce164f5de1ee19819a62a37a42", func := "regimen/regimenlaw13.CursorNobody", spec := "cursorNobody", named := ["math/bits.divideError", "math/bits.overflowError"], apart := false }
def CursorNobodySaid : Prop := cursorNobodyRow.holds Try.pinned (OpenSpec.ofChange cursorNobodySpec)

/-- ITS FALSE NEIGHBOUR: 'it returns false'. Refute it at one input. -/
def cursorNobodyWrong : ChangeSpec := { name := "cursorNobody", fn := fun _ => fun
  | [d] => { results := [.lit (.bool false)], args := [d] }
  | _ => none }
def CursorNobodyWrongFalsely : Prop := cursorNobodyRow.holds Try.pinned (OpenSpec.ofChange cursorNobodyWrong)

/-- 'regimenlaw14.LengthPuts': WHATEVER THE INPUT: true; the input reads as it did. -/
def lengthPutsSpec : ChangeSpec := { name := "lengthPuts", fn := fun _ => fun
  | [d] => { results := [.lit (.bool true)], args := [d] }
  | _ => none }
def lengthPutsRow : OpenClaim := { program := "ytnmmhfpekeeedaa", sum := "5d60f8ab57933676cff69aae23e720606b352dce164f5de1ee19819a62a37a42", func := "regimen/regimenlaw14.LengthPuts", spec := "lengthPuts", inPlace := ["internal/bytealg.IndexByteString"], unfollowed := true, recurses := true, apart := false }
def LengthPutsSaid : Prop := lengthPutsRow.holds Try.pinned (OpenSpec.ofChange lengthPutsSpec)

/-- ITS FALSE NEIGHBOUR: 'it returns false'. Refute it at one input. -/
def lengthPutsWrong : ChangeSpec := { name := "lengthPuts", fn := fun _ => fun
  | [d] => { results := [.lit (.bool false)], args := [d] }
  | _ => none }
def LengthPutsWrongFalsely : Prop := lengthPutsRow.holds Try.pinned (OpenSpec.ofChange lengthPutsWrong)

/-- 'regimenlaw14.LengthReads': WHATEVER THE INPUT: true; the input reads as it did. -/
def lengthReadsSpec : ChangeSpec := { name := "lengthReads", fn := fun _ => fun
  | [d] => { results := [.lit (.bool true)], args := [d] }
  | _ => none }
def lengthReadsRow : OpenClaim := { program := "ytnmmhfpekeeedaa", sum := "5d60f8ab57933676cff69aae23e720606b352dce164f5de1ee19819a62a37a42", func := "regimen/regimenlaw14.LengthReads", spec := "lengthReads", inPlace := ["internal/bytealg.IndexByteString"], unfollowed := true, recurses := true, apart := false }
def LengthReadsSaid : Prop := lengthReadsRow.holds Try.pinned (OpenSpec.ofChange lengthReadsSpec)

/-- ITS FALSE NEIGHBOUR: 'it returns false'. Refute it at one input. -/
def lengthReadsWrong : ChangeSpec := { name := "lengthReads", fn := fun _ => fun
  | [d] => { results := [.lit (.bool false)], args := [d] }
  | _ => none }
def LengthReadsWrongFalsely : Prop := lengthReadsRow.holds Try.pinned (OpenSpec.ofChange lengthReadsWrong)

/-- 'regimenlaw14.LengthSteps': WHATEVER THE INPUT: true; the input reads as it did. -/
def lengthStepsSpec : ChangeSpec := { name := "lengthSteps", fn := fun _ => fun
  | [d1, d2, d3] => { results := [.lit (.bool true)], args := [d1, d2, d3] }
  | _ => none }
def lengthStepsRow : OpenClaim := { program := "ytnmmhfpekeeedaa", sum := "5d60f8ab57933676cff69aae23e720606b352dce164f5de1ee19819a62a37a42", func := "regimen/regimenlaw14.LengthSteps", spec := "lengthSteps", inPlace := ["internal/bytealg.IndexByteString"], unfollowed := true, recurses := true, apart := false }
def LengthStepsSaid : Prop := lengthStepsRow.holds Try.pinned (OpenSpec.ofChange lengthStepsSpec)

/-- ITS FALSE NEIGHBOUR: 'it returns false'. Refute it at one input. -/
def lengthStepsWrong : ChangeSpec := { name := "lengthSteps", fn := fun _ => fun
  | [d1, d2, d3] => { results := [.lit (.bool false)], args := [d1, d2, d3] }
  | _ => none }
def LengthStepsWrongFalsely : Prop := lengthStepsRow.holds Try.pinned (OpenSpec.ofChange lengthStepsWrong)

/- THE SECOND FORM. 'bulk': how many values and letters a reading holds, each counted each time it is reached (what is shared counts as often as it is met; a slice's spare places count too). A statement '..UptoSaid' is the law's where the arguments, and the package variables that the reading takes, are together of bulk at most 1048576: NARROWER than '..Said'. Prove '..Said' where nothing that the law and all that it calls make is longer than what came in: it says more and counts as full. Else prove '..UptoSaid'. A law counts once. -/
mutual
def uptoBulk {H : Type} : DataW H → Nat
  | .lit (.string bytes) => bytes.length + 1
  | .lit _ => 1
  | .nil => 1
  | .ptr d => uptoBulk d + 1
  | .slice elems spare => uptoBulkAll elems + uptoBulkAll spare + 1
  | .agg parts => uptoBulkAll parts + 1
  | .iface _ d => uptoBulk d + 1
  | .map entries => uptoBulkEntries entries + 1
  | .held _ => 1
def uptoBulkAll {H : Type} : List (DataW H) → Nat
  | [] => 0
  | d :: r => uptoBulk d + uptoBulkAll r
def uptoBulkEntries {H : Type} : List (Lit × DataW H) → Nat
  | [] => 0
  | x :: r => uptoBulkEntry x + uptoBulkEntries r
def uptoBulkEntry {H : Type} : Lit × DataW H → Nat
  | (.string bytes, d) => bytes.length + uptoBulk d + 1
  | (_, d) => uptoBulk d + 1
 end
def uptoSmall : (H : Type) → List (DataW H) → Bool := fun _ ds => decide (uptoBulkAll ds ≤ 1048576)
def OpenSpec.upto (s : _root_.Go.ChangeSpec) : _root_.Go.OpenSpec := { _root_.Go.OpenSpec.ofChange s with cond := some uptoSmall }

/-- 'regimenlaw12.ScanTokens', WHERE WHAT IT READS IS OF BULK AT MOST 1048576: true; the input reads as it did. -/
def scanTokensUptoRow : OpenClaim := { program := "ytnmmhfpekeeedaa", sum := "5d60f8ab57933676cff69aae23e720606b352dce164f5de1ee19819a62a37a42", func := "regimen/regimenlaw12.ScanTokens", spec := "scanTokens", inPlace := ["internal/bytealg.IndexByteString"], unfollowed := true, recurses := true, apart := false, narrowed := true }
def ScanTokensUptoSaid : Prop := scanTokensUptoRow.holds Try.pinned (OpenSpec.upto scanTokensSpec)

/-- 'regimenlaw12.ScanFull', WHERE WHAT IT READS IS OF BULK AT MOST 1048576: true; the input reads as it did. -/
def scanFullUptoRow : OpenClaim := { program := "ytnmmhfpekeeedaa", sum := "5d60f8ab57933676cff69aae23e720606b352dce164f5de1ee19819a62a37a42", func := "regimen/regimenlaw12.ScanFull", spec := "scanFull", inPlace := ["internal/bytealg.IndexByteString"], unfollowed := true, recurses := true, apart := false, narrowed := true }
def ScanFullUptoSaid : Prop := scanFullUptoRow.holds Try.pinned (OpenSpec.upto scanFullSpec)

/-- 'regimenlaw29.BetterLaws', WHERE WHAT IT READS IS OF BULK AT MOST 1048576: true; the input reads as it did. -/
def betterLawsUptoRow : OpenClaim := { program := "ytnmmhfpekeeedaa", sum := "5d60f8ab57933676cff69aae23e720606b352dce164f5de1ee19819a62a37a42", func := "regimen/regimenlaw29.BetterLaws", spec := "betterLaws", unfollowed := true, recurses := true, named := ["math/bits.divideError", "math/bits.overflowError"], apart := false, narrowed := true }
def BetterLawsUptoSaid : Prop := betterLawsUptoRow.holds Try.pinned (OpenSpec.upto betterLawsSpec)

/-- 'regimenlaw29.BetterFirst', WHERE WHAT IT READS IS OF BULK AT MOST 1048576: true; the input reads as it did. -/
def betterFirstUptoRow : OpenClaim := { program := "ytnmmhfpekeeedaa", sum := "5d60f8ab57933676cff69aae23e720606b352dce164f5de1ee19819a62a37a42", func := "regimen/regimenlaw29.BetterFirst", spec := "betterFirst", unfollowed := true, recurses := true, named := ["math/bits.divideError", "math/bits.overflowError"], apart := false, narrowed := true }
def BetterFirstUptoSaid : Prop := betterFirstUptoRow.holds Try.pinned (OpenSpec.upto betterFirstSpec)

/-- 'regimenlaw13.CursorNobody', WHERE WHAT IT READS IS OF BULK AT MOST 1048576: true; the input reads as it did. -/
def cursorNobodyUptoRow : OpenClaim := { program := "ytnmmhfpekeeedaa", sum := "5d60f8ab57933676cff69aae23e720606b352dce164f5de1ee19819a62a37a42", func := "regimen/regimenlaw13.CursorNobody", spec := "cursorNobody", named := ["math/bits.divideError", "math/bits.overflowError"], apart := false, narrowed := true }
def CursorNobodyUptoSaid : Prop := cursorNobodyUptoRow.holds Try.pinned (OpenSpec.upto cursorNobodySpec)

/-- 'regimenlaw14.LengthPuts', WHERE WHAT IT READS IS OF BULK AT MOST 1048576: true; the input reads as it did. -/
def lengthPutsUptoRow : OpenClaim := { program := "ytnmmhfpekeeedaa", sum := "5d60f8ab57933676cff69aae23e720606b352dce164f5de1ee19819a62a37a42", func := "regimen/regimenlaw14.LengthPuts", spec := "lengthPuts", inPlace := ["internal/bytealg.IndexByteString"], unfollowed := true, recurses := true, apart := false, narrowed := true }
def LengthPutsUptoSaid : Prop := lengthPutsUptoRow.holds Try.pinned (OpenSpec.upto lengthPutsSpec)

/-- 'regimenlaw14.LengthReads', WHERE WHAT IT READS IS OF BULK AT MOST 1048576: true; the input reads as it did. -/
def lengthReadsUptoRow : OpenClaim := { program := "ytnmmhfpekeeedaa", sum := "5d60f8ab57933676cff69aae23e720606b352dce164f5de1ee19819a62a37a42", func := "regimen/regimenlaw14.LengthReads", spec := "lengthReads", inPlace := ["internal/bytealg.IndexByteString"], unfollowed := true, recurses := true, apart := false, narrowed := true }
def LengthReadsUptoSaid : Prop := lengthReadsUptoRow.holds Try.pinned (OpenSpec.upto lengthReadsSpec)

/-- 'regimenlaw14.LengthSteps', WHERE WHAT IT READS IS OF BULK AT MOST 1048576: true; the input reads as it did. -/
def lengthStepsUptoRow : OpenClaim := { program := "ytnmmhfpekeeedaa", sum := "5d60f8ab57933676cff69aae23e720606b352dce164f5de1ee19819a62a37a42", func := "regimen/regimenlaw14.LengthSteps", spec := "lengthSteps", inPlace := ["internal/bytealg.IndexByteString"], unfollowed := true, recurses := true, apart := false, narrowed := true }
def LengthStepsUptoSaid : Prop := lengthStepsUptoRow.holds Try.pinned (OpenSpec.upto lengthStepsSpec)

end Rows
end Go.Proofs.Ytnmmhfpekeeedaa
