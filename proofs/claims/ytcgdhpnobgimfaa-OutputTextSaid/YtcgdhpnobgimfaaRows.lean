/-
  No cell of these rows narrows 'for every input' (looked for: loops, veiled, ifaces, maps, wideKeys, modest, calm, conditions, laid).
  DERIVED. THE GIVEN ROWS OF THIS SEAT. 5 by the template 'for every input the law returns true; each argument reads behind the call as it read before'; 0 by the template 'total and deterministic' (their statements: YtcgdhpnobgimfaaTotals.lean).
  GIVEN WITH THE SEED: the statements are not yours to turn. If you find one false, say at which input.
  Laid BY PROGRAM, IN A SANDBOX (cutbox-rows.mjs): the forced cells as the released guide's own fill.sh prints them over the translation 95153f445d7b83c8… (all of the seat's roots in one cut). By AI agents, Wed Nov 11 2026. No macro, syntax, notation, axiom, sorry.
-/
import Derived.Test.YtcgdhpnobgimfaaChecked
import GoSem.Claim
import GoSem.ClaimJoined
import GoSem.ClaimMapViews
import Derived.JoinedTies
import Derived.KernelRfl
namespace Go.Proofs.Ytcgdhpnobgimfaa
/- THE CELL 'sum', in the pinned program and in every row, IS THE sha256 OF THE DUMP (.gsa) THAT YtcgdhpnobgimfaaProg.lean LOADS. Nothing in Lean hashes anything: it is a label: what it is worth is what the hold of that sum in a sandbox is worth. -/
noncomputable def Try.pinned : Pinned := { name := "ytcgdhpnobgimfaa", sum := "95153f445d7b83c8fd516bad3a67c07559d43e823401c308703c49f65d2fed79", checked := Try.checked }
namespace Rows
def none {H : Type} : Left H := { results := [], args := [] }

/-- 'regimenlaw36.EventsLines': WHATEVER THE INPUT: true; the input reads as it did. -/
def eventsLinesSpec : ChangeSpec := { name := "eventsLines", fn := fun _ => fun
  | [d] => { results := [.lit (.bool true)], args := [d] }
  | _ => none }
def eventsLinesRow : OpenClaim := { program := "ytcgdhpnobgimfaa", sum := "95153f445d7b83c8fd516bad3a67c07559d43e823401c308703c49f65d2fed79", func := "regimen/regimenlaw36.EventsLines", spec := "eventsLines", inPlace := ["internal/bytealg.IndexByteString", "internal/bytealg.IndexString"], named := ["internal/bytealg.MaxLen"], apart := false }
def EventsLinesSaid : Prop := eventsLinesRow.holds Try.pinned (OpenSpec.ofChange eventsLinesSpec)

/-- ITS FALSE NEIGHBOUR: 'it returns false'. Refute it at one input. -/
def eventsLinesWrong : ChangeSpec := { name := "eventsLines", fn := fun _ => fun
  | [d] => { results := [.lit (.bool false)], args := [d] }
  | _ => none }
def EventsLinesWrongFalsely : Prop := eventsLinesRow.holds Try.pinned (OpenSpec.ofChange eventsLinesWrong)

/-- 'regimenlaw36.EventsParses': WHATEVER THE INPUT: true; the input reads as it did. -/
def eventsParsesSpec : ChangeSpec := { name := "eventsParses", fn := fun _ => fun
  | [d1, d2] => { results := [.lit (.bool true)], args := [d1, d2] }
  | _ => none }
def eventsParsesRow : OpenClaim := { program := "ytcgdhpnobgimfaa", sum := "95153f445d7b83c8fd516bad3a67c07559d43e823401c308703c49f65d2fed79", func := "regimen/regimenlaw36.EventsParses", spec := "eventsParses", inPlace := ["internal/bytealg.IndexByteString", "internal/bytealg.IndexString"], named := ["internal/bytealg.MaxLen"], apart := false }
def EventsParsesSaid : Prop := eventsParsesRow.holds Try.pinned (OpenSpec.ofChange eventsParsesSpec)

/-- ITS FALSE NEIGHBOUR: 'it returns false'. Refute it at one input. -/
def eventsParsesWrong : ChangeSpec := { name := "eventsParses", fn := fun _ => fun
  | [d1, d2] => { results := [.lit (.bool false)], args := [d1, d2] }
  | _ => none }
def EventsParsesWrongFalsely : Prop := eventsParsesRow.holds Try.pinned (OpenSpec.ofChange eventsParsesWrong)

/-- 'regimenlaw45.OutputLines': WHATEVER THE INPUT: true; the input reads as it did. -/
def outputLinesSpec : ChangeSpec := { name := "outputLines", fn := fun _ => fun
  | [d1, d2] => { results := [.lit (.bool true)], args := [d1, d2] }
  | _ => none }
def outputLinesRow : OpenClaim := { program := "ytcgdhpnobgimfaa", sum := "95153f445d7b83c8fd516bad3a67c07559d43e823401c308703c49f65d2fed79", func := "regimen/regimenlaw45.OutputLines", spec := "outputLines", inPlace := ["internal/abi.NoEscape", "internal/bytealg.MakeNoZero"], named := ["math/bits.divideError", "math/bits.overflowError"], apart := false }
def OutputLinesSaid : Prop := outputLinesRow.holds Try.pinned (OpenSpec.ofChange outputLinesSpec)

/-- ITS FALSE NEIGHBOUR: 'it returns false'. Refute it at one input. -/
def outputLinesWrong : ChangeSpec := { name := "outputLines", fn := fun _ => fun
  | [d1, d2] => { results := [.lit (.bool false)], args := [d1, d2] }
  | _ => none }
def OutputLinesWrongFalsely : Prop := outputLinesRow.holds Try.pinned (OpenSpec.ofChange outputLinesWrong)

/-- 'regimenlaw45.OutputText': WHATEVER THE INPUT: true; the input reads as it did. -/
def outputTextSpec : ChangeSpec := { name := "outputText", fn := fun _ => fun
  | [d1, d2] => { results := [.lit (.bool true)], args := [d1, d2] }
  | _ => none }
def outputTextRow : OpenClaim := { program := "ytcgdhpnobgimfaa", sum := "95153f445d7b83c8fd516bad3a67c07559d43e823401c308703c49f65d2fed79", func := "regimen/regimenlaw45.OutputText", spec := "outputText", inPlace := ["internal/abi.NoEscape", "internal/bytealg.MakeNoZero"], unfollowed := true, recurses := true, named := ["math/bits.divideError", "math/bits.overflowError"], apart := false }
def OutputTextSaid : Prop := outputTextRow.holds Try.pinned (OpenSpec.ofChange outputTextSpec)

/-- ITS FALSE NEIGHBOUR: 'it returns false'. Refute it at one input. -/
def outputTextWrong : ChangeSpec := { name := "outputText", fn := fun _ => fun
  | [d1, d2] => { results := [.lit (.bool false)], args := [d1, d2] }
  | _ => none }
def OutputTextWrongFalsely : Prop := outputTextRow.holds Try.pinned (OpenSpec.ofChange outputTextWrong)

/-- 'regimenlaw36.EventsSort': WHATEVER THE INPUT: true; the input reads as it did. -/
def eventsSortSpec : ChangeSpec := { name := "eventsSort", fn := fun _ => fun
  | [d1, d2] => { results := [.lit (.bool true)], args := [d1, d2] }
  | _ => none }
def eventsSortRow : OpenClaim := { program := "ytcgdhpnobgimfaa", sum := "95153f445d7b83c8fd516bad3a67c07559d43e823401c308703c49f65d2fed79", func := "regimen/regimenlaw36.EventsSort", spec := "eventsSort", inPlace := ["internal/bytealg.IndexByteString", "internal/bytealg.IndexString"], unfollowed := true, recurses := true, named := ["internal/bytealg.MaxLen"], apart := false }
def EventsSortSaid : Prop := eventsSortRow.holds Try.pinned (OpenSpec.ofChange eventsSortSpec)

/-- ITS FALSE NEIGHBOUR: 'it returns false'. Refute it at one input. -/
def eventsSortWrong : ChangeSpec := { name := "eventsSort", fn := fun _ => fun
  | [d1, d2] => { results := [.lit (.bool false)], args := [d1, d2] }
  | _ => none }
def EventsSortWrongFalsely : Prop := eventsSortRow.holds Try.pinned (OpenSpec.ofChange eventsSortWrong)

/- THE SECOND FORM. 'bulk': how many values and letters a reading holds, each counted each time it is reached (what is shared counts as often as it is met; a slice's spare places count too). A statement '..UptoSaid' is the law's where the arguments, and the package variables that the reading takes, are together of bulk at most 1048576: NARROWER than '..Said'. Prove '..Said' where nothing that the law and all that it calls make is longer than what came in: it says more and counts as full. Else prove '..UptoSaid'. A law counts once. -/
mutual
def uptoBulk {H : Type} : DataW H → Nat
  | .lit (.string bytes) => bytes.length + 1
  | .lit _ => 1
  | .nil => 1
  | .ptr d => uptoBulk d + 1
  | .slice elems spare => uptoBulkAll elems + uptoBulkAll spare + 1
  | .agg parts => uptoBulkAll parts + 1
  | .iface _ d => uptoBulk d + 1
  | .map entries => uptoBulkEntries entries + 1
  | .held _ => 1
def uptoBulkAll {H : Type} : List (DataW H) → Nat
  | [] => 0
  | d :: r => uptoBulk d + uptoBulkAll r
def uptoBulkEntries {H : Type} : List (Lit × DataW H) → Nat
  | [] => 0
  | x :: r => uptoBulkEntry x + uptoBulkEntries r
def uptoBulkEntry {H : Type} : Lit × DataW H → Nat
  | (.string bytes, d) => bytes.length + uptoBulk d + 1
  | (_, d) => uptoBulk d + 1
 end
def uptoSmall : (H : Type) → List (DataW H) → Bool := fun _ ds => decide (uptoBulkAll ds ≤ 1048576)
def OpenSpec.upto (s : _root_.Go.ChangeSpec) : _root_.Go.OpenSpec := { _root_.Go.OpenSpec.ofChange s with cond := some uptoSmall }

/-- 'regimenlaw36.EventsLines', WHERE WHAT IT READS IS OF BULK AT MOST 1048576: true; the input reads as it did. -/
def eventsLinesUptoRow : OpenClaim := { program := "ytcgdhpnobgimfaa", sum := "95153f445d7b83c8fd516bad3a67c07559d43e823401c308703c49f65d2fed79", func := "regimen/regimenlaw36.EventsLines", spec := "eventsLines", inPlace := ["internal/bytealg.IndexByteString", "internal/bytealg.IndexString"], named := ["internal/bytealg.MaxLen"], apart := false, narrowed := true }
def EventsLinesUptoSaid : Prop := eventsLinesUptoRow.holds Try.pinned (OpenSpec.upto eventsLinesSpec)

/-- 'regimenlaw36.EventsParses', WHERE WHAT IT READS IS OF BULK AT MOST 1048576: true; the input reads as it did. -/
def eventsParsesUptoRow : OpenClaim := { program := "ytcgdhpnobgimfaa", sum := "95153f445d7b83c8fd516bad3a67c07559d43e823401c308703c49f65d2fed79", func := "regimen/regimenlaw36.EventsParses", spec := "eventsParses", inPlace := ["internal/bytealg.IndexByteString", "internal/bytealg.IndexString"], named := ["internal/bytealg.MaxLen"], apart := false, narrowed := true }
def EventsParsesUptoSaid : Prop := eventsParsesUptoRow.holds Try.pinned (OpenSpec.upto eventsParsesSpec)

/-- 'regimenlaw45.OutputLines', WHERE WHAT IT READS IS OF BULK AT MOST 1048576: true; the input reads as it did. -/
def outputLinesUptoRow : OpenClaim := { program := "ytcgdhpnobgimfaa", sum := "95153f445d7b83c8fd516bad3a67c07559d43e823401c308703c49f65d2fed79", func := "regimen/regimenlaw45.OutputLines", spec := "outputLines", inPlace := ["internal/abi.NoEscape", "internal/bytealg.MakeNoZero"], named := ["math/bits.divideError", "math/bits.overflowError"], apart := false, narrowed := true }
def OutputLinesUptoSaid : Prop := outputLinesUptoRow.holds Try.pinned (OpenSpec.upto outputLinesSpec)

/-- 'regimenlaw45.OutputText', WHERE WHAT IT READS IS OF BULK AT MOST 1048576: true; the input reads as it did. -/
def outputTextUptoRow : OpenClaim := { program := "ytcgdhpnobgimfaa", sum := "95153f445d7b83c8fd516bad3a67c07559d43e823401c308703c49f65d2fed79", func := "regimen/regimenlaw45.OutputText", spec := "outputText", inPlace := ["internal/abi.NoEscape", "internal/bytealg.MakeNoZero"], unfollowed := true, recurses := true, named := ["math/bits.divideError", "math/bits.overflowError"], apart := false, narrowed := true }
def OutputTextUptoSaid : Prop := outputTextUptoRow.holds Try.pinned (OpenSpec.upto outputTextSpec)

/-- 'regimenlaw36.EventsSort', WHERE WHAT IT READS IS OF BULK AT MOST 1048576: true; the input reads as it did. -/
def eventsSortUptoRow : OpenClaim := { program := "ytcgdhpnobgimfaa", sum := "95153f445d7b83c8fd516bad3a67c07559d43e823401c308703c49f65d2fed79", func := "regimen/regimenlaw36.EventsSort", spec := "eventsSort", inPlace := ["internal/bytealg.IndexByteString", "internal/bytealg.IndexString"], unfollowed := true, recurses := true, named := ["internal/bytealg.MaxLen"], apart := false, narrowed := true }
def EventsSortUptoSaid : Prop := eventsSortUptoRow.holds Try.pinned (OpenSpec.upto eventsSortSpec)

end Rows
end Go.Proofs.Ytcgdhpnobgimfaa
