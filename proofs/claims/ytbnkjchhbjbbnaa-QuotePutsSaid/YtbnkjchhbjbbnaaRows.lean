/-
  No cell of these rows narrows 'for every input' (looked for: loops, veiled, ifaces, maps, wideKeys, modest, calm, conditions, laid).
  DERIVED. THE GIVEN ROWS OF THIS SEAT. 11 by the template 'for every input the law returns true; each argument reads behind the call as it read before'; 0 by the template 'total and deterministic' (their statements: YtbnkjchhbjbbnaaTotals.lean).
  GIVEN WITH THE SEED: the statements are not yours to turn. If you find one false, say at which input.
  Laid BY PROGRAM, IN A SANDBOX (cutbox-rows.mjs): the forced cells as the released guide's own fill.sh prints them over the translation 8e2db4622f14153f… (all of the seat's roots in one cut). By AI agents, Wed Nov 11 2026. No macro, syntax, notation, axiom, sorry.
-/
import Derived.Test.YtbnkjchhbjbbnaaChecked
import GoSem.Claim
import GoSem.ClaimJoined
import GoSem.ClaimMapViews
import Derived.JoinedTies
import Derived.KernelRfl
namespace Go.Proofs.Ytbnkjchhbjbbnaa
/- THE CELL 'sum', in the pinned program and in every row, IS THE sha256 OF THE DUMP (.gsa) THAT YtbnkjchhbjbbnaaProg.lean LOADS. Nothing in Lean hashes anything: it is a label: what it is worth is what the hold of that sum in a sandbox is worth. -/
noncomputable def Try.pinned : Pinned := { name := "ytbnkjchhbjbbnaa", sum := "8e2db4622f14153f6aea57e23d8323ccb0a1c7a8dcb8362327c976efef3e08a9", checked := Try.checked }
namespace Rows
def none {H : Type} : Left H := { results := [], args := [] }

/-- 'regimenlaw02.PairMuls': WHATEVER THE INPUT: true; the input reads as it did. -/
def pairMulsSpec : ChangeSpec := { name := "pairMuls", fn := fun _ => fun
  | [d1, d2] => { results := [.lit (.bool true)], args := [d1, d2] }
  | _ => none }
def pairMulsRow : OpenClaim := { program := "ytbnkjchhbjbbnaa", sum := "8e2db4622f14153f6aea57e23d8323ccb0a1c7a8dcb8362327c976efef3e08a9", func := "regimen/regimenlaw02.PairMuls", spec := "pairMuls", apart := false }
def PairMulsSaid : Prop := pairMulsRow.holds Try.pinned (OpenSpec.ofChange pairMulsSpec)

/-- ITS FALSE NEIGHBOUR: 'it returns false'. Refute it at one input. -/
def pairMulsWrong : ChangeSpec := { name := "pairMuls", fn := fun _ => fun
  | [d1, d2] => { results := [.lit (.bool false)], args := [d1, d2] }
  | _ => none }
def PairMulsWrongFalsely : Prop := pairMulsRow.holds Try.pinned (OpenSpec.ofChange pairMulsWrong)

/-- 'regimenlaw02.PairShifts': WHATEVER THE INPUT: true; the input reads as it did. -/
def pairShiftsSpec : ChangeSpec := { name := "pairShifts", fn := fun _ => fun
  | [d1, d2] => { results := [.lit (.bool true)], args := [d1, d2] }
  | _ => none }
def pairShiftsRow : OpenClaim := { program := "ytbnkjchhbjbbnaa", sum := "8e2db4622f14153f6aea57e23d8323ccb0a1c7a8dcb8362327c976efef3e08a9", func := "regimen/regimenlaw02.PairShifts", spec := "pairShifts", apart := false }
def PairShiftsSaid : Prop := pairShiftsRow.holds Try.pinned (OpenSpec.ofChange pairShiftsSpec)

/-- ITS FALSE NEIGHBOUR: 'it returns false'. Refute it at one input. -/
def pairShiftsWrong : ChangeSpec := { name := "pairShifts", fn := fun _ => fun
  | [d1, d2] => { results := [.lit (.bool false)], args := [d1, d2] }
  | _ => none }
def PairShiftsWrongFalsely : Prop := pairShiftsRow.holds Try.pinned (OpenSpec.ofChange pairShiftsWrong)

/-- 'regimenlaw01.NumPuts': WHATEVER THE INPUT: true; the input reads as it did. -/
def numPutsSpec : ChangeSpec := { name := "numPuts", fn := fun _ => fun
  | [d] => { results := [.lit (.bool true)], args := [d] }
  | _ => none }
def numPutsRow : OpenClaim := { program := "ytbnkjchhbjbbnaa", sum := "8e2db4622f14153f6aea57e23d8323ccb0a1c7a8dcb8362327c976efef3e08a9", func := "regimen/regimenlaw01.NumPuts", spec := "numPuts", apart := false }
def NumPutsSaid : Prop := numPutsRow.holds Try.pinned (OpenSpec.ofChange numPutsSpec)

/-- ITS FALSE NEIGHBOUR: 'it returns false'. Refute it at one input. -/
def numPutsWrong : ChangeSpec := { name := "numPuts", fn := fun _ => fun
  | [d] => { results := [.lit (.bool false)], args := [d] }
  | _ => none }
def NumPutsWrongFalsely : Prop := numPutsRow.holds Try.pinned (OpenSpec.ofChange numPutsWrong)

/-- 'regimenlaw01.NumGets': WHATEVER THE INPUT: true; the input reads as it did. -/
def numGetsSpec : ChangeSpec := { name := "numGets", fn := fun _ => fun
  | [d] => { results := [.lit (.bool true)], args := [d] }
  | _ => none }
def numGetsRow : OpenClaim := { program := "ytbnkjchhbjbbnaa", sum := "8e2db4622f14153f6aea57e23d8323ccb0a1c7a8dcb8362327c976efef3e08a9", func := "regimen/regimenlaw01.NumGets", spec := "numGets", apart := false }
def NumGetsSaid : Prop := numGetsRow.holds Try.pinned (OpenSpec.ofChange numGetsSpec)

/-- ITS FALSE NEIGHBOUR: 'it returns false'. Refute it at one input. -/
def numGetsWrong : ChangeSpec := { name := "numGets", fn := fun _ => fun
  | [d] => { results := [.lit (.bool false)], args := [d] }
  | _ => none }
def NumGetsWrongFalsely : Prop := numGetsRow.holds Try.pinned (OpenSpec.ofChange numGetsWrong)

/-- 'regimenlaw01.NumLeads': WHATEVER THE INPUT: true; the input reads as it did. -/
def numLeadsSpec : ChangeSpec := { name := "numLeads", fn := fun _ => fun
  | [d] => { results := [.lit (.bool true)], args := [d] }
  | _ => none }
def numLeadsRow : OpenClaim := { program := "ytbnkjchhbjbbnaa", sum := "8e2db4622f14153f6aea57e23d8323ccb0a1c7a8dcb8362327c976efef3e08a9", func := "regimen/regimenlaw01.NumLeads", spec := "numLeads", apart := false }
def NumLeadsSaid : Prop := numLeadsRow.holds Try.pinned (OpenSpec.ofChange numLeadsSpec)

/-- ITS FALSE NEIGHBOUR: 'it returns false'. Refute it at one input. -/
def numLeadsWrong : ChangeSpec := { name := "numLeads", fn := fun _ => fun
  | [d] => { results := [.lit (.bool false)], args := [d] }
  | _ => none }
def NumLeadsWrongFalsely : Prop := numLeadsRow.holds Try.pinned (OpenSpec.ofChange numLeadsWrong)

/-- 'regimenlaw02.PairAdds': WHATEVER THE INPUT: true; the input reads as it did. -/
def pairAddsSpec : ChangeSpec := { name := "pairAdds", fn := fun _ => fun
  | [d1, d2] => { results := [.lit (.bool true)], args := [d1, d2] }
  | _ => none }
def pairAddsRow : OpenClaim := { program := "ytbnkjchhbjbbnaa", sum := "8e2db4622f14153f6aea57e23d8323ccb0a1c7a8dcb8362327c976efef3e08a9", func := "regimen/regimenlaw02.PairAdds", spec := "pairAdds", apart := false }
def PairAddsSaid : Prop := pairAddsRow.holds Try.pinned (OpenSpec.ofChange pairAddsSpec)

/-- ITS FALSE NEIGHBOUR: 'it returns false'. Refute it at one input. -/
def pairAddsWrong : ChangeSpec := { name := "pairAdds", fn := fun _ => fun
  | [d1, d2] => { results := [.lit (.bool false)], args := [d1, d2] }
  | _ => none }
def PairAddsWrongFalsely : Prop := pairAddsRow.holds Try.pinned (OpenSpec.ofChange pairAddsWrong)

/-- 'regimenlaw11.QuotePuts': WHATEVER THE INPUT: true; the input reads as it did. -/
def quotePutsSpec : ChangeSpec := { name := "quotePuts", fn := fun _ => fun
  | [d1, d2] => { results := [.lit (.bool true)], args := [d1, d2] }
  | _ => none }
def quotePutsRow : OpenClaim := { program := "ytbnkjchhbjbbnaa", sum := "8e2db4622f14153f6aea57e23d8323ccb0a1c7a8dcb8362327c976efef3e08a9", func := "regimen/regimenlaw11.QuotePuts", spec := "quotePuts", inPlace := ["internal/bytealg.IndexByteString"], apart := false }
def QuotePutsSaid : Prop := quotePutsRow.holds Try.pinned (OpenSpec.ofChange quotePutsSpec)

/-- ITS FALSE NEIGHBOUR: 'it returns false'. Refute it at one input. -/
def quotePutsWrong : ChangeSpec := { name := "quotePuts", fn := fun _ => fun
  | [d1, d2] => { results := [.lit (.bool false)], args := [d1, d2] }
  | _ => none }
def QuotePutsWrongFalsely : Prop := quotePutsRow.holds Try.pinned (OpenSpec.ofChange quotePutsWrong)

/-- 'regimenlaw11.QuoteGets': WHATEVER THE INPUT: true; the input reads as it did. -/
def quoteGetsSpec : ChangeSpec := { name := "quoteGets", fn := fun _ => fun
  | [d] => { results := [.lit (.bool true)], args := [d] }
  | _ => none }
def quoteGetsRow : OpenClaim := { program := "ytbnkjchhbjbbnaa", sum := "8e2db4622f14153f6aea57e23d8323ccb0a1c7a8dcb8362327c976efef3e08a9", func := "regimen/regimenlaw11.QuoteGets", spec := "quoteGets", inPlace := ["internal/bytealg.IndexByteString"], apart := false }
def QuoteGetsSaid : Prop := quoteGetsRow.holds Try.pinned (OpenSpec.ofChange quoteGetsSpec)

/-- ITS FALSE NEIGHBOUR: 'it returns false'. Refute it at one input. -/
def quoteGetsWrong : ChangeSpec := { name := "quoteGets", fn := fun _ => fun
  | [d] => { results := [.lit (.bool false)], args := [d] }
  | _ => none }
def QuoteGetsWrongFalsely : Prop := quoteGetsRow.holds Try.pinned (OpenSpec.ofChange quoteGetsWrong)

/-- 'regimenlaw03.HalfOver': WHATEVER THE INPUT: true; the input reads as it did. -/
def halfOverSpec : ChangeSpec := { name := "halfOver", fn := fun _ => fun
  | [d1, d2] => { results := [.lit (.bool true)], args := [d1, d2] }
  | _ => none }
def halfOverRow : OpenClaim := { program := "ytbnkjchhbjbbnaa", sum := "8e2db4622f14153f6aea57e23d8323ccb0a1c7a8dcb8362327c976efef3e08a9", func := "regimen/regimenlaw03.HalfOver", spec := "halfOver", named := ["math/bits.divideError", "math/bits.overflowError"], apart := false }
def HalfOverSaid : Prop := halfOverRow.holds Try.pinned (OpenSpec.ofChange halfOverSpec)

/-- ITS FALSE NEIGHBOUR: 'it returns false'. Refute it at one input. -/
def halfOverWrong : ChangeSpec := { name := "halfOver", fn := fun _ => fun
  | [d1, d2] => { results := [.lit (.bool false)], args := [d1, d2] }
  | _ => none }
def HalfOverWrongFalsely : Prop := halfOverRow.holds Try.pinned (OpenSpec.ofChange halfOverWrong)

/-- 'regimenlaw03.HalfNearest': WHATEVER THE INPUT: true; the input reads as it did. -/
def halfNearestSpec : ChangeSpec := { name := "halfNearest", fn := fun _ => fun
  | [d1, d2] => { results := [.lit (.bool true)], args := [d1, d2] }
  | _ => none }
def halfNearestRow : OpenClaim := { program := "ytbnkjchhbjbbnaa", sum := "8e2db4622f14153f6aea57e23d8323ccb0a1c7a8dcb8362327c976efef3e08a9", func := "regimen/regimenlaw03.HalfNearest", spec := "halfNearest", named := ["math/bits.divideError", "math/bits.overflowError"], apart := false }
def HalfNearestSaid : Prop := halfNearestRow.holds Try.pinned (OpenSpec.ofChange halfNearestSpec)

/-- ITS FALSE NEIGHBOUR: 'it returns false'. Refute it at one input. -/
def halfNearestWrong : ChangeSpec := { name := "halfNearest", fn := fun _ => fun
  | [d1, d2] => { results := [.lit (.bool false)], args := [d1, d2] }
  | _ => none }
def HalfNearestWrongFalsely : Prop := halfNearestRow.holds Try.pinned (OpenSpec.ofChange halfNearestWrong)

/-- 'regimenlaw03.HalfNear': WHATEVER THE INPUT: true; the input reads as it did. -/
def halfNearSpec : ChangeSpec := { name := "halfNear", fn := fun _ => fun
  | [d1, d2, d3] => { results := [.lit (.bool true)], args := [d1, d2, d3] }
  | _ => none }
def halfNearRow : OpenClaim := { program := "ytbnkjchhbjbbnaa", sum := "8e2db4622f14153f6aea57e23d8323ccb0a1c7a8dcb8362327c976efef3e08a9", func := "regimen/regimenlaw03.HalfNear", spec := "halfNear", named := ["math/bits.divideError", "math/bits.overflowError"], apart := false }
def HalfNearSaid : Prop := halfNearRow.holds Try.pinned (OpenSpec.ofChange halfNearSpec)

/-- ITS FALSE NEIGHBOUR: 'it returns false'. Refute it at one input. -/
def halfNearWrong : ChangeSpec := { name := "halfNear", fn := fun _ => fun
  | [d1, d2, d3] => { results := [.lit (.bool false)], args := [d1, d2, d3] }
  | _ => none }
def HalfNearWrongFalsely : Prop := halfNearRow.holds Try.pinned (OpenSpec.ofChange halfNearWrong)

/- THE SECOND FORM. 'bulk': how many values and letters a reading holds, each counted each time it is reached (what is shared counts as often as it is met; a slice's spare places count too). A statement '..UptoSaid' is the law's where the arguments, and the package variables that the reading takes, are together of bulk at most 1048576: NARROWER than '..Said'. Prove '..Said' where nothing that the law and all that it calls make is longer than what came in: it says more and counts as full. Else prove '..UptoSaid'. A law counts once. -/
mutual
def uptoBulk {H : Type} : DataW H → Nat
  | .lit (.string bytes) => bytes.length + 1
  | .lit _ => 1
  | .nil => 1
  | .ptr d => uptoBulk d + 1
  | .slice elems spare => uptoBulkAll elems + uptoBulkAll spare + 1
  | .agg parts => uptoBulkAll parts + 1
  | .iface _ d => uptoBulk d + 1
  | .map entries => uptoBulkEntries entries + 1
  | .held _ => 1
def uptoBulkAll {H : Type} : List (DataW H) → Nat
  | [] => 0
  | d :: r => uptoBulk d + uptoBulkAll r
def uptoBulkEntries {H : Type} : List (Lit × DataW H) → Nat
  | [] => 0
  | x :: r => uptoBulkEntry x + uptoBulkEntries r
def uptoBulkEntry {H : Type} : Lit × DataW H → Nat
  | (.string bytes, d) => bytes.length + uptoBulk d + 1
  | (_, d) => uptoBulk d + 1
 end
def uptoSmall : (H : Type) → List (DataW H) → Bool := fun _ ds => decide (uptoBulkAll ds ≤ 1048576)
def OpenSpec.upto (s : _root_.Go.ChangeSpec) : _root_.Go.OpenSpec := { _root_.Go.OpenSpec.ofChange s with cond := some uptoSmall }

/-- 'regimenlaw02.PairMuls', WHERE WHAT IT READS IS OF BULK AT MOST 1048576: true; the input reads as it did. -/
def pairMulsUptoRow : OpenClaim := { program := "ytbnkjchhbjbbnaa", sum := "8e2db4622f14153f6aea57e23d8323ccb0a1c7a8dcb8362327c976efef3e08a9", func := "regimen/regimenlaw02.PairMuls", spec := "pairMuls", apart := false, narrowed := true }
def PairMulsUptoSaid : Prop := pairMulsUptoRow.holds Try.pinned (OpenSpec.upto pairMulsSpec)

/-- 'regimenlaw02.PairShifts', WHERE WHAT IT READS IS OF BULK AT MOST 1048576: true; the input reads as it did. -/
def pairShiftsUptoRow : OpenClaim := { program := "ytbnkjchhbjbbnaa", sum := "8e2db4622f14153f6aea57e23d8323ccb0a1c7a8dcb8362327c976efef3e08a9", func := "regimen/regimenlaw02.PairShifts", spec := "pairShifts", apart := false, narrowed := true }
def PairShiftsUptoSaid : Prop := pairShiftsUptoRow.holds Try.pinned (OpenSpec.upto pairShiftsSpec)

/-- 'regimenlaw01.NumPuts', WHERE WHAT IT READS IS OF BULK AT MOST 1048576: true; the input reads as it did. -/
def numPutsUptoRow : OpenClaim := { program := "ytbnkjchhbjbbnaa", sum := "8e2db4622f14153f6aea57e23d8323ccb0a1c7a8dcb8362327c976efef3e08a9", func := "regimen/regimenlaw01.NumPuts", spec := "numPuts", apart := false, narrowed := true }
def NumPutsUptoSaid : Prop := numPutsUptoRow.holds Try.pinned (OpenSpec.upto numPutsSpec)

/-- 'regimenlaw01.NumGets', WHERE WHAT IT READS IS OF BULK AT MOST 1048576: true; the input reads as it did. -/
def numGetsUptoRow : OpenClaim := { program := "ytbnkjchhbjbbnaa", sum := "8e2db4622f14153f6aea57e23d8323ccb0a1c7a8dcb8362327c976efef3e08a9", func := "regimen/regimenlaw01.NumGets", spec := "numGets", apart := false, narrowed := true }
def NumGetsUptoSaid : Prop := numGetsUptoRow.holds Try.pinned (OpenSpec.upto numGetsSpec)

/-- 'regimenlaw01.NumLeads', WHERE WHAT IT READS IS OF BULK AT MOST 1048576: true; the input reads as it did. -/
def numLeadsUptoRow : OpenClaim := { program := "ytbnkjchhbjbbnaa", sum := "8e2db4622f14153f6aea57e23d8323ccb0a1c7a8dcb8362327c976efef3e08a9", func := "regimen/regimenlaw01.NumLeads", spec := "numLeads", apart := false, narrowed := true }
def NumLeadsUptoSaid : Prop := numLeadsUptoRow.holds Try.pinned (OpenSpec.upto numLeadsSpec)

/-- 'regimenlaw02.PairAdds', WHERE WHAT IT READS IS OF BULK AT MOST 1048576: true; the input reads as it did. -/
def pairAddsUptoRow : OpenClaim := { program := "ytbnkjchhbjbbnaa", sum := "8e2db4622f14153f6aea57e23d8323ccb0a1c7a8dcb8362327c976efef3e08a9", func := "regimen/regimenlaw02.PairAdds", spec := "pairAdds", apart := false, narrowed := true }
def PairAddsUptoSaid : Prop := pairAddsUptoRow.holds Try.pinned (OpenSpec.upto pairAddsSpec)

/-- 'regimenlaw11.QuotePuts', WHERE WHAT IT READS IS OF BULK AT MOST 1048576: true; the input reads as it did. -/
def quotePutsUptoRow : OpenClaim := { program := "ytbnkjchhbjbbnaa", sum := "8e2db4622f14153f6aea57e23d8323ccb0a1c7a8dcb8362327c976efef3e08a9", func := "regimen/regimenlaw11.QuotePuts", spec := "quotePuts", inPlace := ["internal/bytealg.IndexByteString"], apart := false, narrowed := true }
def QuotePutsUptoSaid : Prop := quotePutsUptoRow.holds Try.pinned (OpenSpec.upto quotePutsSpec)

/-- 'regimenlaw11.QuoteGets', WHERE WHAT IT READS IS OF BULK AT MOST 1048576: true; the input reads as it did. -/
def quoteGetsUptoRow : OpenClaim := { program := "ytbnkjchhbjbbnaa", sum := "8e2db4622f14153f6aea57e23d8323ccb0a1c7a8dcb8362327c976efef3e08a9", func := "regimen/regimenlaw11.QuoteGets", spec := "quoteGets", inPlace := ["internal/bytealg.IndexByteString"], apart := false, narrowed := true }
def QuoteGetsUptoSaid : Prop := quoteGetsUptoRow.holds Try.pinned (OpenSpec.upto quoteGetsSpec)

/-- 'regimenlaw03.HalfOver', WHERE WHAT IT READS IS OF BULK AT MOST 1048576: true; the input reads as it did. -/
def halfOverUptoRow : OpenClaim := { program := "ytbnkjchhbjbbnaa", sum := "8e2db4622f14153f6aea57e23d8323ccb0a1c7a8dcb8362327c976efef3e08a9", func := "regimen/regimenlaw03.HalfOver", spec := "halfOver", named := ["math/bits.divideError", "math/bits.overflowError"], apart := false, narrowed := true }
def HalfOverUptoSaid : Prop := halfOverUptoRow.holds Try.pinned (OpenSpec.upto halfOverSpec)

/-- 'regimenlaw03.HalfNearest', WHERE WHAT IT READS IS OF BULK AT MOST 1048576: true; the input reads as it did. -/
def halfNearestUptoRow : OpenClaim := { program := "ytbnkjchhbjbbnaa", sum := "8e2db4622f14153f6aea57e23d8323ccb0a1c7a8dcb8362327c976efef3e08a9", func := "regimen/regimenlaw03.HalfNearest", spec := "halfNearest", named := ["math/bits.divideError", "math/bits.overflowError"], apart := false, narrowed := true }
def HalfNearestUptoSaid : Prop := halfNearestUptoRow.holds Try.pinned (OpenSpec.upto halfNearestSpec)

/-- 'regimenlaw03.HalfNear', WHERE WHAT IT READS IS OF BULK AT MOST 1048576: true; the input reads as it did. -/
def halfNearUptoRow : OpenClaim := { program := "ytbnkjchhbjbbnaa", sum := "8e2db4622f14153f6aea57e23d8323ccb0a1c7a8dcb8362327c976efef3e08a9", func := "regimen/regimenlaw03.HalfNear", spec := "halfNear", named := ["math/bits.divideError", "math/bits.overflowError"], apart := false, narrowed := true }
def HalfNearUptoSaid : Prop := halfNearUptoRow.holds Try.pinned (OpenSpec.upto halfNearSpec)

end Rows
end Go.Proofs.Ytbnkjchhbjbbnaa
