/-
  No cell of these rows narrows 'for every input' (looked for: loops, veiled, ifaces, maps, wideKeys, modest, calm, conditions, laid).
  DERIVED. THE GIVEN ROWS OF THIS SEAT. 12 by the template 'for every input the law returns true; each argument reads behind the call as it read before'; 0 by the template 'total and deterministic' (their statements: YtmakhhgfidgfdaaTotals.lean).
  GIVEN WITH THE SEED: the statements are not yours to turn. If you find one false, say at which input.
  Laid BY PROGRAM, IN A SANDBOX (cutbox-rows.mjs): the forced cells as the released guide's own fill.sh prints them over the translation e4762d291c717ff7… (all of the seat's roots in one cut). By AI agents, Wed Nov 11 2026. No macro, syntax, notation, axiom, sorry.
-/
import Derived.Test.YtmakhhgfidgfdaaChecked
import GoSem.Claim
import GoSem.ClaimJoined
import GoSem.ClaimMapViews
import Derived.JoinedTies
import Derived.KernelRfl
namespace Go.Proofs.Ytmakhhgfidgfdaa
/- THE CELL 'sum', in the pinned program and in every row, IS THE sha256 OF THE DUMP (.gsa) THAT YtmakhhgfidgfdaaProg.lean LOADS. Nothing in Lean hashes anything: it is a label: what it is worth is what the hold of that sum in a sandbox is worth. -/
noncomputable def Try.pinned : Pinned := { name := "ytmakhhgfidgfdaa", sum := "e4762d291c717ff77d9ba4028cbf82b4b6979c424be09cace5213474dd1c60e5", checked := Try.checked }
namespace Rows
def none {H : Type} : Left H := { results := [], args := [] }

/-- 'regimenlaw34.SwaAdds': WHATEVER THE INPUT: true; the input reads as it did. -/
def swaAddsSpec : ChangeSpec := { name := "swaAdds", fn := fun _ => fun
  | [d1, d2] => { results := [.lit (.bool true)], args := [d1, d2] }
  | _ => none }
def swaAddsRow : OpenClaim := { program := "ytmakhhgfidgfdaa", sum := "e4762d291c717ff77d9ba4028cbf82b4b6979c424be09cace5213474dd1c60e5", func := "regimen/regimenlaw34.SwaAdds", spec := "swaAdds", named := ["math/bits.divideError", "math/bits.overflowError"], apart := false }
def SwaAddsSaid : Prop := swaAddsRow.holds Try.pinned (OpenSpec.ofChange swaAddsSpec)

/-- ITS FALSE NEIGHBOUR: 'it returns false'. Refute it at one input. -/
def swaAddsWrong : ChangeSpec := { name := "swaAdds", fn := fun _ => fun
  | [d1, d2] => { results := [.lit (.bool false)], args := [d1, d2] }
  | _ => none }
def SwaAddsWrongFalsely : Prop := swaAddsRow.holds Try.pinned (OpenSpec.ofChange swaAddsWrong)

/-- 'regimenlaw34.SwaOrder': WHATEVER THE INPUT: true; the input reads as it did. -/
def swaOrderSpec : ChangeSpec := { name := "swaOrder", fn := fun _ => fun
  | [d1, d2] => { results := [.lit (.bool true)], args := [d1, d2] }
  | _ => none }
def swaOrderRow : OpenClaim := { program := "ytmakhhgfidgfdaa", sum := "e4762d291c717ff77d9ba4028cbf82b4b6979c424be09cace5213474dd1c60e5", func := "regimen/regimenlaw34.SwaOrder", spec := "swaOrder", named := ["math/bits.divideError", "math/bits.overflowError"], apart := false }
def SwaOrderSaid : Prop := swaOrderRow.holds Try.pinned (OpenSpec.ofChange swaOrderSpec)

/-- ITS FALSE NEIGHBOUR: 'it returns false'. Refute it at one input. -/
def swaOrderWrong : ChangeSpec := { name := "swaOrder", fn := fun _ => fun
  | [d1, d2] => { results := [.lit (.bool false)], args := [d1, d2] }
  | _ => none }
def SwaOrderWrongFalsely : Prop := swaOrderRow.holds Try.pinned (OpenSpec.ofChange swaOrderWrong)

/-- 'regimenlaw33.EmaTakes': WHATEVER THE INPUT: true; the input reads as it did. -/
def emaTakesSpec : ChangeSpec := { name := "emaTakes", fn := fun _ => fun
  | [d1, d2, d3] => { results := [.lit (.bool true)], args := [d1, d2, d3] }
  | _ => none }
def emaTakesRow : OpenClaim := { program := "ytmakhhgfidgfdaa", sum := "e4762d291c717ff77d9ba4028cbf82b4b6979c424be09cace5213474dd1c60e5", func := "regimen/regimenlaw33.EmaTakes", spec := "emaTakes", named := ["math/bits.divideError", "math/bits.overflowError"], apart := false }
def EmaTakesSaid : Prop := emaTakesRow.holds Try.pinned (OpenSpec.ofChange emaTakesSpec)

/-- ITS FALSE NEIGHBOUR: 'it returns false'. Refute it at one input. -/
def emaTakesWrong : ChangeSpec := { name := "emaTakes", fn := fun _ => fun
  | [d1, d2, d3] => { results := [.lit (.bool false)], args := [d1, d2, d3] }
  | _ => none }
def EmaTakesWrongFalsely : Prop := emaTakesRow.holds Try.pinned (OpenSpec.ofChange emaTakesWrong)

/-- 'regimenlaw29.BetterLaws': WHATEVER THE INPUT: true; the input reads as it did. -/
def betterLawsSpec : ChangeSpec := { name := "betterLaws", fn := fun _ => fun
  | [d1, d2] => { results := [.lit (.bool true)], args := [d1, d2] }
  | _ => none }
def betterLawsRow : OpenClaim := { program := "ytmakhhgfidgfdaa", sum := "e4762d291c717ff77d9ba4028cbf82b4b6979c424be09cace5213474dd1c60e5", func := "regimen/regimenlaw29.BetterLaws", spec := "betterLaws", unfollowed := true, recurses := true, named := ["math/bits.divideError", "math/bits.overflowError"], apart := false }
def BetterLawsSaid : Prop := betterLawsRow.holds Try.pinned (OpenSpec.ofChange betterLawsSpec)

/-- ITS FALSE NEIGHBOUR: 'it returns false'. Refute it at one input. -/
def betterLawsWrong : ChangeSpec := { name := "betterLaws", fn := fun _ => fun
  | [d1, d2] => { results := [.lit (.bool false)], args := [d1, d2] }
  | _ => none }
def BetterLawsWrongFalsely : Prop := betterLawsRow.holds Try.pinned (OpenSpec.ofChange betterLawsWrong)

/-- 'regimenlaw29.BetterFirst': WHATEVER THE INPUT: true; the input reads as it did. -/
def betterFirstSpec : ChangeSpec := { name := "betterFirst", fn := fun _ => fun
  | [d1, d2] => { results := [.lit (.bool true)], args := [d1, d2] }
  | _ => none }
def betterFirstRow : OpenClaim := { program := "ytmakhhgfidgfdaa", sum := "e4762d291c717ff77d9ba4028cbf82b4b6979c424be09cace5213474dd1c60e5", func := "regimen/regimenlaw29.BetterFirst", spec := "betterFirst", unfollowed := true, recurses := true, named := ["math/bits.divideError", "math/bits.overflowError"], apart := false }
def BetterFirstSaid : Prop := betterFirstRow.holds Try.pinned (OpenSpec.ofChange betterFirstSpec)

/-- ITS FALSE NEIGHBOUR: 'it returns false'. Refute it at one input. -/
def betterFirstWrong : ChangeSpec := { name := "betterFirst", fn := fun _ => fun
  | [d1, d2] => { results := [.lit (.bool false)], args := [d1, d2] }
  | _ => none }
def BetterFirstWrongFalsely : Prop := betterFirstRow.holds Try.pinned (OpenSpec.ofChange betterFirstWrong)

/-- 'regimenlaw30.EarlyStops': WHATEVER THE INPUT: true; the input reads as it did. -/
def earlyStopsSpec : ChangeSpec := { name := "earlyStops", fn := fun _ => fun
  | [d1, d2, d3] => { results := [.lit (.bool true)], args := [d1, d2, d3] }
  | _ => none }
def earlyStopsRow : OpenClaim := { program := "ytmakhhgfidgfdaa", sum := "e4762d291c717ff77d9ba4028cbf82b4b6979c424be09cace5213474dd1c60e5", func := "regimen/regimenlaw30.EarlyStops", spec := "earlyStops", named := ["math/bits.divideError", "math/bits.overflowError"], apart := false }
def EarlyStopsSaid : Prop := earlyStopsRow.holds Try.pinned (OpenSpec.ofChange earlyStopsSpec)

/-- ITS FALSE NEIGHBOUR: 'it returns false'. Refute it at one input. -/
def earlyStopsWrong : ChangeSpec := { name := "earlyStops", fn := fun _ => fun
  | [d1, d2, d3] => { results := [.lit (.bool false)], args := [d1, d2, d3] }
  | _ => none }
def EarlyStopsWrongFalsely : Prop := earlyStopsRow.holds Try.pinned (OpenSpec.ofChange earlyStopsWrong)

/-- 'regimenlaw30.EarlyBest': WHATEVER THE INPUT: true; the input reads as it did. -/
def earlyBestSpec : ChangeSpec := { name := "earlyBest", fn := fun _ => fun
  | [d1, d2] => { results := [.lit (.bool true)], args := [d1, d2] }
  | _ => none }
def earlyBestRow : OpenClaim := { program := "ytmakhhgfidgfdaa", sum := "e4762d291c717ff77d9ba4028cbf82b4b6979c424be09cace5213474dd1c60e5", func := "regimen/regimenlaw30.EarlyBest", spec := "earlyBest", named := ["math/bits.divideError", "math/bits.overflowError"], apart := false }
def EarlyBestSaid : Prop := earlyBestRow.holds Try.pinned (OpenSpec.ofChange earlyBestSpec)

/-- ITS FALSE NEIGHBOUR: 'it returns false'. Refute it at one input. -/
def earlyBestWrong : ChangeSpec := { name := "earlyBest", fn := fun _ => fun
  | [d1, d2] => { results := [.lit (.bool false)], args := [d1, d2] }
  | _ => none }
def EarlyBestWrongFalsely : Prop := earlyBestRow.holds Try.pinned (OpenSpec.ofChange earlyBestWrong)

/-- 'regimenlaw49.StatsOf': WHATEVER THE INPUT: true; the input reads as it did. -/
def statsOfSpec : ChangeSpec := { name := "statsOf", fn := fun _ => fun
  | [d] => { results := [.lit (.bool true)], args := [d] }
  | _ => none }
def statsOfRow : OpenClaim := { program := "ytmakhhgfidgfdaa", sum := "e4762d291c717ff77d9ba4028cbf82b4b6979c424be09cace5213474dd1c60e5", func := "regimen/regimenlaw49.StatsOf", spec := "statsOf", named := ["math/bits.divideError", "math/bits.overflowError"], apart := false }
def StatsOfSaid : Prop := statsOfRow.holds Try.pinned (OpenSpec.ofChange statsOfSpec)

/-- ITS FALSE NEIGHBOUR: 'it returns false'. Refute it at one input. -/
def statsOfWrong : ChangeSpec := { name := "statsOf", fn := fun _ => fun
  | [d] => { results := [.lit (.bool false)], args := [d] }
  | _ => none }
def StatsOfWrongFalsely : Prop := statsOfRow.holds Try.pinned (OpenSpec.ofChange statsOfWrong)

/-- 'regimenlaw31.PlatTakes': WHATEVER THE INPUT: true; the input reads as it did. -/
def platTakesSpec : ChangeSpec := { name := "platTakes", fn := fun _ => fun
  | [d1, d2, d3] => { results := [.lit (.bool true)], args := [d1, d2, d3] }
  | _ => none }
def platTakesRow : OpenClaim := { program := "ytmakhhgfidgfdaa", sum := "e4762d291c717ff77d9ba4028cbf82b4b6979c424be09cace5213474dd1c60e5", func := "regimen/regimenlaw31.PlatTakes", spec := "platTakes", named := ["math/bits.divideError", "math/bits.overflowError"], apart := false }
def PlatTakesSaid : Prop := platTakesRow.holds Try.pinned (OpenSpec.ofChange platTakesSpec)

/-- ITS FALSE NEIGHBOUR: 'it returns false'. Refute it at one input. -/
def platTakesWrong : ChangeSpec := { name := "platTakes", fn := fun _ => fun
  | [d1, d2, d3] => { results := [.lit (.bool false)], args := [d1, d2, d3] }
  | _ => none }
def PlatTakesWrongFalsely : Prop := platTakesRow.holds Try.pinned (OpenSpec.ofChange platTakesWrong)

/-- 'regimenlaw31.PlatFalls': WHATEVER THE INPUT: true; the input reads as it did. -/
def platFallsSpec : ChangeSpec := { name := "platFalls", fn := fun _ => fun
  | [d1, d2] => { results := [.lit (.bool true)], args := [d1, d2] }
  | _ => none }
def platFallsRow : OpenClaim := { program := "ytmakhhgfidgfdaa", sum := "e4762d291c717ff77d9ba4028cbf82b4b6979c424be09cace5213474dd1c60e5", func := "regimen/regimenlaw31.PlatFalls", spec := "platFalls", named := ["math/bits.divideError", "math/bits.overflowError"], apart := false }
def PlatFallsSaid : Prop := platFallsRow.holds Try.pinned (OpenSpec.ofChange platFallsSpec)

/-- ITS FALSE NEIGHBOUR: 'it returns false'. Refute it at one input. -/
def platFallsWrong : ChangeSpec := { name := "platFalls", fn := fun _ => fun
  | [d1, d2] => { results := [.lit (.bool false)], args := [d1, d2] }
  | _ => none }
def PlatFallsWrongFalsely : Prop := platFallsRow.holds Try.pinned (OpenSpec.ofChange platFallsWrong)

/-- 'regimenlaw31.PlatRates': WHATEVER THE INPUT: true; the input reads as it did. -/
def platRatesSpec : ChangeSpec := { name := "platRates", fn := fun _ => fun
  | [d1, d2, d3] => { results := [.lit (.bool true)], args := [d1, d2, d3] }
  | _ => none }
def platRatesRow : OpenClaim := { program := "ytmakhhgfidgfdaa", sum := "e4762d291c717ff77d9ba4028cbf82b4b6979c424be09cace5213474dd1c60e5", func := "regimen/regimenlaw31.PlatRates", spec := "platRates", named := ["math/bits.divideError", "math/bits.overflowError"], apart := false }
def PlatRatesSaid : Prop := platRatesRow.holds Try.pinned (OpenSpec.ofChange platRatesSpec)

/-- ITS FALSE NEIGHBOUR: 'it returns false'. Refute it at one input. -/
def platRatesWrong : ChangeSpec := { name := "platRates", fn := fun _ => fun
  | [d1, d2, d3] => { results := [.lit (.bool false)], args := [d1, d2, d3] }
  | _ => none }
def PlatRatesWrongFalsely : Prop := platRatesRow.holds Try.pinned (OpenSpec.ofChange platRatesWrong)

/-- 'regimenlaw49.StatsAll': WHATEVER THE INPUT: true; the input reads as it did. -/
def statsAllSpec : ChangeSpec := { name := "statsAll", fn := fun _ => fun
  | [d1, d2] => { results := [.lit (.bool true)], args := [d1, d2] }
  | _ => none }
def statsAllRow : OpenClaim := { program := "ytmakhhgfidgfdaa", sum := "e4762d291c717ff77d9ba4028cbf82b4b6979c424be09cace5213474dd1c60e5", func := "regimen/regimenlaw49.StatsAll", spec := "statsAll", named := ["math/bits.divideError", "math/bits.overflowError"], apart := false }
def StatsAllSaid : Prop := statsAllRow.holds Try.pinned (OpenSpec.ofChange statsAllSpec)

/-- ITS FALSE NEIGHBOUR: 'it returns false'. Refute it at one input. -/
def statsAllWrong : ChangeSpec := { name := "statsAll", fn := fun _ => fun
  | [d1, d2] => { results := [.lit (.bool false)], args := [d1, d2] }
  | _ => none }
def StatsAllWrongFalsely : Prop := statsAllRow.holds Try.pinned (OpenSpec.ofChange statsAllWrong)

/- THE SECOND FORM. 'bulk': how many values and letters a reading holds, each counted each time it is reached (what is shared counts as often as it is met; a slice's spare places count too). A statement '..UptoSaid' is the law's where the arguments, and the package variables that the reading takes, are together of bulk at most 1048576: NARROWER than '..Said'. Prove '..Said' where nothing that the law and all that it calls make is longer than what came in: it says more and counts as full. Else prove '..UptoSaid'. A law counts once. -/
mutual
def uptoBulk {H : Type} : DataW H → Nat
  | .lit (.string bytes) => bytes.length + 1
  | .lit _ => 1
  | .nil => 1
  | .ptr d => uptoBulk d + 1
  | .slice elems spare => uptoBulkAll elems + uptoBulkAll spare + 1
  | .agg parts => uptoBulkAll parts + 1
  | .iface _ d => uptoBulk d + 1
  | .map entries => uptoBulkEntries entries + 1
  | .held _ => 1
def uptoBulkAll {H : Type} : List (DataW H) → Nat
  | [] => 0
  | d :: r => uptoBulk d + uptoBulkAll r
def uptoBulkEntries {H : Type} : List (Lit × DataW H) → Nat
  | [] => 0
  | x :: r => uptoBulkEntry x + uptoBulkEntries r
def uptoBulkEntry {H : Type} : Lit × DataW H → Nat
  | (.string bytes, d) => bytes.length + uptoBulk d + 1
  | (_, d) => uptoBulk d + 1
 end
def uptoSmall : (H : Type) → List (DataW H) → Bool := fun _ ds => decide (uptoBulkAll ds ≤ 1048576)
def OpenSpec.upto (s : _root_.Go.ChangeSpec) : _root_.Go.OpenSpec := { _root_.Go.OpenSpec.ofChange s with cond := some uptoSmall }

/-- 'regimenlaw34.SwaAdds', WHERE WHAT IT READS IS OF BULK AT MOST 1048576: true; the input reads as it did. -/
def swaAddsUptoRow : OpenClaim := { program := "ytmakhhgfidgfdaa", sum := "e4762d291c717ff77d9ba4028cbf82b4b6979c424be09cace5213474dd1c60e5", func := "regimen/regimenlaw34.SwaAdds", spec := "swaAdds", named := ["math/bits.divideError", "math/bits.overflowError"], apart := false, narrowed := true }
def SwaAddsUptoSaid : Prop := swaAddsUptoRow.holds Try.pinned (OpenSpec.upto swaAddsSpec)

/-- 'regimenlaw34.SwaOrder', WHERE WHAT IT READS IS OF BULK AT MOST 1048576: true; the input reads as it did. -/
def swaOrderUptoRow : OpenClaim := { program := "ytmakhhgfidgfdaa", sum := "e4762d291c717ff77d9ba4028cbf82b4b6979c424be09cace5213474dd1c60e5", func := "regimen/regimenlaw34.SwaOrder", spec := "swaOrder", named := ["math/bits.divideError", "math/bits.overflowError"], apart := false, narrowed := true }
def SwaOrderUptoSaid : Prop := swaOrderUptoRow.holds Try.pinned (OpenSpec.upto swaOrderSpec)

/-- 'regimenlaw33.EmaTakes', WHERE WHAT IT READS IS OF BULK AT MOST 1048576: true; the input reads as it did. -/
def emaTakesUptoRow : OpenClaim := { program := "ytmakhhgfidgfdaa", sum := "e4762d291c717ff77d9ba4028cbf82b4b6979c424be09cace5213474dd1c60e5", func := "regimen/regimenlaw33.EmaTakes", spec := "emaTakes", named := ["math/bits.divideError", "math/bits.overflowError"], apart := false, narrowed := true }
def EmaTakesUptoSaid : Prop := emaTakesUptoRow.holds Try.pinned (OpenSpec.upto emaTakesSpec)

/-- 'regimenlaw29.BetterLaws', WHERE WHAT IT READS IS OF BULK AT MOST 1048576: true; the input reads as it did. -/
def betterLawsUptoRow : OpenClaim := { program := "ytmakhhgfidgfdaa", sum := "e4762d291c717ff77d9ba4028cbf82b4b6979c424be09cace5213474dd1c60e5", func := "regimen/regimenlaw29.BetterLaws", spec := "betterLaws", unfollowed := true, recurses := true, named := ["math/bits.divideError", "math/bits.overflowError"], apart := false, narrowed := true }
def BetterLawsUptoSaid : Prop := betterLawsUptoRow.holds Try.pinned (OpenSpec.upto betterLawsSpec)

/-- 'regimenlaw29.BetterFirst', WHERE WHAT IT READS IS OF BULK AT MOST 1048576: true; the input reads as it did. -/
def betterFirstUptoRow : OpenClaim := { program := "ytmakhhgfidgfdaa", sum := "e4762d291c717ff77d9ba4028cbf82b4b6979c424be09cace5213474dd1c60e5", func := "regimen/regimenlaw29.BetterFirst", spec := "betterFirst", unfollowed := true, recurses := true, named := ["math/bits.divideError", "math/bits.overflowError"], apart := false, narrowed := true }
def BetterFirstUptoSaid : Prop := betterFirstUptoRow.holds Try.pinned (OpenSpec.upto betterFirstSpec)

/-- 'regimenlaw30.EarlyStops', WHERE WHAT IT READS IS OF BULK AT MOST 1048576: true; the input reads as it did. -/
def earlyStopsUptoRow : OpenClaim := { program := "ytmakhhgfidgfdaa", sum := "e4762d291c717ff77d9ba4028cbf82b4b6979c424be09cace5213474dd1c60e5", func := "regimen/regimenlaw30.EarlyStops", spec := "earlyStops", named := ["math/bits.divideError", "math/bits.overflowError"], apart := false, narrowed := true }
def EarlyStopsUptoSaid : Prop := earlyStopsUptoRow.holds Try.pinned (OpenSpec.upto earlyStopsSpec)

/-- 'regimenlaw30.EarlyBest', WHERE WHAT IT READS IS OF BULK AT MOST 1048576: true; the input reads as it did. -/
def earlyBestUptoRow : OpenClaim := { program := "ytmakhhgfidgfdaa", sum := "e4762d291c717ff77d9ba4028cbf82b4b6979c424be09cace5213474dd1c60e5", func := "regimen/regimenlaw30.EarlyBest", spec := "earlyBest", named := ["math/bits.divideError", "math/bits.overflowError"], apart := false, narrowed := true }
def EarlyBestUptoSaid : Prop := earlyBestUptoRow.holds Try.pinned (OpenSpec.upto earlyBestSpec)

/-- 'regimenlaw49.StatsOf', WHERE WHAT IT READS IS OF BULK AT MOST 1048576: true; the input reads as it did. -/
def statsOfUptoRow : OpenClaim := { program := "ytmakhhgfidgfdaa", sum := "e4762d291c717ff77d9ba4028cbf82b4b6979c424be09cace5213474dd1c60e5", func := "regimen/regimenlaw49.StatsOf", spec := "statsOf", named := ["math/bits.divideError", "math/bits.overflowError"], apart := false, narrowed := true }
def StatsOfUptoSaid : Prop := statsOfUptoRow.holds Try.pinned (OpenSpec.upto statsOfSpec)

/-- 'regimenlaw31.PlatTakes', WHERE WHAT IT READS IS OF BULK AT MOST 1048576: true; the input reads as it did. -/
def platTakesUptoRow : OpenClaim := { program := "ytmakhhgfidgfdaa", sum := "e4762d291c717ff77d9ba4028cbf82b4b6979c424be09cace5213474dd1c60e5", func := "regimen/regimenlaw31.PlatTakes", spec := "platTakes", named := ["math/bits.divideError", "math/bits.overflowError"], apart := false, narrowed := true }
def PlatTakesUptoSaid : Prop := platTakesUptoRow.holds Try.pinned (OpenSpec.upto platTakesSpec)

/-- 'regimenlaw31.PlatFalls', WHERE WHAT IT READS IS OF BULK AT MOST 1048576: true; the input reads as it did. -/
def platFallsUptoRow : OpenClaim := { program := "ytmakhhgfidgfdaa", sum := "e4762d291c717ff77d9ba4028cbf82b4b6979c424be09cace5213474dd1c60e5", func := "regimen/regimenlaw31.PlatFalls", spec := "platFalls", named := ["math/bits.divideError", "math/bits.overflowError"], apart := false, narrowed := true }
def PlatFallsUptoSaid : Prop := platFallsUptoRow.holds Try.pinned (OpenSpec.upto platFallsSpec)

/-- 'regimenlaw31.PlatRates', WHERE WHAT IT READS IS OF BULK AT MOST 1048576: true; the input reads as it did. -/
def platRatesUptoRow : OpenClaim := { program := "ytmakhhgfidgfdaa", sum := "e4762d291c717ff77d9ba4028cbf82b4b6979c424be09cace5213474dd1c60e5", func := "regimen/regimenlaw31.PlatRates", spec := "platRates", named := ["math/bits.divideError", "math/bits.overflowError"], apart := false, narrowed := true }
def PlatRatesUptoSaid : Prop := platRatesUptoRow.holds Try.pinned (OpenSpec.upto platRatesSpec)

/-- 'regimenlaw49.StatsAll', WHERE WHAT IT READS IS OF BULK AT MOST 1048576: true; the input reads as it did. -/
def statsAllUptoRow : OpenClaim := { program := "ytmakhhgfidgfdaa", sum := "e4762d291c717ff77d9ba4028cbf82b4b6979c424be09cace5213474dd1c60e5", func := "regimen/regimenlaw49.StatsAll", spec := "statsAll", named := ["math/bits.divideError", "math/bits.overflowError"], apart := false, narrowed := true }
def StatsAllUptoSaid : Prop := statsAllUptoRow.holds Try.pinned (OpenSpec.upto statsAllSpec)

end Rows
end Go.Proofs.Ytmakhhgfidgfdaa
