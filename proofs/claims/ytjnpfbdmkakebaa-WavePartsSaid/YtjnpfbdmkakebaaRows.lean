/-
  No cell of these rows narrows 'for every input' (looked for: loops, veiled, ifaces, maps, wideKeys, modest, calm, conditions, laid).
  DERIVED. THE GIVEN ROWS OF THIS SEAT. 10 by the template 'for every input the law returns true; each argument reads behind the call as it read before'; 0 by the template 'total and deterministic' (their statements: YtjnpfbdmkakebaaTotals.lean).
  GIVEN WITH THE SEED: the statements are not yours to turn. If you find one false, say at which input.
  Laid BY PROGRAM, IN A SANDBOX (cutbox-rows.mjs): the forced cells as the released guide's own fill.sh prints them over the translation 34c34b1dd9cd869d… (all of the seat's roots in one cut). By AI agents, Wed Nov 11 2026. No macro, syntax, notation, axiom, sorry.
-/
import Derived.Test.YtjnpfbdmkakebaaChecked
import GoSem.Claim
import GoSem.ClaimJoined
import GoSem.ClaimMapViews
import Derived.JoinedTies
import Derived.KernelRfl
namespace Go.Proofs.Ytjnpfbdmkakebaa
/- THE CELL 'sum', in the pinned program and in every row, IS THE sha256 OF THE DUMP (.gsa) THAT YtjnpfbdmkakebaaProg.lean LOADS. Nothing in Lean hashes anything: it is a label: what it is worth is what the hold of that sum in a sandbox is worth. -/
noncomputable def Try.pinned : Pinned := { name := "ytjnpfbdmkakebaa", sum := "34c34b1dd9cd869d2664d7c14057e23928339c266f1ecf4edeb54b1e8f0ab078", checked := Try.checked }
namespace Rows
def none {H : Type} : Left H := { results := [], args := [] }

/-- 'regimenlaw07.LerpShares': WHATEVER THE INPUT: true; the input reads as it did. -/
def lerpSharesSpec : ChangeSpec := { name := "lerpShares", fn := fun _ => fun
  | [d1, d2] => { results := [.lit (.bool true)], args := [d1, d2] }
  | _ => none }
def lerpSharesRow : OpenClaim := { program := "ytjnpfbdmkakebaa", sum := "34c34b1dd9cd869d2664d7c14057e23928339c266f1ecf4edeb54b1e8f0ab078", func := "regimen/regimenlaw07.LerpShares", spec := "lerpShares", named := ["math/bits.divideError", "math/bits.overflowError"], apart := false }
def LerpSharesSaid : Prop := lerpSharesRow.holds Try.pinned (OpenSpec.ofChange lerpSharesSpec)

/-- ITS FALSE NEIGHBOUR: 'it returns false'. Refute it at one input. -/
def lerpSharesWrong : ChangeSpec := { name := "lerpShares", fn := fun _ => fun
  | [d1, d2] => { results := [.lit (.bool false)], args := [d1, d2] }
  | _ => none }
def LerpSharesWrongFalsely : Prop := lerpSharesRow.holds Try.pinned (OpenSpec.ofChange lerpSharesWrong)

/-- 'regimenlaw07.LerpAt': WHATEVER THE INPUT: true; the input reads as it did. -/
def lerpAtSpec : ChangeSpec := { name := "lerpAt", fn := fun _ => fun
  | [d1, d2, d3] => { results := [.lit (.bool true)], args := [d1, d2, d3] }
  | _ => none }
def lerpAtRow : OpenClaim := { program := "ytjnpfbdmkakebaa", sum := "34c34b1dd9cd869d2664d7c14057e23928339c266f1ecf4edeb54b1e8f0ab078", func := "regimen/regimenlaw07.LerpAt", spec := "lerpAt", named := ["math/bits.divideError", "math/bits.overflowError"], apart := false }
def LerpAtSaid : Prop := lerpAtRow.holds Try.pinned (OpenSpec.ofChange lerpAtSpec)

/-- ITS FALSE NEIGHBOUR: 'it returns false'. Refute it at one input. -/
def lerpAtWrong : ChangeSpec := { name := "lerpAt", fn := fun _ => fun
  | [d1, d2, d3] => { results := [.lit (.bool false)], args := [d1, d2, d3] }
  | _ => none }
def LerpAtWrongFalsely : Prop := lerpAtRow.holds Try.pinned (OpenSpec.ofChange lerpAtWrong)

/-- 'regimenlaw07.LerpBetween': WHATEVER THE INPUT: true; the input reads as it did. -/
def lerpBetweenSpec : ChangeSpec := { name := "lerpBetween", fn := fun _ => fun
  | [d1, d2, d3] => { results := [.lit (.bool true)], args := [d1, d2, d3] }
  | _ => none }
def lerpBetweenRow : OpenClaim := { program := "ytjnpfbdmkakebaa", sum := "34c34b1dd9cd869d2664d7c14057e23928339c266f1ecf4edeb54b1e8f0ab078", func := "regimen/regimenlaw07.LerpBetween", spec := "lerpBetween", named := ["math/bits.divideError", "math/bits.overflowError"], apart := false }
def LerpBetweenSaid : Prop := lerpBetweenRow.holds Try.pinned (OpenSpec.ofChange lerpBetweenSpec)

/-- ITS FALSE NEIGHBOUR: 'it returns false'. Refute it at one input. -/
def lerpBetweenWrong : ChangeSpec := { name := "lerpBetween", fn := fun _ => fun
  | [d1, d2, d3] => { results := [.lit (.bool false)], args := [d1, d2, d3] }
  | _ => none }
def LerpBetweenWrongFalsely : Prop := lerpBetweenRow.holds Try.pinned (OpenSpec.ofChange lerpBetweenWrong)

/-- 'regimenlaw04.FixMuls': WHATEVER THE INPUT: true; the input reads as it did. -/
def fixMulsSpec : ChangeSpec := { name := "fixMuls", fn := fun _ => fun
  | [d1, d2] => { results := [.lit (.bool true)], args := [d1, d2] }
  | _ => none }
def fixMulsRow : OpenClaim := { program := "ytjnpfbdmkakebaa", sum := "34c34b1dd9cd869d2664d7c14057e23928339c266f1ecf4edeb54b1e8f0ab078", func := "regimen/regimenlaw04.FixMuls", spec := "fixMuls", named := ["math/bits.divideError", "math/bits.overflowError"], apart := false }
def FixMulsSaid : Prop := fixMulsRow.holds Try.pinned (OpenSpec.ofChange fixMulsSpec)

/-- ITS FALSE NEIGHBOUR: 'it returns false'. Refute it at one input. -/
def fixMulsWrong : ChangeSpec := { name := "fixMuls", fn := fun _ => fun
  | [d1, d2] => { results := [.lit (.bool false)], args := [d1, d2] }
  | _ => none }
def FixMulsWrongFalsely : Prop := fixMulsRow.holds Try.pinned (OpenSpec.ofChange fixMulsWrong)

/-- 'regimenlaw04.FixLaws': WHATEVER THE INPUT: true; the input reads as it did. -/
def fixLawsSpec : ChangeSpec := { name := "fixLaws", fn := fun _ => fun
  | [d1, d2, d3] => { results := [.lit (.bool true)], args := [d1, d2, d3] }
  | _ => none }
def fixLawsRow : OpenClaim := { program := "ytjnpfbdmkakebaa", sum := "34c34b1dd9cd869d2664d7c14057e23928339c266f1ecf4edeb54b1e8f0ab078", func := "regimen/regimenlaw04.FixLaws", spec := "fixLaws", named := ["math/bits.divideError", "math/bits.overflowError"], apart := false }
def FixLawsSaid : Prop := fixLawsRow.holds Try.pinned (OpenSpec.ofChange fixLawsSpec)

/-- ITS FALSE NEIGHBOUR: 'it returns false'. Refute it at one input. -/
def fixLawsWrong : ChangeSpec := { name := "fixLaws", fn := fun _ => fun
  | [d1, d2, d3] => { results := [.lit (.bool false)], args := [d1, d2, d3] }
  | _ => none }
def FixLawsWrongFalsely : Prop := fixLawsRow.holds Try.pinned (OpenSpec.ofChange fixLawsWrong)

/-- 'regimenlaw04.FixSums': WHATEVER THE INPUT: true; the input reads as it did. -/
def fixSumsSpec : ChangeSpec := { name := "fixSums", fn := fun _ => fun
  | [d1, d2] => { results := [.lit (.bool true)], args := [d1, d2] }
  | _ => none }
def fixSumsRow : OpenClaim := { program := "ytjnpfbdmkakebaa", sum := "34c34b1dd9cd869d2664d7c14057e23928339c266f1ecf4edeb54b1e8f0ab078", func := "regimen/regimenlaw04.FixSums", spec := "fixSums", named := ["math/bits.divideError", "math/bits.overflowError"], apart := false }
def FixSumsSaid : Prop := fixSumsRow.holds Try.pinned (OpenSpec.ofChange fixSumsSpec)

/-- ITS FALSE NEIGHBOUR: 'it returns false'. Refute it at one input. -/
def fixSumsWrong : ChangeSpec := { name := "fixSums", fn := fun _ => fun
  | [d1, d2] => { results := [.lit (.bool false)], args := [d1, d2] }
  | _ => none }
def FixSumsWrongFalsely : Prop := fixSumsRow.holds Try.pinned (OpenSpec.ofChange fixSumsWrong)

/-- 'regimenlaw06.PowOf': WHATEVER THE INPUT: true; the input reads as it did. -/
def powOfSpec : ChangeSpec := { name := "powOf", fn := fun _ => fun
  | [d1, d2] => { results := [.lit (.bool true)], args := [d1, d2] }
  | _ => none }
def powOfRow : OpenClaim := { program := "ytjnpfbdmkakebaa", sum := "34c34b1dd9cd869d2664d7c14057e23928339c266f1ecf4edeb54b1e8f0ab078", func := "regimen/regimenlaw06.PowOf", spec := "powOf", named := ["math/bits.divideError", "math/bits.overflowError"], apart := false }
def PowOfSaid : Prop := powOfRow.holds Try.pinned (OpenSpec.ofChange powOfSpec)

/-- ITS FALSE NEIGHBOUR: 'it returns false'. Refute it at one input. -/
def powOfWrong : ChangeSpec := { name := "powOf", fn := fun _ => fun
  | [d1, d2] => { results := [.lit (.bool false)], args := [d1, d2] }
  | _ => none }
def PowOfWrongFalsely : Prop := powOfRow.holds Try.pinned (OpenSpec.ofChange powOfWrong)

/-- 'regimenlaw06.PowLaws': WHATEVER THE INPUT: true; the input reads as it did. -/
def powLawsSpec : ChangeSpec := { name := "powLaws", fn := fun _ => fun
  | [d1, d2, d3] => { results := [.lit (.bool true)], args := [d1, d2, d3] }
  | _ => none }
def powLawsRow : OpenClaim := { program := "ytjnpfbdmkakebaa", sum := "34c34b1dd9cd869d2664d7c14057e23928339c266f1ecf4edeb54b1e8f0ab078", func := "regimen/regimenlaw06.PowLaws", spec := "powLaws", named := ["math/bits.divideError", "math/bits.overflowError"], apart := false }
def PowLawsSaid : Prop := powLawsRow.holds Try.pinned (OpenSpec.ofChange powLawsSpec)

/-- ITS FALSE NEIGHBOUR: 'it returns false'. Refute it at one input. -/
def powLawsWrong : ChangeSpec := { name := "powLaws", fn := fun _ => fun
  | [d1, d2, d3] => { results := [.lit (.bool false)], args := [d1, d2, d3] }
  | _ => none }
def PowLawsWrongFalsely : Prop := powLawsRow.holds Try.pinned (OpenSpec.ofChange powLawsWrong)

/-- 'regimenlaw08.WaveAt': WHATEVER THE INPUT: true; the input reads as it did. -/
def waveAtSpec : ChangeSpec := { name := "waveAt", fn := fun _ => fun
  | [d] => { results := [.lit (.bool true)], args := [d] }
  | _ => none }
def waveAtRow : OpenClaim := { program := "ytjnpfbdmkakebaa", sum := "34c34b1dd9cd869d2664d7c14057e23928339c266f1ecf4edeb54b1e8f0ab078", func := "regimen/regimenlaw08.WaveAt", spec := "waveAt", recurses := true, named := ["math/bits.divideError", "math/bits.overflowError"], apart := false }
def WaveAtSaid : Prop := waveAtRow.holds Try.pinned (OpenSpec.ofChange waveAtSpec)

/-- ITS FALSE NEIGHBOUR: 'it returns false'. Refute it at one input. -/
def waveAtWrong : ChangeSpec := { name := "waveAt", fn := fun _ => fun
  | [d] => { results := [.lit (.bool false)], args := [d] }
  | _ => none }
def WaveAtWrongFalsely : Prop := waveAtRow.holds Try.pinned (OpenSpec.ofChange waveAtWrong)

/-- 'regimenlaw08.WaveParts': WHATEVER THE INPUT: true; the input reads as it did. -/
def wavePartsSpec : ChangeSpec := { name := "waveParts", fn := fun _ => fun
  | [d] => { results := [.lit (.bool true)], args := [d] }
  | _ => none }
def wavePartsRow : OpenClaim := { program := "ytjnpfbdmkakebaa", sum := "34c34b1dd9cd869d2664d7c14057e23928339c266f1ecf4edeb54b1e8f0ab078", func := "regimen/regimenlaw08.WaveParts", spec := "waveParts", named := ["math/bits.divideError", "math/bits.overflowError"], apart := false }
def WavePartsSaid : Prop := wavePartsRow.holds Try.pinned (OpenSpec.ofChange wavePartsSpec)

/-- ITS FALSE NEIGHBOUR: 'it returns false'. Refute it at one input. -/
def wavePartsWrong : ChangeSpec := { name := "waveParts", fn := fun _ => fun
  | [d] => { results := [.lit (.bool false)], args := [d] }
  | _ => none }
def WavePartsWrongFalsely : Prop := wavePartsRow.holds Try.pinned (OpenSpec.ofChange wavePartsWrong)

/- THE SECOND FORM. 'bulk': how many values and letters a reading holds, each counted each time it is reached (what is shared counts as often as it is met; a slice's spare places count too). A statement '..UptoSaid' is the law's where the arguments, and the package variables that the reading takes, are together of bulk at most 1048576: NARROWER than '..Said'. Prove '..Said' where nothing that the law and all that it calls make is longer than what came in: it says more and counts as full. Else prove '..UptoSaid'. A law counts once. -/
mutual
def uptoBulk {H : Type} : DataW H → Nat
  | .lit (.string bytes) => bytes.length + 1
  | .lit _ => 1
  | .nil => 1
  | .ptr d => uptoBulk d + 1
  | .slice elems spare => uptoBulkAll elems + uptoBulkAll spare + 1
  | .agg parts => uptoBulkAll parts + 1
  | .iface _ d => uptoBulk d + 1
  | .map entries => uptoBulkEntries entries + 1
  | .held _ => 1
def uptoBulkAll {H : Type} : List (DataW H) → Nat
  | [] => 0
  | d :: r => uptoBulk d + uptoBulkAll r
def uptoBulkEntries {H : Type} : List (Lit × DataW H) → Nat
  | [] => 0
  | x :: r => uptoBulkEntry x + uptoBulkEntries r
def uptoBulkEntry {H : Type} : Lit × DataW H → Nat
  | (.string bytes, d) => bytes.length + uptoBulk d + 1
  | (_, d) => uptoBulk d + 1
 end
def uptoSmall : (H : Type) → List (DataW H) → Bool := fun _ ds => decide (uptoBulkAll ds ≤ 1048576)
def OpenSpec.upto (s : _root_.Go.ChangeSpec) : _root_.Go.OpenSpec := { _root_.Go.OpenSpec.ofChange s with cond := some uptoSmall }

/-- 'regimenlaw07.LerpShares', WHERE WHAT IT READS IS OF BULK AT MOST 1048576: true; the input reads as it did. -/
def lerpSharesUptoRow : OpenClaim := { program := "ytjnpfbdmkakebaa", sum := "34c34b1dd9cd869d2664d7c14057e23928339c266f1ecf4edeb54b1e8f0ab078", func := "regimen/regimenlaw07.LerpShares", spec := "lerpShares", named := ["math/bits.divideError", "math/bits.overflowError"], apart := false, narrowed := true }
def LerpSharesUptoSaid : Prop := lerpSharesUptoRow.holds Try.pinned (OpenSpec.upto lerpSharesSpec)

/-- 'regimenlaw07.LerpAt', WHERE WHAT IT READS IS OF BULK AT MOST 1048576: true; the input reads as it did. -/
def lerpAtUptoRow : OpenClaim := { program := "ytjnpfbdmkakebaa", sum := "34c34b1dd9cd869d2664d7c14057e23928339c266f1ecf4edeb54b1e8f0ab078", func := "regimen/regimenlaw07.LerpAt", spec := "lerpAt", named := ["math/bits.divideError", "math/bits.overflowError"], apart := false, narrowed := true }
def LerpAtUptoSaid : Prop := lerpAtUptoRow.holds Try.pinned (OpenSpec.upto lerpAtSpec)

/-- 'regimenlaw07.LerpBetween', WHERE WHAT IT READS IS OF BULK AT MOST 1048576: true; the input reads as it did. -/
def lerpBetweenUptoRow : OpenClaim := { program := "ytjnpfbdmkakebaa", sum := "34c34b1dd9cd869d2664d7c14057e23928339c266f1ecf4edeb54b1e8f0ab078", func := "regimen/regimenlaw07.LerpBetween", spec := "lerpBetween", named := ["math/bits.divideError", "math/bits.overflowError"], apart := false, narrowed := true }
def LerpBetweenUptoSaid : Prop := lerpBetweenUptoRow.holds Try.pinned (OpenSpec.upto lerpBetweenSpec)

/-- 'regimenlaw04.FixMuls', WHERE WHAT IT READS IS OF BULK AT MOST 1048576: true; the input reads as it did. -/
def fixMulsUptoRow : OpenClaim := { program := "ytjnpfbdmkakebaa", sum := "34c34b1dd9cd869d2664d7c14057e23928339c266f1ecf4edeb54b1e8f0ab078", func := "regimen/regimenlaw04.FixMuls", spec := "fixMuls", named := ["math/bits.divideError", "math/bits.overflowError"], apart := false, narrowed := true }
def FixMulsUptoSaid : Prop := fixMulsUptoRow.holds Try.pinned (OpenSpec.upto fixMulsSpec)

/-- 'regimenlaw04.FixLaws', WHERE WHAT IT READS IS OF BULK AT MOST 1048576: true; the input reads as it did. -/
def fixLawsUptoRow : OpenClaim := { program := "ytjnpfbdmkakebaa", sum := "34c34b1dd9cd869d2664d7c14057e23928339c266f1ecf4edeb54b1e8f0ab078", func := "regimen/regimenlaw04.FixLaws", spec := "fixLaws", named := ["math/bits.divideError", "math/bits.overflowError"], apart := false, narrowed := true }
def FixLawsUptoSaid : Prop := fixLawsUptoRow.holds Try.pinned (OpenSpec.upto fixLawsSpec)

/-- 'regimenlaw04.FixSums', WHERE WHAT IT READS IS OF BULK AT MOST 1048576: true; the input reads as it did. -/
def fixSumsUptoRow : OpenClaim := { program := "ytjnpfbdmkakebaa", sum := "34c34b1dd9cd869d2664d7c14057e23928339c266f1ecf4edeb54b1e8f0ab078", func := "regimen/regimenlaw04.FixSums", spec := "fixSums", named := ["math/bits.divideError", "math/bits.overflowError"], apart := false, narrowed := true }
def FixSumsUptoSaid : Prop := fixSumsUptoRow.holds Try.pinned (OpenSpec.upto fixSumsSpec)

/-- 'regimenlaw06.PowOf', WHERE WHAT IT READS IS OF BULK AT MOST 1048576: true; the input reads as it did. -/
def powOfUptoRow : OpenClaim := { program := "ytjnpfbdmkakebaa", sum := "34c34b1dd9cd869d2664d7c14057e23928339c266f1ecf4edeb54b1e8f0ab078", func := "regimen/regimenlaw06.PowOf", spec := "powOf", named := ["math/bits.divideError", "math/bits.overflowError"], apart := false, narrowed := true }
def PowOfUptoSaid : Prop := powOfUptoRow.holds Try.pinned (OpenSpec.upto powOfSpec)

/-- 'regimenlaw06.PowLaws', WHERE WHAT IT READS IS OF BULK AT MOST 1048576: true; the input reads as it did. -/
def powLawsUptoRow : OpenClaim := { program := "ytjnpfbdmkakebaa", sum := "34c34b1dd9cd869d2664d7c14057e23928339c266f1ecf4edeb54b1e8f0ab078", func := "regimen/regimenlaw06.PowLaws", spec := "powLaws", named := ["math/bits.divideError", "math/bits.overflowError"], apart := false, narrowed := true }
def PowLawsUptoSaid : Prop := powLawsUptoRow.holds Try.pinned (OpenSpec.upto powLawsSpec)

/-- 'regimenlaw08.WaveAt', WHERE WHAT IT READS IS OF BULK AT MOST 1048576: true; the input reads as it did. -/
def waveAtUptoRow : OpenClaim := { program := "ytjnpfbdmkakebaa", sum := "34c34b1dd9cd869d2664d7c14057e23928339c266f1ecf4edeb54b1e8f0ab078", func := "regimen/regimenlaw08.WaveAt", spec := "waveAt", recurses := true, named := ["math/bits.divideError", "math/bits.overflowError"], apart := false, narrowed := true }
def WaveAtUptoSaid : Prop := waveAtUptoRow.holds Try.pinned (OpenSpec.upto waveAtSpec)

/-- 'regimenlaw08.WaveParts', WHERE WHAT IT READS IS OF BULK AT MOST 1048576: true; the input reads as it did. -/
def wavePartsUptoRow : OpenClaim := { program := "ytjnpfbdmkakebaa", sum := "34c34b1dd9cd869d2664d7c14057e23928339c266f1ecf4edeb54b1e8f0ab078", func := "regimen/regimenlaw08.WaveParts", spec := "waveParts", named := ["math/bits.divideError", "math/bits.overflowError"], apart := false, narrowed := true }
def WavePartsUptoSaid : Prop := wavePartsUptoRow.holds Try.pinned (OpenSpec.upto wavePartsSpec)

end Rows
end Go.Proofs.Ytjnpfbdmkakebaa
