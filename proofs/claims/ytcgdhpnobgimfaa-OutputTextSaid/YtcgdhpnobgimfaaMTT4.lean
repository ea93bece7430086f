/- Go functions of this seat as plain Lean functions, each with a proof that its call comes to just what that function says, wherever that function says anything: written by a program of this session. The plain functions of this seat, without their walks: written by a program of this session. -/
import Derived.Test.YtcgdhpnobgimfaaProg
import Derived.Below
import Derived.Deep.Draws
import Derived.Deep.AppendLies
import Derived.Maps.AppendAt
import Derived.OwnWalk
import Derived.Laws.BytesArg
import Derived.Laws.MakeOwn
import Derived.Laws.OwnMore
import Derived.Deep.OwnRows
import Derived.Tactics
import Derived.Lib.ConvBytes
import Derived.Lib.Walk
import Derived.Lib.Bytealg
import Derived.Laws.AppendOwn
import Derived.Laws.Slices
import Derived.WalkKit
import Derived.KernelRfl
import Derived.RowKit3
import Derived.Deep.LoopGhost
import Derived.Deep.QuietTactic
import Derived.BigQuiet
import Derived.WideLaws
import Derived.Deep.DeepCutAuto
import Derived.Deep.CutBlock
import Derived.Deep.RegionHeld3
import Derived.Laws.Rows
import Derived.Lib.AppendStr
import Derived.ArgAppend
import Derived.Laws.IdiomCopy
import Derived.OrdersHeld
import Derived.Laws.BitsLemmas
import Derived.RowKit
import Derived.ChangeKeysEq
import Derived.Laws.RangeAny
import Derived.Laws.RangeString
import Derived.Lib.OthersKept
import Derived.LoopTactic
import Derived.WalkMore
import Derived.Shelf.Strings.OnBuilder
import Derived.Shelf.Strings.Repeat
import Derived.Test.YtcgdhpnobgimfaaMTT3
section
namespace Go.Proofs.Ytcgdhpnobgimfaa.PT
open Go.RowKit Go.Proofs.YtcgdhpnobgimfaaW.PrintWords Go.Proofs.YtcgdhpnobgimfaaW.PrintLast Go.Proofs.YtcgdhpnobgimfaaW.PrintMore
attribute [local go_sem] max2_int min2_int max_two min_two max_three min_three max_four min_four   -- for this text's walks alone
set_option linter.unusedVariables false
set_option linter.unusedSimpArgs false



section
variable {P : Program} {ops : Array Oper} {rest : List Oper} {o : Oper} {a : Act} {Q : Exit → Act → World → Prop} {W : World}
end
section
variable {P : Program} {ops : Array Oper} {Q : Exit → Act → World → Prop}
end
section
variable {P : Program} {d c : Nat} {e : TypeId} {xs ys : Array Value} {i : Nat} {is : List Nat} {a b : Value} {r s : Bool} {w : World}
end

/-! #### struct type 23 -/
structure S23 where
  f0 : Int
  f1 : Int
  f2 : Int
/-! #### struct type 73 -/
structure S73 where
  f0 : Int
  f1 : Int
/-! #### struct type 37 -/
structure S37 where
  f0 : Int
  f1 : Int
  f2 : (List Int)
  f3 : (List Bool)
  f4 : (List S23)
  f5 : Int
def z37 : S37 := ⟨(0 : Int), (0 : Int), ([] : List Int), ([] : List Bool), ([] : List S23), (0 : Int)⟩
end Go.Proofs.Ytcgdhpnobgimfaa.PT
end
section
namespace Go.Proofs.Ytcgdhpnobgimfaa.PT
open Go.RowKit Go.Proofs.YtcgdhpnobgimfaaW.PrintWords Go.Proofs.YtcgdhpnobgimfaaW.PrintLast Go.Proofs.YtcgdhpnobgimfaaW.PrintMore
set_option linter.unusedVariables false
set_option linter.unusedSimpArgs false
def events_Word.f (a0 : Int) : Option ByteArray := if 0 ≤ a0 ∧ a0 < 12 then some (rdOf ByteArray.empty ([(⟨#[]⟩ : ByteArray), (⟨#[112, 104, 97, 115, 101]⟩ : ByteArray), (⟨#[116, 104, 97, 119]⟩ : ByteArray), (⟨#[102, 114, 101, 101, 122, 101]⟩ : ByteArray), (⟨#[115, 119, 97]⟩ : ByteArray), (⟨#[102, 97, 105, 108]⟩ : ByteArray), (⟨#[109, 105, 115, 115]⟩ : ByteArray), (⟨#[107, 101, 101, 112]⟩ : ByteArray), (⟨#[100, 114, 111, 112]⟩ : ByteArray), (⟨#[99, 117, 116]⟩ : ByteArray), (⟨#[115, 116, 111, 112]⟩ : ByteArray), (⟨#[101, 110, 100]⟩ : ByteArray)] : List ByteArray) a0) else some ⟨#[]⟩
def num_digits.l0 : Nat → Int → List Int → Option ByteArray
  | 0, _, _ => none
  | k + 1, u, l => if l.length < 20 then (if 0 ≤ u then (if u < 18446744073709551616 then (if u / 10 = 0 then some (strOfNums ((48 + u % 10) :: l)) else num_digits.l0 k (u / 10) ((48 + u % 10) :: l)) else none) else none) else none
def num_digits.f (k : Nat) (a0 : Int) : Option ByteArray := num_digits.l0 k a0 []
theorem num_digits.mono_l : ∀ k u l, LeO (num_digits.l0 k u l) (num_digits.l0 (k + 1) u l)
  | 0 => fun _ _ r h => by simp [num_digits.l0] at h
  | k + 1 => by
    intro u l
    unfold num_digits.l0
    exact LeO.ite (LeO.ite (LeO.ite (LeO.ite (LeO.refl _) (num_digits.mono_l k _ _)) (LeO.none _)) (LeO.none _)) (LeO.none _)
theorem num_digits.mono : ∀ a0 k, LeO (num_digits.f k a0) (num_digits.f (k + 1) a0) := fun a0 k => num_digits.mono_l k a0 []
def num_Tell.f (k : Nat) (a0 : Int) : Option (ByteArray) := if a0 < 0 then ((num_digits.f k (IntKind.u64.wrap (-(IntKind.u64.wrap (a0))))).bind fun t103 => (if 1 + t103.size ≤ 9223372036854775807 then (some ((⟨#[45]⟩ : ByteArray) ++ t103)) else (none))) else ((num_digits.f k (IntKind.u64.wrap (a0))).bind fun t104 => (some t104))
theorem num_Tell.mono : ∀ a0 k, LeO (num_Tell.f k a0) (num_Tell.f (k + 1) a0) := by
  intro a0 k
  unfold num_Tell.f
  repeat' first
      | (with_reducible exact num_digits.mono _ _)
      | (with_reducible exact LeO.refl _)
      | (with_reducible exact LeO.none _)
      | (with_reducible refine LeO.ite ?_ ?_)
      | (with_reducible refine LeO.bind ?_ (fun _ => ?_))
      | exact num_digits.mono _ _
      | exact LeO.none _
      | refine LeO.ite ?_ ?_
      | refine LeO.bind ?_ (fun _ => ?_)
def events_Line.f (k : Nat) (a0_0 : Int) (a0_1 : Int) (a0_2 : Int) : Option (ByteArray) := (events_Word.f a0_1).bind fun t106 => (if t106.toList = ([] : List UInt8) then (if 1 + 1 ≤ 9223372036854775807 then ((num_Tell.f k a0_2).bind fun t107 => (if ((⟨#[63]⟩ : ByteArray) ++ (⟨#[32]⟩ : ByteArray)).size + t107.size ≤ 9223372036854775807 then (some (((⟨#[63]⟩ : ByteArray) ++ (⟨#[32]⟩ : ByteArray)) ++ t107)) else (none))) else (none)) else (if t106.size + 1 ≤ 9223372036854775807 then ((num_Tell.f k a0_2).bind fun t108 => (if (t106 ++ (⟨#[32]⟩ : ByteArray)).size + t108.size ≤ 9223372036854775807 then (some ((t106 ++ (⟨#[32]⟩ : ByteArray)) ++ t108)) else (none))) else (none)))
theorem events_Line.mono : ∀ a0 a1 a2 k, LeO (events_Line.f k a0 a1 a2) (events_Line.f (k + 1) a0 a1 a2) := by
  intro a0 a1 a2 k
  unfold events_Line.f
  repeat' first
      | (with_reducible exact num_Tell.mono _ _)
      | (with_reducible exact LeO.refl _)
      | (with_reducible exact LeO.none _)
      | (with_reducible refine LeO.ite ?_ ?_)
      | (with_reducible refine LeO.bind ?_ (fun _ => ?_))
      | exact num_Tell.mono _ _
      | exact LeO.none _
      | refine LeO.ite ?_ ?_
      | refine LeO.bind ?_ (fun _ => ?_)
def output_Word.f (a0 : Int) : Option (ByteArray) := if a0 = 0 then (some (⟨#[103, 111, 101, 115]⟩ : ByteArray)) else (if a0 = 1 then (some (⟨#[100, 111, 110, 101]⟩ : ByteArray)) else (if a0 = 2 then (some (⟨#[115, 116, 111, 112, 112, 101, 100]⟩ : ByteArray)) else (if a0 = 3 then (some (⟨#[102, 97, 105, 108, 101, 100]⟩ : ByteArray)) else (some (⟨#[63]⟩ : ByteArray)))))
def strings_Join.f (l0 : List ByteArray) (a1 : ByteArray) : Option ByteArray := if l0.length ≤ 140737488355328 ∧ (Lib.join (l0.map (·.data.toList)) a1.data.toList).length ≤ 140737488355328 then some ⟨(Lib.join (l0.map (·.data.toList)) a1.data.toList).toArray⟩ else none
def output_line.f (l0 : List ByteArray) : Option (ByteArray) := (strings_Join.f l0 (⟨#[32]⟩ : ByteArray)).bind fun t109 => (some t109)
def fix_Size.f (a0 : Int) : Option (Int) := if a0 < 0 then (some (IntKind.u64.wrap (-(IntKind.u64.wrap (a0))))) else (some (IntKind.u64.wrap (a0)))
def bits_Len64.j0 : Nat → Int → Int → Option (Int)
  | 0, _, _ => none
  | k + 1, x0, x2 => if x0 ≥ 65536 then (if (x0 / 65536) ≥ 256 then (if 0 ≤ (((x0 / 65536) / 256) % 256) then (if (((x0 / 65536) / 256) % 256) < 256 then (some (wrap64 ((wrap64 ((wrap64 (x2 + 16)) + 8)) + (wrap64 (bt (⟨#[0, 1, 2, 2, 3, 3, 3, 3, 4, 4, 4, 4, 4, 4, 4, 4, 5, 5, 5, 5, 5, 5, 5, 5, 5, 5, 5, 5, 5, 5, 5, 5, 6, 6, 6, 6, 6, 6, 6, 6, 6, 6, 6, 6, 6, 6, 6, 6, 6, 6, 6, 6, 6, 6, 6, 6, 6, 6, 6, 6, 6, 6, 6, 6, 7, 7, 7, 7, 7, 7, 7, 7, 7, 7, 7, 7, 7, 7, 7, 7, 7, 7, 7, 7, 7, 7, 7, 7, 7, 7, 7, 7, 7, 7, 7, 7, 7, 7, 7, 7, 7, 7, 7, 7, 7, 7, 7, 7, 7, 7, 7, 7, 7, 7, 7, 7, 7, 7, 7, 7, 7, 7, 7, 7, 7, 7, 7, 7, 8, 8, 8, 8, 8, 8, 8, 8, 8, 8, 8, 8, 8, 8, 8, 8, 8, 8, 8, 8, 8, 8, 8, 8, 8, 8, 8, 8, 8, 8, 8, 8, 8, 8, 8, 8, 8, 8, 8, 8, 8, 8, 8, 8, 8, 8, 8, 8, 8, 8, 8, 8, 8, 8, 8, 8, 8, 8, 8, 8, 8, 8, 8, 8, 8, 8, 8, 8, 8, 8, 8, 8, 8, 8, 8, 8, 8, 8, 8, 8, 8, 8, 8, 8, 8, 8, 8, 8, 8, 8, 8, 8, 8, 8, 8, 8, 8, 8, 8, 8, 8, 8, 8, 8, 8, 8, 8, 8, 8, 8, 8, 8, 8, 8, 8, 8, 8, 8, 8, 8, 8, 8, 8, 8, 8, 8, 8, 8]⟩ : ByteArray) (((x0 / 65536) / 256) % 256)))))) else (none)) else (none)) else (if 0 ≤ ((x0 / 65536) % 256) then (if ((x0 / 65536) % 256) < 256 then (some (wrap64 ((wrap64 (x2 + 16)) + (wrap64 (bt (⟨#[0, 1, 2, 2, 3, 3, 3, 3, 4, 4, 4, 4, 4, 4, 4, 4, 5, 5, 5, 5, 5, 5, 5, 5, 5, 5, 5, 5, 5, 5, 5, 5, 6, 6, 6, 6, 6, 6, 6, 6, 6, 6, 6, 6, 6, 6, 6, 6, 6, 6, 6, 6, 6, 6, 6, 6, 6, 6, 6, 6, 6, 6, 6, 6, 7, 7, 7, 7, 7, 7, 7, 7, 7, 7, 7, 7, 7, 7, 7, 7, 7, 7, 7, 7, 7, 7, 7, 7, 7, 7, 7, 7, 7, 7, 7, 7, 7, 7, 7, 7, 7, 7, 7, 7, 7, 7, 7, 7, 7, 7, 7, 7, 7, 7, 7, 7, 7, 7, 7, 7, 7, 7, 7, 7, 7, 7, 7, 7, 8, 8, 8, 8, 8, 8, 8, 8, 8, 8, 8, 8, 8, 8, 8, 8, 8, 8, 8, 8, 8, 8, 8, 8, 8, 8, 8, 8, 8, 8, 8, 8, 8, 8, 8, 8, 8, 8, 8, 8, 8, 8, 8, 8, 8, 8, 8, 8, 8, 8, 8, 8, 8, 8, 8, 8, 8, 8, 8, 8, 8, 8, 8, 8, 8, 8, 8, 8, 8, 8, 8, 8, 8, 8, 8, 8, 8, 8, 8, 8, 8, 8, 8, 8, 8, 8, 8, 8, 8, 8, 8, 8, 8, 8, 8, 8, 8, 8, 8, 8, 8, 8, 8, 8, 8, 8, 8, 8, 8, 8, 8, 8, 8, 8, 8, 8, 8, 8, 8, 8, 8, 8, 8, 8, 8, 8, 8, 8]⟩ : ByteArray) ((x0 / 65536) % 256)))))) else (none)) else (none))) else (if x0 ≥ 256 then (if 0 ≤ ((x0 / 256) % 256) then (if ((x0 / 256) % 256) < 256 then (some (wrap64 ((wrap64 (x2 + 8)) + (wrap64 (bt (⟨#[0, 1, 2, 2, 3, 3, 3, 3, 4, 4, 4, 4, 4, 4, 4, 4, 5, 5, 5, 5, 5, 5, 5, 5, 5, 5, 5, 5, 5, 5, 5, 5, 6, 6, 6, 6, 6, 6, 6, 6, 6, 6, 6, 6, 6, 6, 6, 6, 6, 6, 6, 6, 6, 6, 6, 6, 6, 6, 6, 6, 6, 6, 6, 6, 7, 7, 7, 7, 7, 7, 7, 7, 7, 7, 7, 7, 7, 7, 7, 7, 7, 7, 7, 7, 7, 7, 7, 7, 7, 7, 7, 7, 7, 7, 7, 7, 7, 7, 7, 7, 7, 7, 7, 7, 7, 7, 7, 7, 7, 7, 7, 7, 7, 7, 7, 7, 7, 7, 7, 7, 7, 7, 7, 7, 7, 7, 7, 7, 8, 8, 8, 8, 8, 8, 8, 8, 8, 8, 8, 8, 8, 8, 8, 8, 8, 8, 8, 8, 8, 8, 8, 8, 8, 8, 8, 8, 8, 8, 8, 8, 8, 8, 8, 8, 8, 8, 8, 8, 8, 8, 8, 8, 8, 8, 8, 8, 8, 8, 8, 8, 8, 8, 8, 8, 8, 8, 8, 8, 8, 8, 8, 8, 8, 8, 8, 8, 8, 8, 8, 8, 8, 8, 8, 8, 8, 8, 8, 8, 8, 8, 8, 8, 8, 8, 8, 8, 8, 8, 8, 8, 8, 8, 8, 8, 8, 8, 8, 8, 8, 8, 8, 8, 8, 8, 8, 8, 8, 8, 8, 8, 8, 8, 8, 8, 8, 8, 8, 8, 8, 8, 8, 8, 8, 8, 8, 8]⟩ : ByteArray) ((x0 / 256) % 256)))))) else (none)) else (none)) else (if 0 ≤ ((x0) % 256) then (if ((x0) % 256) < 256 then (some (wrap64 (x2 + (wrap64 (bt (⟨#[0, 1, 2, 2, 3, 3, 3, 3, 4, 4, 4, 4, 4, 4, 4, 4, 5, 5, 5, 5, 5, 5, 5, 5, 5, 5, 5, 5, 5, 5, 5, 5, 6, 6, 6, 6, 6, 6, 6, 6, 6, 6, 6, 6, 6, 6, 6, 6, 6, 6, 6, 6, 6, 6, 6, 6, 6, 6, 6, 6, 6, 6, 6, 6, 7, 7, 7, 7, 7, 7, 7, 7, 7, 7, 7, 7, 7, 7, 7, 7, 7, 7, 7, 7, 7, 7, 7, 7, 7, 7, 7, 7, 7, 7, 7, 7, 7, 7, 7, 7, 7, 7, 7, 7, 7, 7, 7, 7, 7, 7, 7, 7, 7, 7, 7, 7, 7, 7, 7, 7, 7, 7, 7, 7, 7, 7, 7, 7, 8, 8, 8, 8, 8, 8, 8, 8, 8, 8, 8, 8, 8, 8, 8, 8, 8, 8, 8, 8, 8, 8, 8, 8, 8, 8, 8, 8, 8, 8, 8, 8, 8, 8, 8, 8, 8, 8, 8, 8, 8, 8, 8, 8, 8, 8, 8, 8, 8, 8, 8, 8, 8, 8, 8, 8, 8, 8, 8, 8, 8, 8, 8, 8, 8, 8, 8, 8, 8, 8, 8, 8, 8, 8, 8, 8, 8, 8, 8, 8, 8, 8, 8, 8, 8, 8, 8, 8, 8, 8, 8, 8, 8, 8, 8, 8, 8, 8, 8, 8, 8, 8, 8, 8, 8, 8, 8, 8, 8, 8, 8, 8, 8, 8, 8, 8, 8, 8, 8, 8, 8, 8, 8, 8, 8, 8, 8, 8]⟩ : ByteArray) ((x0) % 256)))))) else (none)) else (none)))
def bits_Len64.f (k : Nat) (a0 : Int) : Option (Int) := if a0 ≥ 4294967296 then (bits_Len64.j0 k (a0 / 4294967296) 32) else (bits_Len64.j0 k a0 0)
theorem bits_Len64.mono_l : ∀ k, (∀ y0 y1, LeO (bits_Len64.j0 k y0 y1) (bits_Len64.j0 (k + 1) y0 y1))
  | 0 => fun _ _ r h => by simp [bits_Len64.j0] at h
  | k + 1 => by
    have ih0 := bits_Len64.mono_l k
    · intro y0 y1
      unfold bits_Len64.j0
      repeat' first
      | (with_reducible exact ih0 _ _)
      | (with_reducible exact LeO.refl _)
      | (with_reducible exact LeO.none _)
      | (with_reducible refine LeO.ite ?_ ?_)
      | (with_reducible refine LeO.bind ?_ (fun _ => ?_))
      | exact ih0 _ _
      | exact LeO.none _
      | refine LeO.ite ?_ ?_
      | refine LeO.bind ?_ (fun _ => ?_)
theorem bits_Len64.mono : ∀ a0 k, LeO (bits_Len64.f k a0) (bits_Len64.f (k + 1) a0) := by
  intro a0 k
  have ih0 := bits_Len64.mono_l k
  unfold bits_Len64.f
  repeat' first
      | (with_reducible exact ih0 _ _)
      | (with_reducible exact LeO.refl _)
      | (with_reducible exact LeO.none _)
      | (with_reducible refine LeO.ite ?_ ?_)
      | (with_reducible refine LeO.bind ?_ (fun _ => ?_))
      | exact ih0 _ _
      | exact LeO.none _
      | refine LeO.ite ?_ ?_
      | refine LeO.bind ?_ (fun _ => ?_)
def bits_LeadingZeros64.f (k : Nat) (a0 : Int) : Option (Int) := (bits_Len64.f k a0).bind fun t110 => (some (wrap64 (64 - t110)))
theorem bits_LeadingZeros64.mono : ∀ a0 k, LeO (bits_LeadingZeros64.f k a0) (bits_LeadingZeros64.f (k + 1) a0) := by
  intro a0 k
  unfold bits_LeadingZeros64.f
  repeat' first
      | (with_reducible exact bits_Len64.mono _ _)
      | (with_reducible exact LeO.refl _)
      | (with_reducible exact LeO.none _)
      | (with_reducible refine LeO.ite ?_ ?_)
      | (with_reducible refine LeO.bind ?_ (fun _ => ?_))
      | exact bits_Len64.mono _ _
      | exact LeO.none _
      | refine LeO.ite ?_ ?_
      | refine LeO.bind ?_ (fun _ => ?_)
mutual
def bits_Div64.j2 : Nat → Int → Int → Int → Int → Int → Int → Int → Int → Option (Int × Int)
  | 0, _, _, _, _, _, _, _, _ => none
  | k + 1, x2, x8, x9, x10, x11, x13, x14, x15 => if x9 = 0 then (none) else (bits_Div64.l1 k x2 x8 x9 x10 x14 x15 (IntKind.u64.wrap ((IntKind.u64.wrap ((IntKind.u64.wrap ((IntKind.u64.wrap (x11 * 4294967296)) + x13)) - (IntKind.u64.wrap (x15 * x2)))) - (IntKind.u64.wrap ((IntKind.u64.wrap (Int.tdiv (IntKind.u64.wrap ((IntKind.u64.wrap ((IntKind.u64.wrap (x11 * 4294967296)) + x13)) - (IntKind.u64.wrap (x15 * x2)))) x9)) * x9)))) (IntKind.u64.wrap ((IntKind.u64.wrap ((IntKind.u64.wrap (x11 * 4294967296)) + x13)) - (IntKind.u64.wrap (x15 * x2)))) (IntKind.u64.wrap (Int.tdiv (IntKind.u64.wrap ((IntKind.u64.wrap ((IntKind.u64.wrap (x11 * 4294967296)) + x13)) - (IntKind.u64.wrap (x15 * x2)))) x9)))
def bits_Div64.l1 : Nat → Int → Int → Int → Int → Int → Int → Int → Int → Int → Option (Int × Int)
  | 0, _, _, _, _, _, _, _, _, _ => none
  | k + 1, x2, x8, x9, x10, x14, x15, x16, x17, x18 => if x18 ≥ 4294967296 then (bits_Div64.j4 k x2 x8 x9 x10 x14 x15 x16 x17 x18 true) else (bits_Div64.j4 k x2 x8 x9 x10 x14 x15 x16 x17 x18 (decide ((IntKind.u64.wrap (x18 * x10)) > (IntKind.u64.wrap ((IntKind.u64.wrap (4294967296 * x16)) + x14)))))
def bits_Div64.j4 : Nat → Int → Int → Int → Int → Int → Int → Int → Int → Int → Bool → Option (Int × Int)
  | 0, _, _, _, _, _, _, _, _, _, _ => none
  | k + 1, x2, x8, x9, x10, x14, x15, x16, x17, x18, x113 => if x113 = true then (if (IntKind.u64.wrap (x16 + x9)) ≥ 4294967296 then (if 0 ≤ x8 then (some (IntKind.u64.wrap ((IntKind.u64.wrap (x15 * 4294967296)) + (IntKind.u64.wrap (x18 - 1))), shr .u64 (IntKind.u64.wrap ((IntKind.u64.wrap ((IntKind.u64.wrap (x17 * 4294967296)) + x14)) - (IntKind.u64.wrap ((IntKind.u64.wrap (x18 - 1)) * x2)))) x8)) else (none)) else (bits_Div64.l1 k x2 x8 x9 x10 x14 x15 (IntKind.u64.wrap (x16 + x9)) x17 (IntKind.u64.wrap (x18 - 1)))) else (if 0 ≤ x8 then (some (IntKind.u64.wrap ((IntKind.u64.wrap (x15 * 4294967296)) + x18), shr .u64 (IntKind.u64.wrap ((IntKind.u64.wrap ((IntKind.u64.wrap (x17 * 4294967296)) + x14)) - (IntKind.u64.wrap (x18 * x2)))) x8)) else (none))
def bits_Div64.l0 : Nat → Int → Int → Int → Int → Int → Int → Int → Int → Int → Option (Int × Int)
  | 0, _, _, _, _, _, _, _, _, _ => none
  | k + 1, x2, x8, x9, x10, x11, x13, x14, x15, x16 => if x15 ≥ 4294967296 then (bits_Div64.j1 k x2 x8 x9 x10 x11 x13 x14 x15 x16 true) else (bits_Div64.j1 k x2 x8 x9 x10 x11 x13 x14 x15 x16 (decide ((IntKind.u64.wrap (x15 * x10)) > (IntKind.u64.wrap ((IntKind.u64.wrap (4294967296 * x16)) + x13)))))
def bits_Div64.j1 : Nat → Int → Int → Int → Int → Int → Int → Int → Int → Int → Bool → Option (Int × Int)
  | 0, _, _, _, _, _, _, _, _, _, _ => none
  | k + 1, x2, x8, x9, x10, x11, x13, x14, x15, x16, x78 => if x78 = true then (if (IntKind.u64.wrap (x16 + x9)) ≥ 4294967296 then (bits_Div64.j2 k x2 x8 x9 x10 x11 x13 x14 (IntKind.u64.wrap (x15 - 1))) else (bits_Div64.l0 k x2 x8 x9 x10 x11 x13 x14 (IntKind.u64.wrap (x15 - 1)) (IntKind.u64.wrap (x16 + x9)))) else (bits_Div64.j2 k x2 x8 x9 x10 x11 x13 x14 x15)
end
def bits_Div64.f (k : Nat) (a0 : Int) (a1 : Int) (a2 : Int) : Option (Int × Int) := if a2 = 0 then (none) else (if a2 ≤ a0 then (none) else (if a0 = 0 then (some (IntKind.u64.wrap (Int.tdiv a1 a2), Int.tmod a1 a2)) else ((bits_LeadingZeros64.f k a2).bind fun t111 => (if 0 ≤ (IntKind.u64.wrap (t111)) then (if 0 ≤ (IntKind.u64.wrap (64 - (IntKind.u64.wrap (t111)))) then (if ((shl .u64 a2 (IntKind.u64.wrap (t111))) / 4294967296) = 0 then (none) else (bits_Div64.l0 k (shl .u64 a2 (IntKind.u64.wrap (t111))) (IntKind.u64.wrap (t111)) ((shl .u64 a2 (IntKind.u64.wrap (t111))) / 4294967296) (Go.bits .and .u64 (shl .u64 a2 (IntKind.u64.wrap (t111))) 4294967295) (Go.bits .or .u64 (shl .u64 a0 (IntKind.u64.wrap (t111))) (shr .u64 a1 (IntKind.u64.wrap (64 - (IntKind.u64.wrap (t111)))))) ((shl .u64 a1 (IntKind.u64.wrap (t111))) / 4294967296) (Go.bits .and .u64 (shl .u64 a1 (IntKind.u64.wrap (t111))) 4294967295) (IntKind.u64.wrap (Int.tdiv (Go.bits .or .u64 (shl .u64 a0 (IntKind.u64.wrap (t111))) (shr .u64 a1 (IntKind.u64.wrap (64 - (IntKind.u64.wrap (t111)))))) ((shl .u64 a2 (IntKind.u64.wrap (t111))) / 4294967296))) (IntKind.u64.wrap ((Go.bits .or .u64 (shl .u64 a0 (IntKind.u64.wrap (t111))) (shr .u64 a1 (IntKind.u64.wrap (64 - (IntKind.u64.wrap (t111)))))) - (IntKind.u64.wrap ((IntKind.u64.wrap (Int.tdiv (Go.bits .or .u64 (shl .u64 a0 (IntKind.u64.wrap (t111))) (shr .u64 a1 (IntKind.u64.wrap (64 - (IntKind.u64.wrap (t111)))))) ((shl .u64 a2 (IntKind.u64.wrap (t111))) / 4294967296))) * ((shl .u64 a2 (IntKind.u64.wrap (t111))) / 4294967296))))))) else (none)) else (none)))))
theorem bits_Div64.mono_l : ∀ k, (∀ y0 y1 y2 y3 y4 y5 y6 y7, LeO (bits_Div64.j2 k y0 y1 y2 y3 y4 y5 y6 y7) (bits_Div64.j2 (k + 1) y0 y1 y2 y3 y4 y5 y6 y7)) ∧ (∀ y0 y1 y2 y3 y4 y5 y6 y7 y8, LeO (bits_Div64.l1 k y0 y1 y2 y3 y4 y5 y6 y7 y8) (bits_Div64.l1 (k + 1) y0 y1 y2 y3 y4 y5 y6 y7 y8)) ∧ (∀ y0 y1 y2 y3 y4 y5 y6 y7 y8 y9, LeO (bits_Div64.j4 k y0 y1 y2 y3 y4 y5 y6 y7 y8 y9) (bits_Div64.j4 (k + 1) y0 y1 y2 y3 y4 y5 y6 y7 y8 y9)) ∧ (∀ y0 y1 y2 y3 y4 y5 y6 y7 y8, LeO (bits_Div64.l0 k y0 y1 y2 y3 y4 y5 y6 y7 y8) (bits_Div64.l0 (k + 1) y0 y1 y2 y3 y4 y5 y6 y7 y8)) ∧ (∀ y0 y1 y2 y3 y4 y5 y6 y7 y8 y9, LeO (bits_Div64.j1 k y0 y1 y2 y3 y4 y5 y6 y7 y8 y9) (bits_Div64.j1 (k + 1) y0 y1 y2 y3 y4 y5 y6 y7 y8 y9))
  | 0 => ⟨fun _ _ _ _ _ _ _ _ r h => by simp [bits_Div64.j2] at h, fun _ _ _ _ _ _ _ _ _ r h => by simp [bits_Div64.l1] at h, fun _ _ _ _ _ _ _ _ _ _ r h => by simp [bits_Div64.j4] at h, fun _ _ _ _ _ _ _ _ _ r h => by simp [bits_Div64.l0] at h, fun _ _ _ _ _ _ _ _ _ _ r h => by simp [bits_Div64.j1] at h⟩
  | k + 1 => by
    obtain ⟨ih0, ih1, ih2, ih3, ih4⟩ := bits_Div64.mono_l k
    refine ⟨?_, ?_, ?_, ?_, ?_⟩
    · intro y0 y1 y2 y3 y4 y5 y6 y7
      unfold bits_Div64.j2
      repeat' first
      | (with_reducible exact ih0 _ _ _ _ _ _ _ _)
      | (with_reducible exact ih1 _ _ _ _ _ _ _ _ _)
      | (with_reducible exact ih2 _ _ _ _ _ _ _ _ _ _)
      | (with_reducible exact ih3 _ _ _ _ _ _ _ _ _)
      | (with_reducible exact ih4 _ _ _ _ _ _ _ _ _ _)
      | (with_reducible exact bits_LeadingZeros64.mono _ _)
      | (with_reducible exact LeO.refl _)
      | (with_reducible exact LeO.none _)
      | (with_reducible refine LeO.ite ?_ ?_)
      | (with_reducible refine LeO.bind ?_ (fun _ => ?_))
      | exact ih0 _ _ _ _ _ _ _ _
      | exact ih1 _ _ _ _ _ _ _ _ _
      | exact ih2 _ _ _ _ _ _ _ _ _ _
      | exact ih3 _ _ _ _ _ _ _ _ _
      | exact ih4 _ _ _ _ _ _ _ _ _ _
      | exact bits_LeadingZeros64.mono _ _
      | exact LeO.none _
      | refine LeO.ite ?_ ?_
      | refine LeO.bind ?_ (fun _ => ?_)
    · intro y0 y1 y2 y3 y4 y5 y6 y7 y8
      unfold bits_Div64.l1
      repeat' first
      | (with_reducible exact ih0 _ _ _ _ _ _ _ _)
      | (with_reducible exact ih1 _ _ _ _ _ _ _ _ _)
      | (with_reducible exact ih2 _ _ _ _ _ _ _ _ _ _)
      | (with_reducible exact ih3 _ _ _ _ _ _ _ _ _)
      | (with_reducible exact ih4 _ _ _ _ _ _ _ _ _ _)
      | (with_reducible exact bits_LeadingZeros64.mono _ _)
      | (with_reducible exact LeO.refl _)
      | (with_reducible exact LeO.none _)
      | (with_reducible refine LeO.ite ?_ ?_)
      | (with_reducible refine LeO.bind ?_ (fun _ => ?_))
      | exact ih0 _ _ _ _ _ _ _ _
      | exact ih1 _ _ _ _ _ _ _ _ _
      | exact ih2 _ _ _ _ _ _ _ _ _ _
      | exact ih3 _ _ _ _ _ _ _ _ _
      | exact ih4 _ _ _ _ _ _ _ _ _ _
      | exact bits_LeadingZeros64.mono _ _
      | exact LeO.none _
      | refine LeO.ite ?_ ?_
      | refine LeO.bind ?_ (fun _ => ?_)
    · intro y0 y1 y2 y3 y4 y5 y6 y7 y8 y9
      unfold bits_Div64.j4
      repeat' first
      | (with_reducible exact ih0 _ _ _ _ _ _ _ _)
      | (with_reducible exact ih1 _ _ _ _ _ _ _ _ _)
      | (with_reducible exact ih2 _ _ _ _ _ _ _ _ _ _)
      | (with_reducible exact ih3 _ _ _ _ _ _ _ _ _)
      | (with_reducible exact ih4 _ _ _ _ _ _ _ _ _ _)
      | (with_reducible exact bits_LeadingZeros64.mono _ _)
      | (with_reducible exact LeO.refl _)
      | (with_reducible exact LeO.none _)
      | (with_reducible refine LeO.ite ?_ ?_)
      | (with_reducible refine LeO.bind ?_ (fun _ => ?_))
      | exact ih0 _ _ _ _ _ _ _ _
      | exact ih1 _ _ _ _ _ _ _ _ _
      | exact ih2 _ _ _ _ _ _ _ _ _ _
      | exact ih3 _ _ _ _ _ _ _ _ _
      | exact ih4 _ _ _ _ _ _ _ _ _ _
      | exact bits_LeadingZeros64.mono _ _
      | exact LeO.none _
      | refine LeO.ite ?_ ?_
      | refine LeO.bind ?_ (fun _ => ?_)
    · intro y0 y1 y2 y3 y4 y5 y6 y7 y8
      unfold bits_Div64.l0
      repeat' first
      | (with_reducible exact ih0 _ _ _ _ _ _ _ _)
      | (with_reducible exact ih1 _ _ _ _ _ _ _ _ _)
      | (with_reducible exact ih2 _ _ _ _ _ _ _ _ _ _)
      | (with_reducible exact ih3 _ _ _ _ _ _ _ _ _)
      | (with_reducible exact ih4 _ _ _ _ _ _ _ _ _ _)
      | (with_reducible exact bits_LeadingZeros64.mono _ _)
      | (with_reducible exact LeO.refl _)
      | (with_reducible exact LeO.none _)
      | (with_reducible refine LeO.ite ?_ ?_)
      | (with_reducible refine LeO.bind ?_ (fun _ => ?_))
      | exact ih0 _ _ _ _ _ _ _ _
      | exact ih1 _ _ _ _ _ _ _ _ _
      | exact ih2 _ _ _ _ _ _ _ _ _ _
      | exact ih3 _ _ _ _ _ _ _ _ _
      | exact ih4 _ _ _ _ _ _ _ _ _ _
      | exact bits_LeadingZeros64.mono _ _
      | exact LeO.none _
      | refine LeO.ite ?_ ?_
      | refine LeO.bind ?_ (fun _ => ?_)
    · intro y0 y1 y2 y3 y4 y5 y6 y7 y8 y9
      unfold bits_Div64.j1
      repeat' first
      | (with_reducible exact ih0 _ _ _ _ _ _ _ _)
      | (with_reducible exact ih1 _ _ _ _ _ _ _ _ _)
      | (with_reducible exact ih2 _ _ _ _ _ _ _ _ _ _)
      | (with_reducible exact ih3 _ _ _ _ _ _ _ _ _)
      | (with_reducible exact ih4 _ _ _ _ _ _ _ _ _ _)
      | (with_reducible exact bits_LeadingZeros64.mono _ _)
      | (with_reducible exact LeO.refl _)
      | (with_reducible exact LeO.none _)
      | (with_reducible refine LeO.ite ?_ ?_)
      | (with_reducible refine LeO.bind ?_ (fun _ => ?_))
      | exact ih0 _ _ _ _ _ _ _ _
      | exact ih1 _ _ _ _ _ _ _ _ _
      | exact ih2 _ _ _ _ _ _ _ _ _ _
      | exact ih3 _ _ _ _ _ _ _ _ _
      | exact ih4 _ _ _ _ _ _ _ _ _ _
      | exact bits_LeadingZeros64.mono _ _
      | exact LeO.none _
      | refine LeO.ite ?_ ?_
      | refine LeO.bind ?_ (fun _ => ?_)
theorem bits_Div64.mono : ∀ a0 a1 a2 k, LeO (bits_Div64.f k a0 a1 a2) (bits_Div64.f (k + 1) a0 a1 a2) := by
  intro a0 a1 a2 k
  obtain ⟨ih0, ih1, ih2, ih3, ih4⟩ := bits_Div64.mono_l k
  unfold bits_Div64.f
  repeat' first
      | (with_reducible exact ih0 _ _ _ _ _ _ _ _)
      | (with_reducible exact ih1 _ _ _ _ _ _ _ _ _)
      | (with_reducible exact ih2 _ _ _ _ _ _ _ _ _ _)
      | (with_reducible exact ih3 _ _ _ _ _ _ _ _ _)
      | (with_reducible exact ih4 _ _ _ _ _ _ _ _ _ _)
      | (with_reducible exact bits_LeadingZeros64.mono _ _)
      | (with_reducible exact LeO.refl _)
      | (with_reducible exact LeO.none _)
      | (with_reducible refine LeO.ite ?_ ?_)
      | (with_reducible refine LeO.bind ?_ (fun _ => ?_))
      | exact ih0 _ _ _ _ _ _ _ _
      | exact ih1 _ _ _ _ _ _ _ _ _
      | exact ih2 _ _ _ _ _ _ _ _ _ _
      | exact ih3 _ _ _ _ _ _ _ _ _
      | exact ih4 _ _ _ _ _ _ _ _ _ _
      | exact bits_LeadingZeros64.mono _ _
      | exact LeO.none _
      | refine LeO.ite ?_ ?_
      | refine LeO.bind ?_ (fun _ => ?_)
def half_Over.f (k : Nat) (a0_0 : Int) (a0_1 : Int) (a1 : Int) : Option (Int × Int × Int) := if a1 = 0 then (some (0, 0, 5)) else (if a0_0 ≥ a1 then (some (0, 0, 4)) else ((bits_Div64.f k a0_0 a0_1 a1).bind fun bt113 => (some (bt113.1, bt113.2, 0))))
theorem half_Over.mono : ∀ a0 a1 a2 k, LeO (half_Over.f k a0 a1 a2) (half_Over.f (k + 1) a0 a1 a2) := by
  intro a0 a1 a2 k
  unfold half_Over.f
  repeat' first
      | (with_reducible exact bits_Div64.mono _ _ _ _)
      | (with_reducible exact LeO.refl _)
      | (with_reducible exact LeO.none _)
      | (with_reducible refine LeO.ite ?_ ?_)
      | (with_reducible refine LeO.bind ?_ (fun _ => ?_))
      | exact bits_Div64.mono _ _ _ _
      | exact LeO.none _
      | refine LeO.ite ?_ ?_
      | refine LeO.bind ?_ (fun _ => ?_)
def half_up.f (a0 : Int) (a1 : Int) (a2 : Int) : Option (Bool) := if a1 > (IntKind.u64.wrap (a2 - a1)) then (some true) else (if a1 = (IntKind.u64.wrap (a2 - a1)) then (some ((Int.tmod a0 2) == 1)) else (some false))
def half_Near.j0 : Nat → Int → Int → Bool → Option (Int × Int)
  | 0, _, _, _ => none
  | k + 1, x6, x8, x24 => if x24 = true then (some (x6, x8)) else (if (IntKind.u64.wrap (x6 + 1)) = 0 then (some (0, 4)) else (some (IntKind.u64.wrap (x6 + 1), 0)))
def half_Near.f (k : Nat) (a0_0 : Int) (a0_1 : Int) (a1 : Int) : Option (Int × Int) := (half_Over.f k a0_0 a0_1 a1).bind fun bt116 => (if bt116.2.2 = 0 then ((half_up.f bt116.1 bt116.2.1 a1).bind fun t119 => (half_Near.j0 k bt116.1 bt116.2.2 (!t119))) else (half_Near.j0 k bt116.1 bt116.2.2 true))
theorem half_Near.mono_l : ∀ k, (∀ y0 y1 y2, LeO (half_Near.j0 k y0 y1 y2) (half_Near.j0 (k + 1) y0 y1 y2))
  | 0 => fun _ _ _ r h => by simp [half_Near.j0] at h
  | k + 1 => by
    have ih0 := half_Near.mono_l k
    · intro y0 y1 y2
      unfold half_Near.j0
      repeat' first
      | (with_reducible exact ih0 _ _ _)
      | (with_reducible exact half_Over.mono _ _ _ _)
      | (with_reducible exact LeO.refl _)
      | (with_reducible exact LeO.none _)
      | (with_reducible refine LeO.ite ?_ ?_)
      | (with_reducible refine LeO.bind ?_ (fun _ => ?_))
      | exact ih0 _ _ _
      | exact half_Over.mono _ _ _ _
      | exact LeO.none _
      | refine LeO.ite ?_ ?_
      | refine LeO.bind ?_ (fun _ => ?_)
theorem half_Near.mono : ∀ a0 a1 a2 k, LeO (half_Near.f k a0 a1 a2) (half_Near.f (k + 1) a0 a1 a2) := by
  intro a0 a1 a2 k
  have ih0 := half_Near.mono_l k
  unfold half_Near.f
  repeat' first
      | (with_reducible exact ih0 _ _ _)
      | (with_reducible exact half_Over.mono _ _ _ _)
      | (with_reducible exact LeO.refl _)
      | (with_reducible exact LeO.none _)
      | (with_reducible refine LeO.ite ?_ ?_)
      | (with_reducible refine LeO.bind ?_ (fun _ => ?_))
      | exact ih0 _ _ _
      | exact half_Over.mono _ _ _ _
      | exact LeO.none _
      | refine LeO.ite ?_ ?_
      | refine LeO.bind ?_ (fun _ => ?_)
def pair_held.f (a0 : Int) : Option (Int) := some (mn (mx a0 0) 128)
def pair_Shr.f (a0_0 : Int) (a0_1 : Int) (a1 : Int) : Option (Int × Int) := (pair_held.f a1).bind fun t122 => (if (IntKind.u64.wrap (t122)) ≥ 64 then (if 0 ≤ (IntKind.u64.wrap ((IntKind.u64.wrap (t122)) - 64)) then (some (0, shr .u64 a0_0 (IntKind.u64.wrap ((IntKind.u64.wrap (t122)) - 64)))) else (none)) else (if 0 ≤ (IntKind.u64.wrap (t122)) then (if 0 ≤ (IntKind.u64.wrap (64 - (IntKind.u64.wrap (t122)))) then (some (shr .u64 a0_0 (IntKind.u64.wrap (t122)), Go.bits .or .u64 (shr .u64 a0_1 (IntKind.u64.wrap (t122))) (shl .u64 a0_0 (IntKind.u64.wrap (64 - (IntKind.u64.wrap (t122))))))) else (none)) else (none)))
def pair_Shl.f (a0_0 : Int) (a0_1 : Int) (a1 : Int) : Option (Int × Int × Bool) := (pair_held.f a1).bind fun t125 => (if 0 ≤ (IntKind.u64.wrap (t125)) then (if 0 ≤ (IntKind.u64.wrap (64 - (IntKind.u64.wrap (t125)))) then (if (IntKind.u64.wrap (t125)) ≥ 64 then (if 0 ≤ (IntKind.u64.wrap ((IntKind.u64.wrap (t125)) - 64)) then ((pair_Shr.f (shl .u64 a0_1 (IntKind.u64.wrap ((IntKind.u64.wrap (t125)) - 64))) 0 a1).bind fun bt127 => (some (shl .u64 a0_1 (IntKind.u64.wrap ((IntKind.u64.wrap (t125)) - 64)), 0, (bt127.1 == a0_0 && (bt127.2 == a0_1))))) else (none)) else ((pair_Shr.f (Go.bits .or .u64 (shl .u64 a0_0 (IntKind.u64.wrap (t125))) (shr .u64 a0_1 (IntKind.u64.wrap (64 - (IntKind.u64.wrap (t125)))))) (shl .u64 a0_1 (IntKind.u64.wrap (t125))) a1).bind fun bt129 => (some (Go.bits .or .u64 (shl .u64 a0_0 (IntKind.u64.wrap (t125))) (shr .u64 a0_1 (IntKind.u64.wrap (64 - (IntKind.u64.wrap (t125))))), shl .u64 a0_1 (IntKind.u64.wrap (t125)), (bt129.1 == a0_0 && (bt129.2 == a0_1)))))) else (none)) else (none))
def half_Shift.f (k : Nat) (a0_0 : Int) (a0_1 : Int) (a1 : Int) : Option (Int × Int) := (pair_Shl.f 0 1 (mn (mx a1 0) 63)).bind fun bt132 => ((half_Near.f k a0_0 a0_1 bt132.2.1).bind fun bt136 => (some (bt136.1, bt136.2)))
theorem half_Shift.mono : ∀ a0 a1 a2 k, LeO (half_Shift.f k a0 a1 a2) (half_Shift.f (k + 1) a0 a1 a2) := by
  intro a0 a1 a2 k
  unfold half_Shift.f
  repeat' first
      | (with_reducible exact half_Near.mono _ _ _ _)
      | (with_reducible exact LeO.refl _)
      | (with_reducible exact LeO.none _)
      | (with_reducible refine LeO.ite ?_ ?_)
      | (with_reducible refine LeO.bind ?_ (fun _ => ?_))
      | exact half_Near.mono _ _ _ _
      | exact LeO.none _
      | refine LeO.ite ?_ ?_
      | refine LeO.bind ?_ (fun _ => ?_)
def pair_Mul.f (a0 : Int) (a1 : Int) : Option (Int × Int) := some (IntKind.u64.wrap ((IntKind.u64.wrap ((IntKind.u64.wrap ((IntKind.u64.wrap ((a0 / 4294967296) * (a1 / 4294967296))) + ((IntKind.u64.wrap ((a0 / 4294967296) * (Go.bits .and .u64 a1 4294967295))) / 4294967296))) + ((IntKind.u64.wrap ((Go.bits .and .u64 a0 4294967295) * (a1 / 4294967296))) / 4294967296))) + ((IntKind.u64.wrap ((IntKind.u64.wrap (((IntKind.u64.wrap ((Go.bits .and .u64 a0 4294967295) * (Go.bits .and .u64 a1 4294967295))) / 4294967296) + (Go.bits .and .u64 (IntKind.u64.wrap ((a0 / 4294967296) * (Go.bits .and .u64 a1 4294967295))) 4294967295))) + (Go.bits .and .u64 (IntKind.u64.wrap ((Go.bits .and .u64 a0 4294967295) * (a1 / 4294967296))) 4294967295))) / 4294967296)), Go.bits .or .u64 (IntKind.u64.wrap ((IntKind.u64.wrap ((IntKind.u64.wrap (((IntKind.u64.wrap ((Go.bits .and .u64 a0 4294967295) * (Go.bits .and .u64 a1 4294967295))) / 4294967296) + (Go.bits .and .u64 (IntKind.u64.wrap ((a0 / 4294967296) * (Go.bits .and .u64 a1 4294967295))) 4294967295))) + (Go.bits .and .u64 (IntKind.u64.wrap ((Go.bits .and .u64 a0 4294967295) * (a1 / 4294967296))) 4294967295))) * 4294967296)) (Go.bits .and .u64 (IntKind.u64.wrap ((Go.bits .and .u64 a0 4294967295) * (Go.bits .and .u64 a1 4294967295))) 4294967295))
def dec_power.l0 : Nat → Int → Int → Int → Option (Int)
  | 0, _, _, _ => none
  | k + 1, x3, x4, x5 => if x5 < x4 then (dec_power.l0 k (IntKind.u64.wrap (x3 * 10)) x4 (wrap64 (x5 + 1))) else (some x3)
def dec_power.f (k : Nat) (a0 : Int) : Option (Int) := dec_power.l0 k 1 a0 0
theorem dec_power.mono_l : ∀ k, (∀ y0 y1 y2, LeO (dec_power.l0 k y0 y1 y2) (dec_power.l0 (k + 1) y0 y1 y2))
  | 0 => fun _ _ _ r h => by simp [dec_power.l0] at h
  | k + 1 => by
    have ih0 := dec_power.mono_l k
    · intro y0 y1 y2
      unfold dec_power.l0
      repeat' first
      | (with_reducible exact ih0 _ _ _)
      | (with_reducible exact LeO.refl _)
      | (with_reducible exact LeO.none _)
      | (with_reducible refine LeO.ite ?_ ?_)
      | (with_reducible refine LeO.bind ?_ (fun _ => ?_))
      | exact ih0 _ _ _
      | exact LeO.none _
      | refine LeO.ite ?_ ?_
      | refine LeO.bind ?_ (fun _ => ?_)
theorem dec_power.mono : ∀ a0 k, LeO (dec_power.f k a0) (dec_power.f (k + 1) a0) := by
  intro a0 k
  have ih0 := dec_power.mono_l k
  unfold dec_power.f
  repeat' first
      | (with_reducible exact ih0 _ _ _)
      | (with_reducible exact LeO.refl _)
      | (with_reducible exact LeO.none _)
      | (with_reducible refine LeO.ite ?_ ?_)
      | (with_reducible refine LeO.bind ?_ (fun _ => ?_))
      | exact ih0 _ _ _
      | exact LeO.none _
      | refine LeO.ite ?_ ?_
      | refine LeO.bind ?_ (fun _ => ?_)
def dec_fraction.f (k : Nat) (a0 : Int) (a1 : Int) : Option (Int) := (pair_Shl.f 0 a0 32).bind fun bt139 => ((dec_power.f k a1).bind fun t143 => ((half_Near.f k bt139.1 bt139.2.1 t143).bind fun bt144 => (some bt144.1)))
theorem dec_fraction.mono : ∀ a0 a1 k, LeO (dec_fraction.f k a0 a1) (dec_fraction.f (k + 1) a0 a1) := by
  intro a0 a1 k
  unfold dec_fraction.f
  repeat' first
      | (with_reducible exact dec_power.mono _ _)
      | (with_reducible exact half_Near.mono _ _ _ _)
      | (with_reducible exact LeO.refl _)
      | (with_reducible exact LeO.none _)
      | (with_reducible refine LeO.ite ?_ ?_)
      | (with_reducible refine LeO.bind ?_ (fun _ => ?_))
      | exact dec_power.mono _ _
      | exact half_Near.mono _ _ _ _
      | exact LeO.none _
      | refine LeO.ite ?_ ?_
      | refine LeO.bind ?_ (fun _ => ?_)
def strings_Repeat.f (a0 : ByteArray) (a1 : Int) : Option ByteArray := if 0 ≤ a1 ∧ a1 ≤ 9223372036854775807 ∧ a0.size * a1.toNat ≤ 140737488355328 then some ⟨(Lib.repeatL a0.data.toList a1.toNat).toArray⟩ else none
def dec_behind.l0 : Nat → Int → Int → Option (ByteArray)
  | 0, _, _ => none
  | k + 1, x0, x3 => if x3 ≤ 10 then ((dec_power.f k x3).bind fun t146 => ((pair_Mul.f x0 t146).bind fun bt147 => ((half_Shift.f k bt147.1 bt147.2 32).bind fun bt149 => ((dec_fraction.f k bt149.1 x3).bind fun t151 => (if t151 = x0 then ((num_Tell.f k (wrap64 (bt149.1))).bind fun t152 => ((strings_Repeat.f (⟨#[48]⟩ : ByteArray) (wrap64 (x3 - (t152.size : Int)))).bind fun t153 => (if t153.size + t152.size ≤ 9223372036854775807 then (some (t153 ++ t152)) else (none)))) else (dec_behind.l0 k x0 (wrap64 (x3 + 1)))))))) else (some (⟨#[]⟩ : ByteArray))
def dec_behind.f (k : Nat) (a0 : Int) : Option (ByteArray) := dec_behind.l0 k a0 1
theorem dec_behind.mono_l : ∀ k, (∀ y0 y1, LeO (dec_behind.l0 k y0 y1) (dec_behind.l0 (k + 1) y0 y1))
  | 0 => fun _ _ r h => by simp [dec_behind.l0] at h
  | k + 1 => by
    have ih0 := dec_behind.mono_l k
    · intro y0 y1
      unfold dec_behind.l0
      repeat' first
      | (with_reducible exact ih0 _ _)
      | (with_reducible exact dec_fraction.mono _ _ _)
      | (with_reducible exact dec_power.mono _ _)
      | (with_reducible exact half_Shift.mono _ _ _ _)
      | (with_reducible exact num_Tell.mono _ _)
      | (with_reducible exact LeO.refl _)
      | (with_reducible exact LeO.none _)
      | (with_reducible refine LeO.ite ?_ ?_)
      | (with_reducible refine LeO.bind ?_ (fun _ => ?_))
      | exact ih0 _ _
      | exact dec_fraction.mono _ _ _
      | exact dec_power.mono _ _
      | exact half_Shift.mono _ _ _ _
      | exact num_Tell.mono _ _
      | exact LeO.none _
      | refine LeO.ite ?_ ?_
      | refine LeO.bind ?_ (fun _ => ?_)
theorem dec_behind.mono : ∀ a0 k, LeO (dec_behind.f k a0) (dec_behind.f (k + 1) a0) := by
  intro a0 k
  have ih0 := dec_behind.mono_l k
  unfold dec_behind.f
  repeat' first
      | (with_reducible exact ih0 _ _)
      | (with_reducible exact dec_fraction.mono _ _ _)
      | (with_reducible exact dec_power.mono _ _)
      | (with_reducible exact half_Shift.mono _ _ _ _)
      | (with_reducible exact num_Tell.mono _ _)
      | (with_reducible exact LeO.refl _)
      | (with_reducible exact LeO.none _)
      | (with_reducible refine LeO.ite ?_ ?_)
      | (with_reducible refine LeO.bind ?_ (fun _ => ?_))
      | exact ih0 _ _
      | exact dec_fraction.mono _ _ _
      | exact dec_power.mono _ _
      | exact half_Shift.mono _ _ _ _
      | exact num_Tell.mono _ _
      | exact LeO.none _
      | refine LeO.ite ?_ ?_
      | refine LeO.bind ?_ (fun _ => ?_)
def dec_Put.f (k : Nat) (a0 : Int) : Option (ByteArray) := (fix_Size.f a0).bind fun t154 => ((num_Tell.f k (wrap64 (t154 / 4294967296))).bind fun t155 => (if a0 < 0 then (if 1 + t155.size ≤ 9223372036854775807 then (if (Go.bits .and .u64 t154 4294967295) = 0 then (some ((⟨#[45]⟩ : ByteArray) ++ t155)) else ((dec_behind.f k (Go.bits .and .u64 t154 4294967295)).bind fun t156 => (if 1 + t156.size ≤ 9223372036854775807 then (if ((⟨#[45]⟩ : ByteArray) ++ t155).size + ((⟨#[46]⟩ : ByteArray) ++ t156).size ≤ 9223372036854775807 then (some (((⟨#[45]⟩ : ByteArray) ++ t155) ++ ((⟨#[46]⟩ : ByteArray) ++ t156))) else (none)) else (none)))) else (none)) else (if (Go.bits .and .u64 t154 4294967295) = 0 then (some t155) else ((dec_behind.f k (Go.bits .and .u64 t154 4294967295)).bind fun t157 => (if 1 + t157.size ≤ 9223372036854775807 then (if t155.size + ((⟨#[46]⟩ : ByteArray) ++ t157).size ≤ 9223372036854775807 then (some (t155 ++ ((⟨#[46]⟩ : ByteArray) ++ t157))) else (none)) else (none))))))
theorem dec_Put.mono : ∀ a0 k, LeO (dec_Put.f k a0) (dec_Put.f (k + 1) a0) := by
  intro a0 k
  unfold dec_Put.f
  repeat' first
      | (with_reducible exact dec_behind.mono _ _)
      | (with_reducible exact num_Tell.mono _ _)
      | (with_reducible exact LeO.refl _)
      | (with_reducible exact LeO.none _)
      | (with_reducible refine LeO.ite ?_ ?_)
      | (with_reducible refine LeO.bind ?_ (fun _ => ?_))
      | exact dec_behind.mono _ _
      | exact num_Tell.mono _ _
      | exact LeO.none _
      | refine LeO.ite ?_ ?_
      | refine LeO.bind ?_ (fun _ => ?_)
def output_decimals.l0 : Nat → List ByteArray → List Int → Int → Int → Option (List ByteArray)
  | 0, _, _, _, _ => none
  | k + 1, x3, x6, x7, x8 => if x8 < x7 then (if 0 ≤ x8 then (if x8 < (x6.length : Int) then ((dec_Put.f k (rd x6 x8)).bind fun t159 => (if x3.length < 8796093022208 then (output_decimals.l0 k (x3 ++ [t159]) x6 x7 (wrap64 (x8 + 1))) else (none))) else (none)) else (none)) else (some x3)
def output_decimals.f (k : Nat) (l0 : List Int) : Option (List ByteArray) := output_decimals.l0 k ([] : List ByteArray) l0 (l0.length : Int) 0
theorem output_decimals.mono_l : ∀ k, (∀ y0 y1 y2 y3, LeO (output_decimals.l0 k y0 y1 y2 y3) (output_decimals.l0 (k + 1) y0 y1 y2 y3))
  | 0 => fun _ _ _ _ r h => by simp [output_decimals.l0] at h
  | k + 1 => by
    have ih0 := output_decimals.mono_l k
    · intro y0 y1 y2 y3
      unfold output_decimals.l0
      repeat' first
      | (with_reducible exact ih0 _ _ _ _)
      | (with_reducible exact dec_Put.mono _ _)
      | (with_reducible exact LeO.refl _)
      | (with_reducible exact LeO.none _)
      | (with_reducible refine LeO.ite ?_ ?_)
      | (with_reducible refine LeO.bind ?_ (fun _ => ?_))
      | exact ih0 _ _ _ _
      | exact dec_Put.mono _ _
      | exact LeO.none _
      | refine LeO.ite ?_ ?_
      | refine LeO.bind ?_ (fun _ => ?_)
theorem output_decimals.mono : ∀ a0 k, LeO (output_decimals.f k a0) (output_decimals.f (k + 1) a0) := by
  intro a0 k
  have ih0 := output_decimals.mono_l k
  unfold output_decimals.f
  repeat' first
      | (with_reducible exact ih0 _ _ _ _)
      | (with_reducible exact dec_Put.mono _ _)
      | (with_reducible exact LeO.refl _)
      | (with_reducible exact LeO.none _)
      | (with_reducible refine LeO.ite ?_ ?_)
      | (with_reducible refine LeO.bind ?_ (fun _ => ?_))
      | exact ih0 _ _ _ _
      | exact dec_Put.mono _ _
      | exact LeO.none _
      | refine LeO.ite ?_ ?_
      | refine LeO.bind ?_ (fun _ => ?_)
def swa_Check.f (a0_0 : Int) (l0_1 : List Int) : Option (Int) := if a0_0 < 0 then (some 1) else (if a0_0 > 1048576 then (some 1) else (if a0_0 = 0 then (if (l0_1.length : Int) > 0 then (some 1) else (some 0)) else (some 0)))
def fix_Signed.j0 : Nat → Int → Bool → Bool → Option (Int × Int)
  | 0, _, _, _ => none
  | k + 1, x0, x1, x6 => if x6 = true then (some (wrap64 (IntKind.u64.wrap (-x0)), 0)) else (if x1 = true then (some (0, 4)) else (if x0 < 9223372036854775808 then (some (wrap64 (x0), 0)) else (some (0, 4))))
def fix_Signed.f (k : Nat) (a0 : Int) (a1 : Bool) : Option (Int × Int) := if a1 = true then (fix_Signed.j0 k a0 a1 (decide (a0 ≤ 9223372036854775808))) else (fix_Signed.j0 k a0 a1 false)
theorem fix_Signed.mono_l : ∀ k, (∀ y0 y1 y2, LeO (fix_Signed.j0 k y0 y1 y2) (fix_Signed.j0 (k + 1) y0 y1 y2))
  | 0 => fun _ _ _ r h => by simp [fix_Signed.j0] at h
  | k + 1 => by
    have ih0 := fix_Signed.mono_l k
    · intro y0 y1 y2
      unfold fix_Signed.j0
      repeat' first
      | (with_reducible exact ih0 _ _ _)
      | (with_reducible exact LeO.refl _)
      | (with_reducible exact LeO.none _)
      | (with_reducible refine LeO.ite ?_ ?_)
      | (with_reducible refine LeO.bind ?_ (fun _ => ?_))
      | exact ih0 _ _ _
      | exact LeO.none _
      | refine LeO.ite ?_ ?_
      | refine LeO.bind ?_ (fun _ => ?_)
theorem fix_Signed.mono : ∀ a0 a1 k, LeO (fix_Signed.f k a0 a1) (fix_Signed.f (k + 1) a0 a1) := by
  intro a0 a1 k
  have ih0 := fix_Signed.mono_l k
  unfold fix_Signed.f
  repeat' first
      | (with_reducible exact ih0 _ _ _)
      | (with_reducible exact LeO.refl _)
      | (with_reducible exact LeO.none _)
      | (with_reducible refine LeO.ite ?_ ?_)
      | (with_reducible refine LeO.bind ?_ (fun _ => ?_))
      | exact ih0 _ _ _
      | exact LeO.none _
      | refine LeO.ite ?_ ?_
      | refine LeO.bind ?_ (fun _ => ?_)
def swa_Mean.l0 : Nat → List Int → List Int → Int → Int → Int → List Int → Option (List Int × Int)
  | 0, _, _, _, _, _, _ => none
  | k + 1, x5, x18, x19, x20, x205000, x205001 => if x20 < x19 then (if 0 ≤ x20 then (if x20 < (x18.length : Int) then ((fix_Size.f (rd x18 x20)).bind fun t207 => ((half_Near.f k 0 t207 (IntKind.u64.wrap (x205000))).bind fun bt208 => ((fix_Signed.f k bt208.1 (decide ((rd x18 x20) < 0))).bind fun bt210 => (if x5.length < 17592186044416 then (swa_Mean.l0 k (x5 ++ [bt210.1]) x18 x19 (wrap64 (x20 + 1)) x205000 x205001) else (none))))) else (none)) else (none)) else (some (x5, 0))
def swa_Mean.f (k : Nat) (a0_0 : Int) (l0_1 : List Int) : Option (List Int × Int) := (swa_Check.f a0_0 l0_1).bind fun t205 => (if t205 = 0 then (swa_Mean.l0 k ([] : List Int) l0_1 (l0_1.length : Int) 0 a0_0 l0_1) else (some (([] : List Int), t205)))
theorem swa_Mean.mono_l : ∀ k, (∀ y0 y1 y2 y3 y4 y5, LeO (swa_Mean.l0 k y0 y1 y2 y3 y4 y5) (swa_Mean.l0 (k + 1) y0 y1 y2 y3 y4 y5))
  | 0 => fun _ _ _ _ _ _ r h => by simp [swa_Mean.l0] at h
  | k + 1 => by
    have ih0 := swa_Mean.mono_l k
    · intro y0 y1 y2 y3 y4 y5
      unfold swa_Mean.l0
      repeat' first
      | (with_reducible exact ih0 _ _ _ _ _ _)
      | (with_reducible exact fix_Signed.mono _ _ _)
      | (with_reducible exact half_Near.mono _ _ _ _)
      | (with_reducible exact LeO.refl _)
      | (with_reducible exact LeO.none _)
      | (with_reducible refine LeO.ite ?_ ?_)
      | (with_reducible refine LeO.bind ?_ (fun _ => ?_))
      | exact ih0 _ _ _ _ _ _
      | exact fix_Signed.mono _ _ _
      | exact half_Near.mono _ _ _ _
      | exact LeO.none _
      | refine LeO.ite ?_ ?_
      | refine LeO.bind ?_ (fun _ => ?_)
theorem swa_Mean.mono : ∀ a0 a1 k, LeO (swa_Mean.f k a0 a1) (swa_Mean.f (k + 1) a0 a1) := by
  intro a0 a1 k
  have ih0 := swa_Mean.mono_l k
  unfold swa_Mean.f
  repeat' first
      | (with_reducible exact ih0 _ _ _ _ _ _)
      | (with_reducible exact fix_Signed.mono _ _ _)
      | (with_reducible exact half_Near.mono _ _ _ _)
      | (with_reducible exact LeO.refl _)
      | (with_reducible exact LeO.none _)
      | (with_reducible refine LeO.ite ?_ ?_)
      | (with_reducible refine LeO.bind ?_ (fun _ => ?_))
      | exact ih0 _ _ _ _ _ _
      | exact fix_Signed.mono _ _ _
      | exact half_Near.mono _ _ _ _
      | exact LeO.none _
      | refine LeO.ite ?_ ?_
      | refine LeO.bind ?_ (fun _ => ?_)
def regimenref36_Words.f  : Option (List ByteArray) := some (([(⟨#[]⟩ : ByteArray), (⟨#[112, 104, 97, 115, 101]⟩ : ByteArray), (⟨#[116, 104, 97, 119]⟩ : ByteArray), (⟨#[102, 114, 101, 101, 122, 101]⟩ : ByteArray), (⟨#[115, 119, 97]⟩ : ByteArray), (⟨#[102, 97, 105, 108]⟩ : ByteArray), (⟨#[109, 105, 115, 115]⟩ : ByteArray), (⟨#[107, 101, 101, 112]⟩ : ByteArray), (⟨#[100, 114, 111, 112]⟩ : ByteArray), (⟨#[99, 117, 116]⟩ : ByteArray), (⟨#[115, 116, 111, 112]⟩ : ByteArray), (⟨#[101, 110, 100]⟩ : ByteArray)] : List ByteArray))
def regimenref01_Text.l0 : Nat → Int → ByteArray → ByteArray → Option (ByteArray)
  | 0, _, _, _ => none
  | k + 1, x0, x3, x4 => if x0 ≥ 10 then (if 0 ≤ (Int.tmod (wrap64 (Int.tdiv x0 10)) 10) then (if (Int.tmod (wrap64 (Int.tdiv x0 10)) 10) ≤ (wrap64 ((Int.tmod (wrap64 (Int.tdiv x0 10)) 10) + 1)) then (if (wrap64 ((Int.tmod (wrap64 (Int.tdiv x0 10)) 10) + 1)) ≤ (x3.size : Int) then (if (x3.extract ((Int.tmod (wrap64 (Int.tdiv x0 10)) 10) : Int).toNat ((wrap64 ((Int.tmod (wrap64 (Int.tdiv x0 10)) 10) + 1)) : Int).toNat).size + x4.size ≤ 9223372036854775807 then (regimenref01_Text.l0 k (wrap64 (Int.tdiv x0 10)) x3 ((x3.extract ((Int.tmod (wrap64 (Int.tdiv x0 10)) 10) : Int).toNat ((wrap64 ((Int.tmod (wrap64 (Int.tdiv x0 10)) 10) + 1)) : Int).toNat) ++ x4)) else (none)) else (none)) else (none)) else (none)) else (some x4)
def regimenref01_Text.f (k : Nat) (a0 : Int) : Option (ByteArray) := if 0 ≤ (Int.tmod a0 10) then (if (Int.tmod a0 10) ≤ (wrap64 ((Int.tmod a0 10) + 1)) then (if (wrap64 ((Int.tmod a0 10) + 1)) ≤ 10 then (regimenref01_Text.l0 k a0 (⟨#[48, 49, 50, 51, 52, 53, 54, 55, 56, 57]⟩ : ByteArray) ((⟨#[48, 49, 50, 51, 52, 53, 54, 55, 56, 57]⟩ : ByteArray).extract ((Int.tmod a0 10) : Int).toNat ((wrap64 ((Int.tmod a0 10) + 1)) : Int).toNat)) else (none)) else (none)) else (none)
theorem regimenref01_Text.mono_l : ∀ k, (∀ y0 y1 y2, LeO (regimenref01_Text.l0 k y0 y1 y2) (regimenref01_Text.l0 (k + 1) y0 y1 y2))
  | 0 => fun _ _ _ r h => by simp [regimenref01_Text.l0] at h
  | k + 1 => by
    have ih0 := regimenref01_Text.mono_l k
    · intro y0 y1 y2
      unfold regimenref01_Text.l0
      repeat' first
      | (with_reducible exact ih0 _ _ _)
      | (with_reducible exact LeO.refl _)
      | (with_reducible exact LeO.none _)
      | (with_reducible refine LeO.ite ?_ ?_)
      | (with_reducible refine LeO.bind ?_ (fun _ => ?_))
      | exact ih0 _ _ _
      | exact LeO.none _
      | refine LeO.ite ?_ ?_
      | refine LeO.bind ?_ (fun _ => ?_)
theorem regimenref01_Text.mono : ∀ a0 k, LeO (regimenref01_Text.f k a0) (regimenref01_Text.f (k + 1) a0) := by
  intro a0 k
  have ih0 := regimenref01_Text.mono_l k
  unfold regimenref01_Text.f
  repeat' first
      | (with_reducible exact ih0 _ _ _)
      | (with_reducible exact LeO.refl _)
      | (with_reducible exact LeO.none _)
      | (with_reducible refine LeO.ite ?_ ?_)
      | (with_reducible refine LeO.bind ?_ (fun _ => ?_))
      | exact ih0 _ _ _
      | exact LeO.none _
      | refine LeO.ite ?_ ?_
      | refine LeO.bind ?_ (fun _ => ?_)
def regimenref01_Tell.f (k : Nat) (a0 : Int) : Option (ByteArray) := if a0 ≥ 0 then ((regimenref01_Text.f k a0).bind fun t293 => (some t293)) else (if 0 ≤ (wrap64 (-(Int.tmod a0 10))) then (if (wrap64 (-(Int.tmod a0 10))) ≤ (wrap64 ((wrap64 (-(Int.tmod a0 10))) + 1)) then (if (wrap64 ((wrap64 (-(Int.tmod a0 10))) + 1)) ≤ 10 then (if (wrap64 (Int.tdiv a0 10)) = 0 then (if 1 + ((⟨#[48, 49, 50, 51, 52, 53, 54, 55, 56, 57]⟩ : ByteArray).extract ((wrap64 (-(Int.tmod a0 10))) : Int).toNat ((wrap64 ((wrap64 (-(Int.tmod a0 10))) + 1)) : Int).toNat).size ≤ 9223372036854775807 then (some ((⟨#[45]⟩ : ByteArray) ++ ((⟨#[48, 49, 50, 51, 52, 53, 54, 55, 56, 57]⟩ : ByteArray).extract ((wrap64 (-(Int.tmod a0 10))) : Int).toNat ((wrap64 ((wrap64 (-(Int.tmod a0 10))) + 1)) : Int).toNat))) else (none)) else ((regimenref01_Text.f k (wrap64 (-(wrap64 (Int.tdiv a0 10))))).bind fun t294 => (if t294.size + ((⟨#[48, 49, 50, 51, 52, 53, 54, 55, 56, 57]⟩ : ByteArray).extract ((wrap64 (-(Int.tmod a0 10))) : Int).toNat ((wrap64 ((wrap64 (-(Int.tmod a0 10))) + 1)) : Int).toNat).size ≤ 9223372036854775807 then (if 1 + (t294 ++ ((⟨#[48, 49, 50, 51, 52, 53, 54, 55, 56, 57]⟩ : ByteArray).extract ((wrap64 (-(Int.tmod a0 10))) : Int).toNat ((wrap64 ((wrap64 (-(Int.tmod a0 10))) + 1)) : Int).toNat)).size ≤ 9223372036854775807 then (some ((⟨#[45]⟩ : ByteArray) ++ (t294 ++ ((⟨#[48, 49, 50, 51, 52, 53, 54, 55, 56, 57]⟩ : ByteArray).extract ((wrap64 (-(Int.tmod a0 10))) : Int).toNat ((wrap64 ((wrap64 (-(Int.tmod a0 10))) + 1)) : Int).toNat)))) else (none)) else (none)))) else (none)) else (none)) else (none))
theorem regimenref01_Tell.mono : ∀ a0 k, LeO (regimenref01_Tell.f k a0) (regimenref01_Tell.f (k + 1) a0) := by
  intro a0 k
  unfold regimenref01_Tell.f
  repeat' first
      | (with_reducible exact regimenref01_Text.mono _ _)
      | (with_reducible exact LeO.refl _)
      | (with_reducible exact LeO.none _)
      | (with_reducible refine LeO.ite ?_ ?_)
      | (with_reducible refine LeO.bind ?_ (fun _ => ?_))
      | exact regimenref01_Text.mono _ _
      | exact LeO.none _
      | refine LeO.ite ?_ ?_
      | refine LeO.bind ?_ (fun _ => ?_)
def regimenref36_Line.j0 : Nat → ByteArray → Bool → Int → Int → Int → Option (ByteArray)
  | 0, _, _, _, _, _ => none
  | k + 1, x3, x11, x296000, x296001, x296002 => if x11 = true then ((regimenref36_Words.f).bind fun t296 => (if 0 ≤ x296001 then (if x296001 < (t296.length : Int) then (if (rdOf ByteArray.empty t296 x296001).size + 1 ≤ 9223372036854775807 then ((regimenref01_Tell.f k x296002).bind fun t300 => (if ((rdOf ByteArray.empty t296 x296001) ++ (⟨#[32]⟩ : ByteArray)).size + t300.size ≤ 9223372036854775807 then (some (((rdOf ByteArray.empty t296 x296001) ++ (⟨#[32]⟩ : ByteArray)) ++ t300)) else (none))) else (none)) else (none)) else (none))) else (if x3.size + 1 ≤ 9223372036854775807 then ((regimenref01_Tell.f k x296002).bind fun t301 => (if (x3 ++ (⟨#[32]⟩ : ByteArray)).size + t301.size ≤ 9223372036854775807 then (some ((x3 ++ (⟨#[32]⟩ : ByteArray)) ++ t301)) else (none))) else (none))
def regimenref36_Line.f (k : Nat) (a0_0 : Int) (a0_1 : Int) (a0_2 : Int) : Option (ByteArray) := if a0_1 ≥ 1 then (regimenref36_Line.j0 k (⟨#[63]⟩ : ByteArray) (decide (a0_1 ≤ 11)) a0_0 a0_1 a0_2) else (regimenref36_Line.j0 k (⟨#[63]⟩ : ByteArray) false a0_0 a0_1 a0_2)
theorem regimenref36_Line.mono_l : ∀ k, (∀ y0 y1 y2 y3 y4, LeO (regimenref36_Line.j0 k y0 y1 y2 y3 y4) (regimenref36_Line.j0 (k + 1) y0 y1 y2 y3 y4))
  | 0 => fun _ _ _ _ _ r h => by simp [regimenref36_Line.j0] at h
  | k + 1 => by
    have ih0 := regimenref36_Line.mono_l k
    · intro y0 y1 y2 y3 y4
      unfold regimenref36_Line.j0
      repeat' first
      | (with_reducible exact ih0 _ _ _ _ _)
      | (with_reducible exact regimenref01_Tell.mono _ _)
      | (with_reducible exact LeO.refl _)
      | (with_reducible exact LeO.none _)
      | (with_reducible refine LeO.ite ?_ ?_)
      | (with_reducible refine LeO.bind ?_ (fun _ => ?_))
      | exact ih0 _ _ _ _ _
      | exact regimenref01_Tell.mono _ _
      | exact LeO.none _
      | refine LeO.ite ?_ ?_
      | refine LeO.bind ?_ (fun _ => ?_)
def regimenref45_Word.f (a0 : Int) : Option (ByteArray) := if a0 < 0 then (some (⟨#[63]⟩ : ByteArray)) else (if a0 > 3 then (some (⟨#[63]⟩ : ByteArray)) else ((some (([(⟨#[103, 111, 101, 115]⟩ : ByteArray), (⟨#[100, 111, 110, 101]⟩ : ByteArray), (⟨#[115, 116, 111, 112, 112, 101, 100]⟩ : ByteArray), (⟨#[102, 97, 105, 108, 101, 100]⟩ : ByteArray)] : List ByteArray) : List ByteArray)).bind fun y302 => (if 0 ≤ a0 then (if a0 < (y302.length : Int) then (some (rdOf ByteArray.empty y302 a0)) else (none)) else (none))))
mutual
def regimenref02_Times.l0 : Nat → List Int → List Int → List Int → Int → Option (List Int)
  | 0, _, _, _, _ => none
  | k + 1, x0, x1, x5, x6 => if x6 < (x0.length : Int) then (regimenref02_Times.l1 k x0 x1 x5 x6 0 0) else (some x5)
def regimenref02_Times.l1 : Nat → List Int → List Int → List Int → Int → Int → Int → Option (List Int)
  | 0, _, _, _, _, _, _ => none
  | k + 1, x0, x1, x5, x6, x7, x8 => if x8 < (x1.length : Int) then (if 0 ≤ (wrap64 (x6 + x8)) then (if (wrap64 (x6 + x8)) < (x5.length : Int) then (if 0 ≤ x6 then (if x6 < (x0.length : Int) then (if 0 ≤ x8 then (regimenref02_Times.l1 k x0 x1 (x5.set ((wrap64 (x6 + x8)) : Int).toNat (Int.tmod (IntKind.u64.wrap ((IntKind.u64.wrap ((rd x5 (wrap64 (x6 + x8))) + (IntKind.u64.wrap ((rd x0 x6) * (rd x1 x8))))) + x7)) 65536)) x6 (IntKind.u64.wrap (Int.tdiv (IntKind.u64.wrap ((IntKind.u64.wrap ((rd x5 (wrap64 (x6 + x8))) + (IntKind.u64.wrap ((rd x0 x6) * (rd x1 x8))))) + x7)) 65536)) (wrap64 (x8 + 1))) else (none)) else (none)) else (none)) else (none)) else (none)) else (if 0 ≤ (wrap64 (x6 + (x1.length : Int))) then (if (wrap64 (x6 + (x1.length : Int))) < (x5.length : Int) then (regimenref02_Times.l0 k x0 x1 (x5.set ((wrap64 (x6 + (x1.length : Int))) : Int).toNat (IntKind.u64.wrap ((rd x5 (wrap64 (x6 + (x1.length : Int)))) + x7))) (wrap64 (x6 + 1))) else (none)) else (none))
end
def regimenref02_Times.f (k : Nat) (l0 : List Int) (l1 : List Int) : Option (List Int) := if 0 ≤ (wrap64 ((l0.length : Int) + (l1.length : Int))) then (if (wrap64 ((l0.length : Int) + (l1.length : Int)) : Int).toNat ≤ 35184372088832 then (regimenref02_Times.l0 k l0 l1 (List.replicate (wrap64 ((l0.length : Int) + (l1.length : Int)) : Int).toNat 0) 0) else (none)) else (none)
theorem regimenref02_Times.mono_l : ∀ k, (∀ y0 y1 y2 y3, LeO (regimenref02_Times.l0 k y0 y1 y2 y3) (regimenref02_Times.l0 (k + 1) y0 y1 y2 y3)) ∧ (∀ y0 y1 y2 y3 y4 y5, LeO (regimenref02_Times.l1 k y0 y1 y2 y3 y4 y5) (regimenref02_Times.l1 (k + 1) y0 y1 y2 y3 y4 y5))
  | 0 => ⟨fun _ _ _ _ r h => by simp [regimenref02_Times.l0] at h, fun _ _ _ _ _ _ r h => by simp [regimenref02_Times.l1] at h⟩
  | k + 1 => by
    obtain ⟨ih0, ih1⟩ := regimenref02_Times.mono_l k
    refine ⟨?_, ?_⟩
    · intro y0 y1 y2 y3
      unfold regimenref02_Times.l0
      repeat' first
      | (with_reducible exact ih0 _ _ _ _)
      | (with_reducible exact ih1 _ _ _ _ _ _)
      | (with_reducible exact LeO.refl _)
      | (with_reducible exact LeO.none _)
      | (with_reducible refine LeO.ite ?_ ?_)
      | (with_reducible refine LeO.bind ?_ (fun _ => ?_))
      | exact ih0 _ _ _ _
      | exact ih1 _ _ _ _ _ _
      | exact LeO.none _
      | refine LeO.ite ?_ ?_
      | refine LeO.bind ?_ (fun _ => ?_)
    · intro y0 y1 y2 y3 y4 y5
      unfold regimenref02_Times.l1
      repeat' first
      | (with_reducible exact ih0 _ _ _ _)
      | (with_reducible exact ih1 _ _ _ _ _ _)
      | (with_reducible exact LeO.refl _)
      | (with_reducible exact LeO.none _)
      | (with_reducible refine LeO.ite ?_ ?_)
      | (with_reducible refine LeO.bind ?_ (fun _ => ?_))
      | exact ih0 _ _ _ _
      | exact ih1 _ _ _ _ _ _
      | exact LeO.none _
      | refine LeO.ite ?_ ?_
      | refine LeO.bind ?_ (fun _ => ?_)
theorem regimenref02_Times.mono : ∀ a0 a1 k, LeO (regimenref02_Times.f k a0 a1) (regimenref02_Times.f (k + 1) a0 a1) := by
  intro a0 a1 k
  obtain ⟨ih0, ih1⟩ := regimenref02_Times.mono_l k
  unfold regimenref02_Times.f
  repeat' first
      | (with_reducible exact ih0 _ _ _ _)
      | (with_reducible exact ih1 _ _ _ _ _ _)
      | (with_reducible exact LeO.refl _)
      | (with_reducible exact LeO.none _)
      | (with_reducible refine LeO.ite ?_ ?_)
      | (with_reducible refine LeO.bind ?_ (fun _ => ?_))
      | exact ih0 _ _ _ _
      | exact ih1 _ _ _ _ _ _
      | exact LeO.none _
      | refine LeO.ite ?_ ?_
      | refine LeO.bind ?_ (fun _ => ?_)
def regimenref02_digit.f (l0 : List Int) (a1 : Int) : Option (Int) := if a1 < (l0.length : Int) then (if 0 ≤ a1 then (some (rd l0 a1)) else (none)) else (some 0)
mutual
def regimenref02_Cmp.j0 : Nat → List Int → List Int → Int → Option (Int)
  | 0, _, _, _ => none
  | k + 1, x0, x1, x5 => regimenref02_Cmp.l0 k x0 x1 (wrap64 (x5 - 1))
def regimenref02_Cmp.l0 : Nat → List Int → List Int → Int → Option (Int)
  | 0, _, _, _ => none
  | k + 1, x0, x1, x6 => if x6 ≥ 0 then ((regimenref02_digit.f x0 x6).bind fun t316 => ((regimenref02_digit.f x1 x6).bind fun t317 => (if t316 < t317 then (some (-1)) else ((regimenref02_digit.f x0 x6).bind fun t318 => ((regimenref02_digit.f x1 x6).bind fun t319 => (if t318 > t319 then (some 1) else (regimenref02_Cmp.l0 k x0 x1 (wrap64 (x6 - 1))))))))) else (some 0)
end
def regimenref02_Cmp.f (k : Nat) (l0 : List Int) (l1 : List Int) : Option (Int) := if (l1.length : Int) > (l0.length : Int) then (regimenref02_Cmp.j0 k l0 l1 (l1.length : Int)) else (regimenref02_Cmp.j0 k l0 l1 (l0.length : Int))
theorem regimenref02_Cmp.mono_l : ∀ k, (∀ y0 y1 y2, LeO (regimenref02_Cmp.j0 k y0 y1 y2) (regimenref02_Cmp.j0 (k + 1) y0 y1 y2)) ∧ (∀ y0 y1 y2, LeO (regimenref02_Cmp.l0 k y0 y1 y2) (regimenref02_Cmp.l0 (k + 1) y0 y1 y2))
  | 0 => ⟨fun _ _ _ r h => by simp [regimenref02_Cmp.j0] at h, fun _ _ _ r h => by simp [regimenref02_Cmp.l0] at h⟩
  | k + 1 => by
    obtain ⟨ih0, ih1⟩ := regimenref02_Cmp.mono_l k
    refine ⟨?_, ?_⟩
    · intro y0 y1 y2
      unfold regimenref02_Cmp.j0
      repeat' first
      | (with_reducible exact ih0 _ _ _)
      | (with_reducible exact ih1 _ _ _)
      | (with_reducible exact LeO.refl _)
      | (with_reducible exact LeO.none _)
      | (with_reducible refine LeO.ite ?_ ?_)
      | (with_reducible refine LeO.bind ?_ (fun _ => ?_))
      | exact ih0 _ _ _
      | exact ih1 _ _ _
      | exact LeO.none _
      | refine LeO.ite ?_ ?_
      | refine LeO.bind ?_ (fun _ => ?_)
    · intro y0 y1 y2
      unfold regimenref02_Cmp.l0
      repeat' first
      | (with_reducible exact ih0 _ _ _)
      | (with_reducible exact ih1 _ _ _)
      | (with_reducible exact LeO.refl _)
      | (with_reducible exact LeO.none _)
      | (with_reducible refine LeO.ite ?_ ?_)
      | (with_reducible refine LeO.bind ?_ (fun _ => ?_))
      | exact ih0 _ _ _
      | exact ih1 _ _ _
      | exact LeO.none _
      | refine LeO.ite ?_ ?_
      | refine LeO.bind ?_ (fun _ => ?_)
theorem regimenref02_Cmp.mono : ∀ a0 a1 k, LeO (regimenref02_Cmp.f k a0 a1) (regimenref02_Cmp.f (k + 1) a0 a1) := by
  intro a0 a1 k
  obtain ⟨ih0, ih1⟩ := regimenref02_Cmp.mono_l k
  unfold regimenref02_Cmp.f
  repeat' first
      | (with_reducible exact ih0 _ _ _)
      | (with_reducible exact ih1 _ _ _)
      | (with_reducible exact LeO.refl _)
      | (with_reducible exact LeO.none _)
      | (with_reducible refine LeO.ite ?_ ?_)
      | (with_reducible refine LeO.bind ?_ (fun _ => ?_))
      | exact ih0 _ _ _
      | exact ih1 _ _ _
      | exact LeO.none _
      | refine LeO.ite ?_ ?_
      | refine LeO.bind ?_ (fun _ => ?_)
def regimenref02_Less.l0 : Nat → List Int → List Int → List Int → Int → Int → Option (List Int)
  | 0, _, _, _, _, _ => none
  | k + 1, x0, x1, x5, x6, x7 => if x7 < (x0.length : Int) then (if 0 ≤ x7 then ((regimenref02_digit.f x1 x7).bind fun t324 => (if x5.length < 17592186044416 then (regimenref02_Less.l0 k x0 x1 (x5 ++ [Int.tmod (IntKind.u64.wrap ((IntKind.u64.wrap ((IntKind.u64.wrap (65536 + (rd x0 x7))) - t324)) - x6)) 65536]) (IntKind.u64.wrap (1 - (IntKind.u64.wrap (Int.tdiv (IntKind.u64.wrap ((IntKind.u64.wrap ((IntKind.u64.wrap (65536 + (rd x0 x7))) - t324)) - x6)) 65536)))) (wrap64 (x7 + 1))) else (none))) else (none)) else (some x5)
def regimenref02_Less.f (k : Nat) (l0 : List Int) (l1 : List Int) : Option (List Int) := regimenref02_Less.l0 k l0 l1 (([] : List Int)) 0 0
theorem regimenref02_Less.mono_l : ∀ k, (∀ y0 y1 y2 y3 y4, LeO (regimenref02_Less.l0 k y0 y1 y2 y3 y4) (regimenref02_Less.l0 (k + 1) y0 y1 y2 y3 y4))
  | 0 => fun _ _ _ _ _ r h => by simp [regimenref02_Less.l0] at h
  | k + 1 => by
    have ih0 := regimenref02_Less.mono_l k
    · intro y0 y1 y2 y3 y4
      unfold regimenref02_Less.l0
      repeat' first
      | (with_reducible exact ih0 _ _ _ _ _)
      | (with_reducible exact LeO.refl _)
      | (with_reducible exact LeO.none _)
      | (with_reducible refine LeO.ite ?_ ?_)
      | (with_reducible refine LeO.bind ?_ (fun _ => ?_))
      | exact ih0 _ _ _ _ _
      | exact LeO.none _
      | refine LeO.ite ?_ ?_
      | refine LeO.bind ?_ (fun _ => ?_)
theorem regimenref02_Less.mono : ∀ a0 a1 k, LeO (regimenref02_Less.f k a0 a1) (regimenref02_Less.f (k + 1) a0 a1) := by
  intro a0 a1 k
  have ih0 := regimenref02_Less.mono_l k
  unfold regimenref02_Less.f
  repeat' first
      | (with_reducible exact ih0 _ _ _ _ _)
      | (with_reducible exact LeO.refl _)
      | (with_reducible exact LeO.none _)
      | (with_reducible refine LeO.ite ?_ ?_)
      | (with_reducible refine LeO.bind ?_ (fun _ => ?_))
      | exact ih0 _ _ _ _ _
      | exact LeO.none _
      | refine LeO.ite ?_ ?_
      | refine LeO.bind ?_ (fun _ => ?_)
mutual
def regimenref02_Plus.l0 : Nat → List Int → List Int → List Int → Int → Int → Option (List Int)
  | 0, _, _, _, _, _ => none
  | k + 1, x0, x1, x5, x6, x7 => if x7 < (x0.length : Int) then (regimenref02_Plus.j1 k x0 x1 x5 x6 x7 true) else (if x7 < (x1.length : Int) then (regimenref02_Plus.j1 k x0 x1 x5 x6 x7 true) else (regimenref02_Plus.j1 k x0 x1 x5 x6 x7 (decide (x6 > 0))))
def regimenref02_Plus.j1 : Nat → List Int → List Int → List Int → Int → Int → Bool → Option (List Int)
  | 0, _, _, _, _, _, _ => none
  | k + 1, x0, x1, x5, x6, x7, x23 => if x23 = true then ((regimenref02_digit.f x0 x7).bind fun t331 => ((regimenref02_digit.f x1 x7).bind fun t332 => (if x5.length < 17592186044416 then (regimenref02_Plus.l0 k x0 x1 (x5 ++ [Int.tmod (IntKind.u64.wrap ((IntKind.u64.wrap (t331 + t332)) + x6)) 65536]) (IntKind.u64.wrap (Int.tdiv (IntKind.u64.wrap ((IntKind.u64.wrap (t331 + t332)) + x6)) 65536)) (wrap64 (x7 + 1))) else (none)))) else (some x5)
end
def regimenref02_Plus.f (k : Nat) (l0 : List Int) (l1 : List Int) : Option (List Int) := regimenref02_Plus.l0 k l0 l1 (([] : List Int)) 0 0
theorem regimenref02_Plus.mono_l : ∀ k, (∀ y0 y1 y2 y3 y4, LeO (regimenref02_Plus.l0 k y0 y1 y2 y3 y4) (regimenref02_Plus.l0 (k + 1) y0 y1 y2 y3 y4)) ∧ (∀ y0 y1 y2 y3 y4 y5, LeO (regimenref02_Plus.j1 k y0 y1 y2 y3 y4 y5) (regimenref02_Plus.j1 (k + 1) y0 y1 y2 y3 y4 y5))
  | 0 => ⟨fun _ _ _ _ _ r h => by simp [regimenref02_Plus.l0] at h, fun _ _ _ _ _ _ r h => by simp [regimenref02_Plus.j1] at h⟩
  | k + 1 => by
    obtain ⟨ih0, ih1⟩ := regimenref02_Plus.mono_l k
    refine ⟨?_, ?_⟩
    · intro y0 y1 y2 y3 y4
      unfold regimenref02_Plus.l0
      repeat' first
      | (with_reducible exact ih0 _ _ _ _ _)
      | (with_reducible exact ih1 _ _ _ _ _ _)
      | (with_reducible exact LeO.refl _)
      | (with_reducible exact LeO.none _)
      | (with_reducible refine LeO.ite ?_ ?_)
      | (with_reducible refine LeO.bind ?_ (fun _ => ?_))
      | exact ih0 _ _ _ _ _
      | exact ih1 _ _ _ _ _ _
      | exact LeO.none _
      | refine LeO.ite ?_ ?_
      | refine LeO.bind ?_ (fun _ => ?_)
    · intro y0 y1 y2 y3 y4 y5
      unfold regimenref02_Plus.j1
      repeat' first
      | (with_reducible exact ih0 _ _ _ _ _)
      | (with_reducible exact ih1 _ _ _ _ _ _)
      | (with_reducible exact LeO.refl _)
      | (with_reducible exact LeO.none _)
      | (with_reducible refine LeO.ite ?_ ?_)
      | (with_reducible refine LeO.bind ?_ (fun _ => ?_))
      | exact ih0 _ _ _ _ _
      | exact ih1 _ _ _ _ _ _
      | exact LeO.none _
      | refine LeO.ite ?_ ?_
      | refine LeO.bind ?_ (fun _ => ?_)
theorem regimenref02_Plus.mono : ∀ a0 a1 k, LeO (regimenref02_Plus.f k a0 a1) (regimenref02_Plus.f (k + 1) a0 a1) := by
  intro a0 a1 k
  obtain ⟨ih0, ih1⟩ := regimenref02_Plus.mono_l k
  unfold regimenref02_Plus.f
  repeat' first
      | (with_reducible exact ih0 _ _ _ _ _)
      | (with_reducible exact ih1 _ _ _ _ _ _)
      | (with_reducible exact LeO.refl _)
      | (with_reducible exact LeO.none _)
      | (with_reducible refine LeO.ite ?_ ?_)
      | (with_reducible refine LeO.bind ?_ (fun _ => ?_))
      | exact ih0 _ _ _ _ _
      | exact ih1 _ _ _ _ _ _
      | exact LeO.none _
      | refine LeO.ite ?_ ?_
      | refine LeO.bind ?_ (fun _ => ?_)
mutual
def regimenref03_Quotient.l0 : Nat → List Int → List Int → List Int → List Int → Int → Option (List Int)
  | 0, _, _, _, _, _ => none
  | k + 1, x0, x1, x5, x6, x7 => if x7 ≥ 0 then (regimenref03_Quotient.l1 k x0 x1 x5 x6 x7 0) else (some x5)
def regimenref03_Quotient.l1 : Nat → List Int → List Int → List Int → List Int → Int → Int → Option (List Int)
  | 0, _, _, _, _, _, _ => none
  | k + 1, x0, x1, x5, x6, x7, x8 => if x8 < 16 then (if 0 ≤ x7 then (if x7 < (x0.length : Int) then (regimenref03_Quotient.l2 k x0 x1 x5 x6 x7 x8 (rd x0 x7) x8) else (none)) else (none)) else (regimenref03_Quotient.l0 k x0 x1 x5 x6 (wrap64 (x7 - 1)))
def regimenref03_Quotient.l2 : Nat → List Int → List Int → List Int → List Int → Int → Int → Int → Int → Option (List Int)
  | 0, _, _, _, _, _, _, _, _ => none
  | k + 1, x0, x1, x5, x6, x7, x8, x9, x10 => if x10 < 15 then (regimenref03_Quotient.l2 k x0 x1 x5 x6 x7 x8 (IntKind.u64.wrap (Int.tdiv x9 2)) (wrap64 (x10 + 1))) else ((regimenref02_Plus.f k x6 x6).bind fun t343 => ((regimenref02_Plus.f k t343 (([Int.tmod x9 2] : List Int))).bind fun t349 => ((regimenref02_Plus.f k x5 x5).bind fun t352 => ((regimenref02_Cmp.f k t349 x1).bind fun t355 => (if t355 ≥ 0 then ((regimenref02_Less.f k t349 x1).bind fun t356 => ((regimenref02_Plus.f k t352 (([1] : List Int))).bind fun t362 => (regimenref03_Quotient.l1 k x0 x1 t362 t356 x7 (wrap64 (x8 + 1))))) else (regimenref03_Quotient.l1 k x0 x1 t352 t349 x7 (wrap64 (x8 + 1))))))))
end
def regimenref03_Quotient.f (k : Nat) (l0 : List Int) (l1 : List Int) : Option (List Int) := regimenref03_Quotient.l0 k l0 l1 (([] : List Int)) (([] : List Int)) (wrap64 ((l0.length : Int) - 1))
theorem regimenref03_Quotient.mono_l : ∀ k, (∀ y0 y1 y2 y3 y4, LeO (regimenref03_Quotient.l0 k y0 y1 y2 y3 y4) (regimenref03_Quotient.l0 (k + 1) y0 y1 y2 y3 y4)) ∧ (∀ y0 y1 y2 y3 y4 y5, LeO (regimenref03_Quotient.l1 k y0 y1 y2 y3 y4 y5) (regimenref03_Quotient.l1 (k + 1) y0 y1 y2 y3 y4 y5)) ∧ (∀ y0 y1 y2 y3 y4 y5 y6 y7, LeO (regimenref03_Quotient.l2 k y0 y1 y2 y3 y4 y5 y6 y7) (regimenref03_Quotient.l2 (k + 1) y0 y1 y2 y3 y4 y5 y6 y7))
  | 0 => ⟨fun _ _ _ _ _ r h => by simp [regimenref03_Quotient.l0] at h, fun _ _ _ _ _ _ r h => by simp [regimenref03_Quotient.l1] at h, fun _ _ _ _ _ _ _ _ r h => by simp [regimenref03_Quotient.l2] at h⟩
  | k + 1 => by
    obtain ⟨ih0, ih1, ih2⟩ := regimenref03_Quotient.mono_l k
    refine ⟨?_, ?_, ?_⟩
    · intro y0 y1 y2 y3 y4
      unfold regimenref03_Quotient.l0
      repeat' first
      | (with_reducible exact ih0 _ _ _ _ _)
      | (with_reducible exact ih1 _ _ _ _ _ _)
      | (with_reducible exact ih2 _ _ _ _ _ _ _ _)
      | (with_reducible exact regimenref02_Cmp.mono _ _ _)
      | (with_reducible exact regimenref02_Less.mono _ _ _)
      | (with_reducible exact regimenref02_Plus.mono _ _ _)
      | (with_reducible exact LeO.refl _)
      | (with_reducible exact LeO.none _)
      | (with_reducible refine LeO.ite ?_ ?_)
      | (with_reducible refine LeO.bind ?_ (fun _ => ?_))
      | exact ih0 _ _ _ _ _
      | exact ih1 _ _ _ _ _ _
      | exact ih2 _ _ _ _ _ _ _ _
      | exact regimenref02_Cmp.mono _ _ _
      | exact regimenref02_Less.mono _ _ _
      | exact regimenref02_Plus.mono _ _ _
      | exact LeO.none _
      | refine LeO.ite ?_ ?_
      | refine LeO.bind ?_ (fun _ => ?_)
    · intro y0 y1 y2 y3 y4 y5
      unfold regimenref03_Quotient.l1
      repeat' first
      | (with_reducible exact ih0 _ _ _ _ _)
      | (with_reducible exact ih1 _ _ _ _ _ _)
      | (with_reducible exact ih2 _ _ _ _ _ _ _ _)
      | (with_reducible exact regimenref02_Cmp.mono _ _ _)
      | (with_reducible exact regimenref02_Less.mono _ _ _)
      | (with_reducible exact regimenref02_Plus.mono _ _ _)
      | (with_reducible exact LeO.refl _)
      | (with_reducible exact LeO.none _)
      | (with_reducible refine LeO.ite ?_ ?_)
      | (with_reducible refine LeO.bind ?_ (fun _ => ?_))
      | exact ih0 _ _ _ _ _
      | exact ih1 _ _ _ _ _ _
      | exact ih2 _ _ _ _ _ _ _ _
      | exact regimenref02_Cmp.mono _ _ _
      | exact regimenref02_Less.mono _ _ _
      | exact regimenref02_Plus.mono _ _ _
      | exact LeO.none _
      | refine LeO.ite ?_ ?_
      | refine LeO.bind ?_ (fun _ => ?_)
    · intro y0 y1 y2 y3 y4 y5 y6 y7
      unfold regimenref03_Quotient.l2
      repeat' first
      | (with_reducible exact ih0 _ _ _ _ _)
      | (with_reducible exact ih1 _ _ _ _ _ _)
      | (with_reducible exact ih2 _ _ _ _ _ _ _ _)
      | (with_reducible exact regimenref02_Cmp.mono _ _ _)
      | (with_reducible exact regimenref02_Less.mono _ _ _)
      | (with_reducible exact regimenref02_Plus.mono _ _ _)
      | (with_reducible exact LeO.refl _)
      | (with_reducible exact LeO.none _)
      | (with_reducible refine LeO.ite ?_ ?_)
      | (with_reducible refine LeO.bind ?_ (fun _ => ?_))
      | exact ih0 _ _ _ _ _
      | exact ih1 _ _ _ _ _ _
      | exact ih2 _ _ _ _ _ _ _ _
      | exact regimenref02_Cmp.mono _ _ _
      | exact regimenref02_Less.mono _ _ _
      | exact regimenref02_Plus.mono _ _ _
      | exact LeO.none _
      | refine LeO.ite ?_ ?_
      | refine LeO.bind ?_ (fun _ => ?_)
theorem regimenref03_Quotient.mono : ∀ a0 a1 k, LeO (regimenref03_Quotient.f k a0 a1) (regimenref03_Quotient.f (k + 1) a0 a1) := by
  intro a0 a1 k
  obtain ⟨ih0, ih1, ih2⟩ := regimenref03_Quotient.mono_l k
  unfold regimenref03_Quotient.f
  repeat' first
      | (with_reducible exact ih0 _ _ _ _ _)
      | (with_reducible exact ih1 _ _ _ _ _ _)
      | (with_reducible exact ih2 _ _ _ _ _ _ _ _)
      | (with_reducible exact regimenref02_Cmp.mono _ _ _)
      | (with_reducible exact regimenref02_Less.mono _ _ _)
      | (with_reducible exact regimenref02_Plus.mono _ _ _)
      | (with_reducible exact LeO.refl _)
      | (with_reducible exact LeO.none _)
      | (with_reducible refine LeO.ite ?_ ?_)
      | (with_reducible refine LeO.bind ?_ (fun _ => ?_))
      | exact ih0 _ _ _ _ _
      | exact ih1 _ _ _ _ _ _
      | exact ih2 _ _ _ _ _ _ _ _
      | exact regimenref02_Cmp.mono _ _ _
      | exact regimenref02_Less.mono _ _ _
      | exact regimenref02_Plus.mono _ _ _
      | exact LeO.none _
      | refine LeO.ite ?_ ?_
      | refine LeO.bind ?_ (fun _ => ?_)
def regimenref03_Odd.f (l0 : List Int) : Option (Bool) := if (l0.length : Int) > 0 then (if 0 < (l0.length : Int) then (some ((Int.tmod (rd l0 0) 2) == 1)) else (none)) else (some false)
def regimenref03_Rounded.f (k : Nat) (l0 : List Int) (l1 : List Int) : Option (List Int) := (regimenref03_Quotient.f k l0 l1).bind fun t366 => ((some (([] : List Int) : List Int)).bind fun y369 => (if y369.length + l0.length < 17592186044416 then ((some (y369 ++ l0 : List Int)).bind fun y372 => (if y372.length < 17592186044416 then ((regimenref02_Times.f k t366 l1).bind fun t378 => ((regimenref02_Less.f k (y372 ++ [0]) t378).bind fun t381 => ((regimenref02_Plus.f k t381 t381).bind fun t384 => ((regimenref02_Cmp.f k t384 l1).bind fun t387 => (if t387 > 0 then ((regimenref02_Plus.f k t366 (([1] : List Int))).bind fun t391 => (some t391)) else (if t387 = 0 then ((regimenref03_Odd.f t366).bind fun t394 => (if t394 = true then ((regimenref02_Plus.f k t366 (([1] : List Int))).bind fun t398 => (some t398)) else (some t366))) else (some t366))))))) else (none))) else (none)))
theorem regimenref03_Rounded.mono : ∀ a0 a1 k, LeO (regimenref03_Rounded.f k a0 a1) (regimenref03_Rounded.f (k + 1) a0 a1) := by
  intro a0 a1 k
  unfold regimenref03_Rounded.f
  repeat' first
      | (with_reducible exact regimenref02_Cmp.mono _ _ _)
      | (with_reducible exact regimenref02_Less.mono _ _ _)
      | (with_reducible exact regimenref02_Plus.mono _ _ _)
      | (with_reducible exact regimenref02_Times.mono _ _ _)
      | (with_reducible exact regimenref03_Quotient.mono _ _ _)
      | (with_reducible exact LeO.refl _)
      | (with_reducible exact LeO.none _)
      | (with_reducible refine LeO.ite ?_ ?_)
      | (with_reducible refine LeO.bind ?_ (fun _ => ?_))
      | exact regimenref02_Cmp.mono _ _ _
      | exact regimenref02_Less.mono _ _ _
      | exact regimenref02_Plus.mono _ _ _
      | exact regimenref02_Times.mono _ _ _
      | exact regimenref03_Quotient.mono _ _ _
      | exact LeO.none _
      | refine LeO.ite ?_ ?_
      | refine LeO.bind ?_ (fun _ => ?_)
def regimenref02_Word.f (a0 : Int) : Option (List Int) := some (([Int.tmod a0 65536, Int.tmod (IntKind.u64.wrap (Int.tdiv a0 65536)) 65536, Int.tmod (IntKind.u64.wrap (Int.tdiv a0 4294967296)) 65536, IntKind.u64.wrap (Int.tdiv a0 281474976710656)] : List Int))
def regimenref02_Size.f (a0 : Int) : Option (List Int) := if a0 < 0 then ((regimenref02_Word.f (IntKind.u64.wrap (-(IntKind.u64.wrap (a0))))).bind fun t404 => (some t404)) else ((regimenref02_Word.f (IntKind.u64.wrap (a0))).bind fun t407 => (some t407))
def regimenref05_Tens.l0 : Nat → Int → List Int → Int → Option (List Int)
  | 0, _, _, _ => none
  | k + 1, x0, x3, x4 => if x4 < x0 then ((regimenref02_Times.f k x3 (([10] : List Int))).bind fun t416 => (regimenref05_Tens.l0 k x0 t416 (wrap64 (x4 + 1)))) else (some x3)
def regimenref05_Tens.f (k : Nat) (a0 : Int) : Option (List Int) := regimenref05_Tens.l0 k a0 (([1] : List Int)) 0
theorem regimenref05_Tens.mono_l : ∀ k, (∀ y0 y1 y2, LeO (regimenref05_Tens.l0 k y0 y1 y2) (regimenref05_Tens.l0 (k + 1) y0 y1 y2))
  | 0 => fun _ _ _ r h => by simp [regimenref05_Tens.l0] at h
  | k + 1 => by
    have ih0 := regimenref05_Tens.mono_l k
    · intro y0 y1 y2
      unfold regimenref05_Tens.l0
      repeat' first
      | (with_reducible exact ih0 _ _ _)
      | (with_reducible exact regimenref02_Times.mono _ _ _)
      | (with_reducible exact LeO.refl _)
      | (with_reducible exact LeO.none _)
      | (with_reducible refine LeO.ite ?_ ?_)
      | (with_reducible refine LeO.bind ?_ (fun _ => ?_))
      | exact ih0 _ _ _
      | exact regimenref02_Times.mono _ _ _
      | exact LeO.none _
      | refine LeO.ite ?_ ?_
      | refine LeO.bind ?_ (fun _ => ?_)
theorem regimenref05_Tens.mono : ∀ a0 k, LeO (regimenref05_Tens.f k a0) (regimenref05_Tens.f (k + 1) a0) := by
  intro a0 k
  have ih0 := regimenref05_Tens.mono_l k
  unfold regimenref05_Tens.f
  repeat' first
      | (with_reducible exact ih0 _ _ _)
      | (with_reducible exact regimenref02_Times.mono _ _ _)
      | (with_reducible exact LeO.refl _)
      | (with_reducible exact LeO.none _)
      | (with_reducible refine LeO.ite ?_ ?_)
      | (with_reducible refine LeO.bind ?_ (fun _ => ?_))
      | exact ih0 _ _ _
      | exact regimenref02_Times.mono _ _ _
      | exact LeO.none _
      | refine LeO.ite ?_ ?_
      | refine LeO.bind ?_ (fun _ => ?_)
def regimenref02_Twos.l0 : Nat → Int → List Int → Int → Option (List Int)
  | 0, _, _, _ => none
  | k + 1, x0, x3, x4 => if x4 < x0 then ((regimenref02_Plus.f k x3 x3).bind fun t422 => (regimenref02_Twos.l0 k x0 t422 (wrap64 (x4 + 1)))) else (some x3)
def regimenref02_Twos.f (k : Nat) (a0 : Int) : Option (List Int) := regimenref02_Twos.l0 k a0 (([1] : List Int)) 0
theorem regimenref02_Twos.mono_l : ∀ k, (∀ y0 y1 y2, LeO (regimenref02_Twos.l0 k y0 y1 y2) (regimenref02_Twos.l0 (k + 1) y0 y1 y2))
  | 0 => fun _ _ _ r h => by simp [regimenref02_Twos.l0] at h
  | k + 1 => by
    have ih0 := regimenref02_Twos.mono_l k
    · intro y0 y1 y2
      unfold regimenref02_Twos.l0
      repeat' first
      | (with_reducible exact ih0 _ _ _)
      | (with_reducible exact regimenref02_Plus.mono _ _ _)
      | (with_reducible exact LeO.refl _)
      | (with_reducible exact LeO.none _)
      | (with_reducible refine LeO.ite ?_ ?_)
      | (with_reducible refine LeO.bind ?_ (fun _ => ?_))
      | exact ih0 _ _ _
      | exact regimenref02_Plus.mono _ _ _
      | exact LeO.none _
      | refine LeO.ite ?_ ?_
      | refine LeO.bind ?_ (fun _ => ?_)
theorem regimenref02_Twos.mono : ∀ a0 k, LeO (regimenref02_Twos.f k a0) (regimenref02_Twos.f (k + 1) a0) := by
  intro a0 k
  have ih0 := regimenref02_Twos.mono_l k
  unfold regimenref02_Twos.f
  repeat' first
      | (with_reducible exact ih0 _ _ _)
      | (with_reducible exact regimenref02_Plus.mono _ _ _)
      | (with_reducible exact LeO.refl _)
      | (with_reducible exact LeO.none _)
      | (with_reducible refine LeO.ite ?_ ?_)
      | (with_reducible refine LeO.bind ?_ (fun _ => ?_))
      | exact ih0 _ _ _
      | exact regimenref02_Plus.mono _ _ _
      | exact LeO.none _
      | refine LeO.ite ?_ ?_
      | refine LeO.bind ?_ (fun _ => ?_)
def regimenref05_Read.f (k : Nat) (l0 : List Int) (a1 : Int) : Option (List Int) := (regimenref02_Twos.f k 32).bind fun t425 => ((regimenref02_Times.f k l0 t425).bind fun t428 => ((regimenref05_Tens.f k a1).bind fun t431 => ((regimenref03_Rounded.f k t428 t431).bind fun t434 => (some t434))))
theorem regimenref05_Read.mono : ∀ a0 a1 k, LeO (regimenref05_Read.f k a0 a1) (regimenref05_Read.f (k + 1) a0 a1) := by
  intro a0 a1 k
  unfold regimenref05_Read.f
  repeat' first
      | (with_reducible exact regimenref02_Times.mono _ _ _)
      | (with_reducible exact regimenref02_Twos.mono _ _)
      | (with_reducible exact regimenref03_Rounded.mono _ _ _)
      | (with_reducible exact regimenref05_Tens.mono _ _)
      | (with_reducible exact LeO.refl _)
      | (with_reducible exact LeO.none _)
      | (with_reducible refine LeO.ite ?_ ?_)
      | (with_reducible refine LeO.bind ?_ (fun _ => ?_))
      | exact regimenref02_Times.mono _ _ _
      | exact regimenref02_Twos.mono _ _
      | exact regimenref03_Rounded.mono _ _ _
      | exact regimenref05_Tens.mono _ _
      | exact LeO.none _
      | refine LeO.ite ?_ ?_
      | refine LeO.bind ?_ (fun _ => ?_)
mutual
def regimenref05_Text.l0 : Nat → List Int → ByteArray → ByteArray → Option (ByteArray)
  | 0, _, _, _ => none
  | k + 1, x0, x3, x4 => if (x4.size : Int) = 0 then (regimenref05_Text.j1 k x0 x3 x4 true) else ((regimenref02_Cmp.f k x0 ([] : List Int)).bind fun t437 => (regimenref05_Text.j1 k x0 x3 x4 (decide (t437 > 0))))
def regimenref05_Text.j1 : Nat → List Int → ByteArray → ByteArray → Bool → Option (ByteArray)
  | 0, _, _, _, _ => none
  | k + 1, x0, x3, x4, x14 => if x14 = true then ((regimenref03_Quotient.f k x0 (([10] : List Int))).bind fun t441 => ((some (([] : List Int) : List Int)).bind fun y444 => (if y444.length + x0.length < 17592186044416 then ((some (y444 ++ x0 : List Int)).bind fun y447 => (if y447.length < 17592186044416 then ((regimenref02_Times.f k t441 (([10] : List Int))).bind fun t456 => ((regimenref02_Less.f k (y447 ++ [0]) t456).bind fun t459 => (if 0 < (t459.length : Int) then (if 0 ≤ (rd t459 0) then (if (rd t459 0) ≤ (IntKind.u64.wrap ((rd t459 0) + 1)) then (if (IntKind.u64.wrap ((rd t459 0) + 1)) ≤ (x3.size : Int) then (if (x3.extract ((rd t459 0) : Int).toNat ((IntKind.u64.wrap ((rd t459 0) + 1)) : Int).toNat).size + x4.size ≤ 9223372036854775807 then (regimenref05_Text.l0 k t441 x3 ((x3.extract ((rd t459 0) : Int).toNat ((IntKind.u64.wrap ((rd t459 0) + 1)) : Int).toNat) ++ x4)) else (none)) else (none)) else (none)) else (none)) else (none)))) else (none))) else (none)))) else (some x4)
end
def regimenref05_Text.f (k : Nat) (l0 : List Int) : Option (ByteArray) := regimenref05_Text.l0 k l0 (⟨#[48, 49, 50, 51, 52, 53, 54, 55, 56, 57]⟩ : ByteArray) (⟨#[]⟩ : ByteArray)
theorem regimenref05_Text.mono_l : ∀ k, (∀ y0 y1 y2, LeO (regimenref05_Text.l0 k y0 y1 y2) (regimenref05_Text.l0 (k + 1) y0 y1 y2)) ∧ (∀ y0 y1 y2 y3, LeO (regimenref05_Text.j1 k y0 y1 y2 y3) (regimenref05_Text.j1 (k + 1) y0 y1 y2 y3))
  | 0 => ⟨fun _ _ _ r h => by simp [regimenref05_Text.l0] at h, fun _ _ _ _ r h => by simp [regimenref05_Text.j1] at h⟩
  | k + 1 => by
    obtain ⟨ih0, ih1⟩ := regimenref05_Text.mono_l k
    refine ⟨?_, ?_⟩
    · intro y0 y1 y2
      unfold regimenref05_Text.l0
      repeat' first
      | (with_reducible exact ih0 _ _ _)
      | (with_reducible exact ih1 _ _ _ _)
      | (with_reducible exact regimenref02_Cmp.mono _ _ _)
      | (with_reducible exact regimenref02_Less.mono _ _ _)
      | (with_reducible exact regimenref02_Times.mono _ _ _)
      | (with_reducible exact regimenref03_Quotient.mono _ _ _)
      | (with_reducible exact LeO.refl _)
      | (with_reducible exact LeO.none _)
      | (with_reducible refine LeO.ite ?_ ?_)
      | (with_reducible refine LeO.bind ?_ (fun _ => ?_))
      | exact ih0 _ _ _
      | exact ih1 _ _ _ _
      | exact regimenref02_Cmp.mono _ _ _
      | exact regimenref02_Less.mono _ _ _
      | exact regimenref02_Times.mono _ _ _
      | exact regimenref03_Quotient.mono _ _ _
      | exact LeO.none _
      | refine LeO.ite ?_ ?_
      | refine LeO.bind ?_ (fun _ => ?_)
    · intro y0 y1 y2 y3
      unfold regimenref05_Text.j1
      repeat' first
      | (with_reducible exact ih0 _ _ _)
      | (with_reducible exact ih1 _ _ _ _)
      | (with_reducible exact regimenref02_Cmp.mono _ _ _)
      | (with_reducible exact regimenref02_Less.mono _ _ _)
      | (with_reducible exact regimenref02_Times.mono _ _ _)
      | (with_reducible exact regimenref03_Quotient.mono _ _ _)
      | (with_reducible exact LeO.refl _)
      | (with_reducible exact LeO.none _)
      | (with_reducible refine LeO.ite ?_ ?_)
      | (with_reducible refine LeO.bind ?_ (fun _ => ?_))
      | exact ih0 _ _ _
      | exact ih1 _ _ _ _
      | exact regimenref02_Cmp.mono _ _ _
      | exact regimenref02_Less.mono _ _ _
      | exact regimenref02_Times.mono _ _ _
      | exact regimenref03_Quotient.mono _ _ _
      | exact LeO.none _
      | refine LeO.ite ?_ ?_
      | refine LeO.bind ?_ (fun _ => ?_)
theorem regimenref05_Text.mono : ∀ a0 k, LeO (regimenref05_Text.f k a0) (regimenref05_Text.f (k + 1) a0) := by
  intro a0 k
  obtain ⟨ih0, ih1⟩ := regimenref05_Text.mono_l k
  unfold regimenref05_Text.f
  repeat' first
      | (with_reducible exact ih0 _ _ _)
      | (with_reducible exact ih1 _ _ _ _)
      | (with_reducible exact regimenref02_Cmp.mono _ _ _)
      | (with_reducible exact regimenref02_Less.mono _ _ _)
      | (with_reducible exact regimenref02_Times.mono _ _ _)
      | (with_reducible exact regimenref03_Quotient.mono _ _ _)
      | (with_reducible exact LeO.refl _)
      | (with_reducible exact LeO.none _)
      | (with_reducible refine LeO.ite ?_ ?_)
      | (with_reducible refine LeO.bind ?_ (fun _ => ?_))
      | exact ih0 _ _ _
      | exact ih1 _ _ _ _
      | exact regimenref02_Cmp.mono _ _ _
      | exact regimenref02_Less.mono _ _ _
      | exact regimenref02_Times.mono _ _ _
      | exact regimenref03_Quotient.mono _ _ _
      | exact LeO.none _
      | refine LeO.ite ?_ ?_
      | refine LeO.bind ?_ (fun _ => ?_)
mutual
def regimenref05_Put.j0 : Nat → List Int → ByteArray → Option (ByteArray)
  | 0, _, _ => none
  | k + 1, x3, x4 => regimenref05_Put.l0 k x3 x4 0
def regimenref05_Put.l0 : Nat → List Int → ByteArray → Int → Option (ByteArray)
  | 0, _, _, _ => none
  | k + 1, x3, x4, x5 => if x5 ≤ 10 then ((regimenref05_Tens.f k x5).bind fun t467 => ((regimenref02_Times.f k x3 t467).bind fun t470 => ((regimenref02_Twos.f k 32).bind fun t473 => ((regimenref03_Rounded.f k t470 t473).bind fun t476 => ((regimenref05_Read.f k t476 x5).bind fun t479 => ((regimenref02_Cmp.f k t479 x3).bind fun t482 => (if t482 = 0 then ((regimenref05_Text.f k t476).bind fun t483 => (regimenref05_Put.l1 k x4 x5 t483)) else (regimenref05_Put.l0 k x3 x4 (wrap64 (x5 + 1)))))))))) else (some (⟨#[]⟩ : ByteArray))
def regimenref05_Put.l1 : Nat → ByteArray → Int → ByteArray → Option (ByteArray)
  | 0, _, _, _ => none
  | k + 1, x4, x5, x7 => if (x7.size : Int) ≤ x5 then (if 1 + x7.size ≤ 9223372036854775807 then (regimenref05_Put.l1 k x4 x5 ((⟨#[48]⟩ : ByteArray) ++ x7)) else (none)) else (if x5 = 0 then (if x4.size + x7.size ≤ 9223372036854775807 then (some (x4 ++ x7)) else (none)) else (if 0 ≤ (wrap64 ((x7.size : Int) - x5)) then (if (wrap64 ((x7.size : Int) - x5)) ≤ (x7.size : Int) then (if x4.size + (x7.extract 0 ((wrap64 ((x7.size : Int) - x5)) : Int).toNat).size ≤ 9223372036854775807 then (if (x4 ++ (x7.extract 0 ((wrap64 ((x7.size : Int) - x5)) : Int).toNat)).size + 1 ≤ 9223372036854775807 then (if ((x4 ++ (x7.extract 0 ((wrap64 ((x7.size : Int) - x5)) : Int).toNat)) ++ (⟨#[46]⟩ : ByteArray)).size + (x7.extract ((wrap64 ((x7.size : Int) - x5)) : Int).toNat x7.size).size ≤ 9223372036854775807 then (some (((x4 ++ (x7.extract 0 ((wrap64 ((x7.size : Int) - x5)) : Int).toNat)) ++ (⟨#[46]⟩ : ByteArray)) ++ (x7.extract ((wrap64 ((x7.size : Int) - x5)) : Int).toNat x7.size))) else (none)) else (none)) else (none)) else (none)) else (none)))
end
def regimenref05_Put.f (k : Nat) (a0 : Int) : Option (ByteArray) := (regimenref02_Size.f a0).bind fun t464 => (if a0 < 0 then (regimenref05_Put.j0 k t464 (⟨#[45]⟩ : ByteArray)) else (regimenref05_Put.j0 k t464 (⟨#[]⟩ : ByteArray)))
theorem regimenref05_Put.mono_l : ∀ k, (∀ y0 y1, LeO (regimenref05_Put.j0 k y0 y1) (regimenref05_Put.j0 (k + 1) y0 y1)) ∧ (∀ y0 y1 y2, LeO (regimenref05_Put.l0 k y0 y1 y2) (regimenref05_Put.l0 (k + 1) y0 y1 y2)) ∧ (∀ y0 y1 y2, LeO (regimenref05_Put.l1 k y0 y1 y2) (regimenref05_Put.l1 (k + 1) y0 y1 y2))
  | 0 => ⟨fun _ _ r h => by simp [regimenref05_Put.j0] at h, fun _ _ _ r h => by simp [regimenref05_Put.l0] at h, fun _ _ _ r h => by simp [regimenref05_Put.l1] at h⟩
  | k + 1 => by
    obtain ⟨ih0, ih1, ih2⟩ := regimenref05_Put.mono_l k
    refine ⟨?_, ?_, ?_⟩
    · intro y0 y1
      unfold regimenref05_Put.j0
      repeat' first
      | (with_reducible exact ih0 _ _)
      | (with_reducible exact ih1 _ _ _)
      | (with_reducible exact ih2 _ _ _)
      | (with_reducible exact regimenref02_Cmp.mono _ _ _)
      | (with_reducible exact regimenref02_Times.mono _ _ _)
      | (with_reducible exact regimenref02_Twos.mono _ _)
      | (with_reducible exact regimenref03_Rounded.mono _ _ _)
      | (with_reducible exact regimenref05_Read.mono _ _ _)
      | (with_reducible exact regimenref05_Tens.mono _ _)
      | (with_reducible exact regimenref05_Text.mono _ _)
      | (with_reducible exact LeO.refl _)
      | (with_reducible exact LeO.none _)
      | (with_reducible refine LeO.ite ?_ ?_)
      | (with_reducible refine LeO.bind ?_ (fun _ => ?_))
      | exact ih0 _ _
      | exact ih1 _ _ _
      | exact ih2 _ _ _
      | exact regimenref02_Cmp.mono _ _ _
      | exact regimenref02_Times.mono _ _ _
      | exact regimenref02_Twos.mono _ _
      | exact regimenref03_Rounded.mono _ _ _
      | exact regimenref05_Read.mono _ _ _
      | exact regimenref05_Tens.mono _ _
      | exact regimenref05_Text.mono _ _
      | exact LeO.none _
      | refine LeO.ite ?_ ?_
      | refine LeO.bind ?_ (fun _ => ?_)
    · intro y0 y1 y2
      unfold regimenref05_Put.l0
      repeat' first
      | (with_reducible exact ih0 _ _)
      | (with_reducible exact ih1 _ _ _)
      | (with_reducible exact ih2 _ _ _)
      | (with_reducible exact regimenref02_Cmp.mono _ _ _)
      | (with_reducible exact regimenref02_Times.mono _ _ _)
      | (with_reducible exact regimenref02_Twos.mono _ _)
      | (with_reducible exact regimenref03_Rounded.mono _ _ _)
      | (with_reducible exact regimenref05_Read.mono _ _ _)
      | (with_reducible exact regimenref05_Tens.mono _ _)
      | (with_reducible exact regimenref05_Text.mono _ _)
      | (with_reducible exact LeO.refl _)
      | (with_reducible exact LeO.none _)
      | (with_reducible refine LeO.ite ?_ ?_)
      | (with_reducible refine LeO.bind ?_ (fun _ => ?_))
      | exact ih0 _ _
      | exact ih1 _ _ _
      | exact ih2 _ _ _
      | exact regimenref02_Cmp.mono _ _ _
      | exact regimenref02_Times.mono _ _ _
      | exact regimenref02_Twos.mono _ _
      | exact regimenref03_Rounded.mono _ _ _
      | exact regimenref05_Read.mono _ _ _
      | exact regimenref05_Tens.mono _ _
      | exact regimenref05_Text.mono _ _
      | exact LeO.none _
      | refine LeO.ite ?_ ?_
      | refine LeO.bind ?_ (fun _ => ?_)
    · intro y0 y1 y2
      unfold regimenref05_Put.l1
      repeat' first
      | (with_reducible exact ih0 _ _)
      | (with_reducible exact ih1 _ _ _)
      | (with_reducible exact ih2 _ _ _)
      | (with_reducible exact regimenref02_Cmp.mono _ _ _)
      | (with_reducible exact regimenref02_Times.mono _ _ _)
      | (with_reducible exact regimenref02_Twos.mono _ _)
      | (with_reducible exact regimenref03_Rounded.mono _ _ _)
      | (with_reducible exact regimenref05_Read.mono _ _ _)
      | (with_reducible exact regimenref05_Tens.mono _ _)
      | (with_reducible exact regimenref05_Text.mono _ _)
      | (with_reducible exact LeO.refl _)
      | (with_reducible exact LeO.none _)
      | (with_reducible refine LeO.ite ?_ ?_)
      | (with_reducible refine LeO.bind ?_ (fun _ => ?_))
      | exact ih0 _ _
      | exact ih1 _ _ _
      | exact ih2 _ _ _
      | exact regimenref02_Cmp.mono _ _ _
      | exact regimenref02_Times.mono _ _ _
      | exact regimenref02_Twos.mono _ _
      | exact regimenref03_Rounded.mono _ _ _
      | exact regimenref05_Read.mono _ _ _
      | exact regimenref05_Tens.mono _ _
      | exact regimenref05_Text.mono _ _
      | exact LeO.none _
      | refine LeO.ite ?_ ?_
      | refine LeO.bind ?_ (fun _ => ?_)
def regimenref45_tail.l0 : Nat → List Int → ByteArray → Int → Option (ByteArray)
  | 0, _, _, _ => none
  | k + 1, x0, x3, x4 => if x4 < (x0.length : Int) then (if x3.size + 1 ≤ 9223372036854775807 then (if 0 ≤ x4 then ((regimenref05_Put.f k (rd x0 x4)).bind fun t485 => (if (x3 ++ (⟨#[32]⟩ : ByteArray)).size + t485.size ≤ 9223372036854775807 then (regimenref45_tail.l0 k x0 ((x3 ++ (⟨#[32]⟩ : ByteArray)) ++ t485) (wrap64 (x4 + 1))) else (none))) else (none)) else (none)) else (some x3)
def regimenref45_tail.f (k : Nat) (l0 : List Int) : Option (ByteArray) := regimenref45_tail.l0 k l0 (⟨#[]⟩ : ByteArray) 0
def regimenref34_May.f (a0_0 : Int) (l0_1 : List Int) : Option (Bool) := if a0_0 ≥ 0 then (if a0_0 ≤ 1048576 then (if a0_0 > 0 then (some true) else (some ((l0_1.length : Int) == 0))) else (some false)) else (some false)
def regimenref02_Mod.l0 : Nat → List Int → Int → Int → Int → Option (Int × Int)
  | 0, _, _, _, _ => none
  | k + 1, x0, x4, x514000, x514001 => if x4 ≥ 0 then (if x4 ≥ 4 then ((regimenref02_digit.f x0 x4).bind fun t514 => (regimenref02_Mod.l0 k x0 (wrap64 (x4 - 1)) (IntKind.u64.wrap ((IntKind.u64.wrap (x514000 * 65536)) + t514)) x514001)) else ((regimenref02_digit.f x0 x4).bind fun t515 => (regimenref02_Mod.l0 k x0 (wrap64 (x4 - 1)) x514000 (IntKind.u64.wrap ((IntKind.u64.wrap (x514001 * 65536)) + t515))))) else (some (x514000, x514001))
def regimenref02_Mod.f (k : Nat) (l0 : List Int) : Option (Int × Int) := regimenref02_Mod.l0 k l0 7 0 0
theorem regimenref02_Mod.mono_l : ∀ k, (∀ y0 y1 y2 y3, LeO (regimenref02_Mod.l0 k y0 y1 y2 y3) (regimenref02_Mod.l0 (k + 1) y0 y1 y2 y3))
  | 0 => fun _ _ _ _ r h => by simp [regimenref02_Mod.l0] at h
  | k + 1 => by
    have ih0 := regimenref02_Mod.mono_l k
    · intro y0 y1 y2 y3
      unfold regimenref02_Mod.l0
      repeat' first
      | (with_reducible exact ih0 _ _ _ _)
      | (with_reducible exact LeO.refl _)
      | (with_reducible exact LeO.none _)
      | (with_reducible refine LeO.ite ?_ ?_)
      | (with_reducible refine LeO.bind ?_ (fun _ => ?_))
      | exact ih0 _ _ _ _
      | exact LeO.none _
      | refine LeO.ite ?_ ?_
      | refine LeO.bind ?_ (fun _ => ?_)
theorem regimenref02_Mod.mono : ∀ a0 k, LeO (regimenref02_Mod.f k a0) (regimenref02_Mod.f (k + 1) a0) := by
  intro a0 k
  have ih0 := regimenref02_Mod.mono_l k
  unfold regimenref02_Mod.f
  repeat' first
      | (with_reducible exact ih0 _ _ _ _)
      | (with_reducible exact LeO.refl _)
      | (with_reducible exact LeO.none _)
      | (with_reducible refine LeO.ite ?_ ?_)
      | (with_reducible refine LeO.bind ?_ (fun _ => ?_))
      | exact ih0 _ _ _ _
      | exact LeO.none _
      | refine LeO.ite ?_ ?_
      | refine LeO.bind ?_ (fun _ => ?_)
def regimenref04_Signed.j0 : Nat → List Int → Bool → Bool → Option (Int × Int)
  | 0, _, _, _ => none
  | k + 1, x0, x1, x20 => if x20 = true then (some (0, 4)) else ((regimenref02_Mod.f k x0).bind fun bt520 => (if x1 = true then (some (wrap64 (IntKind.u64.wrap (-bt520.2)), 0)) else (some (wrap64 (bt520.2), 0))))
def regimenref04_Signed.f (k : Nat) (l0 : List Int) (a1 : Bool) : Option (Int × Int) := (regimenref02_Twos.f k 63).bind fun t516 => ((regimenref02_Cmp.f k l0 t516).bind fun t519 => (if t519 > 0 then (regimenref04_Signed.j0 k l0 a1 true) else (if t519 = 0 then (regimenref04_Signed.j0 k l0 a1 (!a1)) else (regimenref04_Signed.j0 k l0 a1 false))))
theorem regimenref04_Signed.mono_l : ∀ k, (∀ y0 y1 y2, LeO (regimenref04_Signed.j0 k y0 y1 y2) (regimenref04_Signed.j0 (k + 1) y0 y1 y2))
  | 0 => fun _ _ _ r h => by simp [regimenref04_Signed.j0] at h
  | k + 1 => by
    have ih0 := regimenref04_Signed.mono_l k
    · intro y0 y1 y2
      unfold regimenref04_Signed.j0
      repeat' first
      | (with_reducible exact ih0 _ _ _)
      | (with_reducible exact regimenref02_Cmp.mono _ _ _)
      | (with_reducible exact regimenref02_Mod.mono _ _)
      | (with_reducible exact regimenref02_Twos.mono _ _)
      | (with_reducible exact LeO.refl _)
      | (with_reducible exact LeO.none _)
      | (with_reducible refine LeO.ite ?_ ?_)
      | (with_reducible refine LeO.bind ?_ (fun _ => ?_))
      | exact ih0 _ _ _
      | exact regimenref02_Cmp.mono _ _ _
      | exact regimenref02_Mod.mono _ _
      | exact regimenref02_Twos.mono _ _
      | exact LeO.none _
      | refine LeO.ite ?_ ?_
      | refine LeO.bind ?_ (fun _ => ?_)
def regimenref34_Mean.l0 : Nat → List Int → Int → Int → List Int → Option (List Int)
  | 0, _, _, _, _ => none
  | k + 1, x3, x4, x523000, x523001 => if x4 < (x523001.length : Int) then (if 0 ≤ x4 then ((regimenref02_Size.f (rd x523001 x4)).bind fun t527 => ((regimenref02_Size.f x523000).bind fun t530 => ((regimenref03_Rounded.f k t527 t530).bind fun t533 => ((regimenref04_Signed.f k t533 (decide ((rd x523001 x4) < 0))).bind fun bt537 => (if x3.length < 17592186044416 then (regimenref34_Mean.l0 k (x3 ++ [bt537.1]) (wrap64 (x4 + 1)) x523000 x523001) else (none)))))) else (none)) else (some x3)
def regimenref34_Mean.f (k : Nat) (a0_0 : Int) (l0_1 : List Int) : Option (List Int) := regimenref34_Mean.l0 k (([] : List Int)) 0 a0_0 l0_1
end Go.Proofs.Ytcgdhpnobgimfaa.PT
end
