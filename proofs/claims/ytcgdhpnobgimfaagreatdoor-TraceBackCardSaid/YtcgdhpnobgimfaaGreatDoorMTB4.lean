/- Go functions of this seat as plain Lean functions, each with a proof that its call comes to just what that function says, wherever that function says anything: written by a program of this session. The plain functions of this seat, without their walks: written by a program of this session. -/
import Derived.Test.YtcgdhpnobgimfaaGreatDoorProg
import Derived.Below
import Derived.Deep.Draws
import Derived.Deep.AppendLies
import Derived.Maps.AppendAt
import Derived.OwnWalk
import Derived.Laws.BytesArg
import Derived.Laws.MakeOwn
import Derived.Laws.OwnMore
import Derived.Deep.OwnRows
import Derived.Tactics
import Derived.Lib.ConvBytes
import Derived.Lib.Walk
import Derived.Lib.Bytealg
import Derived.Laws.AppendOwn
import Derived.Laws.Slices
import Derived.WalkKit
import Derived.KernelRfl
import Derived.RowKit3
import Derived.Deep.LoopGhost
import Derived.Deep.QuietTactic
import Derived.BigQuiet
import Derived.WideLaws
import Derived.Deep.DeepCutAuto
import Derived.Deep.CutBlock
import Derived.Deep.RegionHeld3
import Derived.Laws.Rows
import Derived.Lib.AppendStr
import Derived.ArgAppend
import Derived.Laws.IdiomCopy
import Derived.OrdersHeld
import Derived.Laws.BitsLemmas
import Derived.RowKit
import Derived.ChangeKeysEq
import Derived.Laws.RangeAny
import Derived.Laws.RangeString
import Derived.Lib.OthersKept
import Derived.LoopTactic
import Derived.WalkMore
import Derived.Shelf.Strings.OnBuilder
import Derived.Shelf.Strings.Repeat
import Derived.Test.YtcgdhpnobgimfaaGreatDoorMTB3
section
namespace Go.Proofs.YtcgdhpnobgimfaaGreatDoor.PB
open Go.RowKit Go.Proofs.YtcgdhpnobgimfaaGreatDoorW.PrintWords Go.Proofs.YtcgdhpnobgimfaaGreatDoorW.PrintLast Go.Proofs.YtcgdhpnobgimfaaGreatDoorW.PrintMore
attribute [local go_sem] max2_int min2_int max_two min_two max_three min_three max_four min_four   -- for this text's walks alone
set_option linter.unusedVariables false
set_option linter.unusedSimpArgs false



section
variable {P : Program} {ops : Array Oper} {rest : List Oper} {o : Oper} {a : Act} {Q : Exit → Act → World → Prop} {W : World}
end
section
variable {P : Program} {ops : Array Oper} {Q : Exit → Act → World → Prop}
end
def numsOf (s : ByteArray) : List Int := s.data.toList.map (fun b => (b.toNat : Int))
theorem numsOf_length (s : ByteArray) : (numsOf s).length = s.size := by
  rw [numsOf, List.length_map, Array.length_toList]
  rfl
section
variable {P : Program} {ops : Array Oper} {rest : List Oper} {o : Oper} {a : Act} {Q : Exit → Act → World → Prop}
end

section
variable {P : Program} {d c : Nat} {e : TypeId} {xs ys : Array Value} {i : Nat} {is : List Nat} {a b : Value} {r s : Bool} {w : World}
end

/-! #### struct type 57 -/
structure S57 where
  f0 : Int
  f1 : Int
  f2 : Int
/-! #### struct type 28 -/
structure S28 where
  f0 : Int
  f1 : Int
  f2 : (List Int)
  f3 : (List Bool)
  f4 : (List S57)
  f5 : Int
/-! #### struct type 90 -/
structure S90 where
  f0 : Int
  f1 : Int
end Go.Proofs.YtcgdhpnobgimfaaGreatDoor.PB
end
section
namespace Go.Proofs.YtcgdhpnobgimfaaGreatDoor.PB
open Go.RowKit Go.Proofs.YtcgdhpnobgimfaaGreatDoorW.PrintWords Go.Proofs.YtcgdhpnobgimfaaGreatDoorW.PrintLast Go.Proofs.YtcgdhpnobgimfaaGreatDoorW.PrintMore
set_option linter.unusedVariables false
set_option linter.unusedSimpArgs false
def stringslite_Index.f (a0 a1 : ByteArray) : Option Int := if a1.size = 1 then some (Lib.indexByte a0.data.toList (bt a1 0).toNat.toUInt8) else none
def num_Lead.l0 : Nat → ByteArray → List Int → Int → Int → Option (Int)
  | 0, _, _, _, _ => none
  | k + 1, x0, x6, x7, x8 => if x8 < x7 then (if 0 ≤ x8 then (if x8 < (x6.length : Int) then (if (rd x6 x8) < 48 then (some x8) else (if (rd x6 x8) > 57 then (some x8) else (num_Lead.l0 k x0 x6 x7 (wrap64 (x8 + 1))))) else (none)) else (none)) else (some (x0.size : Int))
def num_Lead.g (k : Nat) (a0 : ByteArray) (l1 : List Int) : Option (Int) := num_Lead.l0 k a0 l1 (l1.length : Int) 0
theorem num_Lead.mono_l : ∀ k, (∀ y0 y1 y2 y3, LeO (num_Lead.l0 k y0 y1 y2 y3) (num_Lead.l0 (k + 1) y0 y1 y2 y3))
  | 0 => fun _ _ _ _ r h => by simp [num_Lead.l0] at h
  | k + 1 => by
    have ih0 := num_Lead.mono_l k
    · intro y0 y1 y2 y3
      unfold num_Lead.l0
      repeat' first
      | (with_reducible exact ih0 _ _ _ _)
      | (with_reducible exact LeO.refl _)
      | (with_reducible exact LeO.none _)
      | (with_reducible refine LeO.ite ?_ ?_)
      | (with_reducible refine LeO.bind ?_ (fun _ => ?_))
      | exact ih0 _ _ _ _
      | exact LeO.none _
      | refine LeO.ite ?_ ?_
      | refine LeO.bind ?_ (fun _ => ?_)
theorem num_Lead.gmono : ∀ a0 a1 k, LeO (num_Lead.g k a0 a1) (num_Lead.g (k + 1) a0 a1) := by
  intro a0 a1 k
  have ih0 := num_Lead.mono_l k
  unfold num_Lead.g
  repeat' first
      | (with_reducible exact ih0 _ _ _ _)
      | (with_reducible exact LeO.refl _)
      | (with_reducible exact LeO.none _)
      | (with_reducible refine LeO.ite ?_ ?_)
      | (with_reducible refine LeO.bind ?_ (fun _ => ?_))
      | exact ih0 _ _ _ _
      | exact LeO.none _
      | refine LeO.ite ?_ ?_
      | refine LeO.bind ?_ (fun _ => ?_)
def num_Lead.f (k : Nat) (a0 : ByteArray) : Option (Int) := if a0.size ≤ 9223372036854775807 then num_Lead.g k a0 (numsOf a0) else none
theorem num_Lead.mono : ∀ a0 k, LeO (num_Lead.f k a0) (num_Lead.f (k + 1) a0) := by
  intro a0 k
  unfold num_Lead.f
  exact LeO.ite (num_Lead.gmono a0 (numsOf a0) k) (LeO.none _)
mutual
def num_Get.j0 : Nat → List Int → Bool → Option (Int × Int)
  | 0, _, _ => none
  | k + 1, x1, x25 => if x25 = true then (some (0, 2)) else (num_Get.l0 k 0 x1 (x1.length : Int) 0)
def num_Get.l0 : Nat → Int → List Int → Int → Int → Option (Int × Int)
  | 0, _, _, _, _ => none
  | k + 1, x4, x27, x28, x29 => if x29 < x28 then (if 0 ≤ x29 then (if x29 < (x27.length : Int) then (if (wrap64 ((wrap64 (10 * x4)) + (((rd x27 x29) - 48) % 256))) > 1099511627776 then (some (0, 3)) else (num_Get.l0 k (wrap64 ((wrap64 (10 * x4)) + (((rd x27 x29) - 48) % 256))) x27 x28 (wrap64 (x29 + 1)))) else (none)) else (none)) else (some (x4, 0))
end
def num_Get.g (k : Nat) (a0 : ByteArray) (l1 : List Int) : Option (Int × Int) := if a0.toList = ([] : List UInt8) then (num_Get.j0 k l1 true) else ((num_Lead.f k a0).bind fun t107 => (if t107 < (a0.size : Int) then (num_Get.j0 k l1 true) else (if 0 < (a0.size : Int) then (if (bt a0 0) = 48 then (num_Get.j0 k l1 (decide ((a0.size : Int) > 1))) else (num_Get.j0 k l1 false)) else (none))))
theorem num_Get.mono_l : ∀ k, (∀ y0 y1, LeO (num_Get.j0 k y0 y1) (num_Get.j0 (k + 1) y0 y1)) ∧ (∀ y0 y1 y2 y3, LeO (num_Get.l0 k y0 y1 y2 y3) (num_Get.l0 (k + 1) y0 y1 y2 y3))
  | 0 => ⟨fun _ _ r h => by simp [num_Get.j0] at h, fun _ _ _ _ r h => by simp [num_Get.l0] at h⟩
  | k + 1 => by
    obtain ⟨ih0, ih1⟩ := num_Get.mono_l k
    refine ⟨?_, ?_⟩
    · intro y0 y1
      unfold num_Get.j0
      repeat' first
      | (with_reducible exact ih0 _ _)
      | (with_reducible exact ih1 _ _ _ _)
      | (with_reducible exact num_Lead.mono _ _)
      | (with_reducible exact LeO.refl _)
      | (with_reducible exact LeO.none _)
      | (with_reducible refine LeO.ite ?_ ?_)
      | (with_reducible refine LeO.bind ?_ (fun _ => ?_))
      | exact ih0 _ _
      | exact ih1 _ _ _ _
      | exact num_Lead.mono _ _
      | exact LeO.none _
      | refine LeO.ite ?_ ?_
      | refine LeO.bind ?_ (fun _ => ?_)
    · intro y0 y1 y2 y3
      unfold num_Get.l0
      repeat' first
      | (with_reducible exact ih0 _ _)
      | (with_reducible exact ih1 _ _ _ _)
      | (with_reducible exact num_Lead.mono _ _)
      | (with_reducible exact LeO.refl _)
      | (with_reducible exact LeO.none _)
      | (with_reducible refine LeO.ite ?_ ?_)
      | (with_reducible refine LeO.bind ?_ (fun _ => ?_))
      | exact ih0 _ _
      | exact ih1 _ _ _ _
      | exact num_Lead.mono _ _
      | exact LeO.none _
      | refine LeO.ite ?_ ?_
      | refine LeO.bind ?_ (fun _ => ?_)
theorem num_Get.gmono : ∀ a0 a1 k, LeO (num_Get.g k a0 a1) (num_Get.g (k + 1) a0 a1) := by
  intro a0 a1 k
  obtain ⟨ih0, ih1⟩ := num_Get.mono_l k
  unfold num_Get.g
  repeat' first
      | (with_reducible exact ih0 _ _)
      | (with_reducible exact ih1 _ _ _ _)
      | (with_reducible exact num_Lead.mono _ _)
      | (with_reducible exact LeO.refl _)
      | (with_reducible exact LeO.none _)
      | (with_reducible refine LeO.ite ?_ ?_)
      | (with_reducible refine LeO.bind ?_ (fun _ => ?_))
      | exact ih0 _ _
      | exact ih1 _ _ _ _
      | exact num_Lead.mono _ _
      | exact LeO.none _
      | refine LeO.ite ?_ ?_
      | refine LeO.bind ?_ (fun _ => ?_)
def num_Get.f (k : Nat) (a0 : ByteArray) : Option (Int × Int) := if a0.size ≤ 9223372036854775807 then num_Get.g k a0 (numsOf a0) else none
theorem num_Get.mono : ∀ a0 k, LeO (num_Get.f k a0) (num_Get.f (k + 1) a0) := by
  intro a0 k
  unfold num_Get.f
  exact LeO.ite (num_Get.gmono a0 (numsOf a0) k) (LeO.none _)
def stringslite_HasSuffix.f (a0 : ByteArray) (a1 : ByteArray) : Option (Bool) := if (a0.size : Int) ≥ (a1.size : Int) then (if 0 ≤ (wrap64 ((a0.size : Int) - (a1.size : Int))) then (if (wrap64 ((a0.size : Int) - (a1.size : Int))) ≤ (a0.size : Int) then (some ((a0.extract ((wrap64 ((a0.size : Int) - (a1.size : Int))) : Int).toNat a0.size).toList == a1.toList)) else (none)) else (none)) else (some false)
def stringslite_CutSuffix.f (a0 : ByteArray) (a1 : ByteArray) : Option (ByteArray × Bool) := (stringslite_HasSuffix.f a0 a1).bind fun t112 => (if t112 = true then (if 0 ≤ (wrap64 ((a0.size : Int) - (a1.size : Int))) then (if (wrap64 ((a0.size : Int) - (a1.size : Int))) ≤ (a0.size : Int) then (some (a0.extract 0 ((wrap64 ((a0.size : Int) - (a1.size : Int))) : Int).toNat, true)) else (none)) else (none)) else (some (a0, false)))
def strings_CutSuffix.f (a0 : ByteArray) (a1 : ByteArray) : Option (ByteArray × Bool) := (stringslite_CutSuffix.f a0 a1).bind fun bt113 => (some (bt113.1, bt113.2))
def stringslite_HasPrefix.f (a0 : ByteArray) (a1 : ByteArray) : Option (Bool) := if (a0.size : Int) ≥ (a1.size : Int) then (if 0 ≤ (a1.size : Int) then (if (a1.size : Int) ≤ (a0.size : Int) then (some ((a0.extract 0 ((a1.size : Int) : Int).toNat).toList == a1.toList)) else (none)) else (none)) else (some false)
def stringslite_CutPrefix.f (a0 : ByteArray) (a1 : ByteArray) : Option (ByteArray × Bool) := (stringslite_HasPrefix.f a0 a1).bind fun t115 => (if t115 = true then (if 0 ≤ (a1.size : Int) then (if (a1.size : Int) ≤ (a0.size : Int) then (some (a0.extract ((a1.size : Int) : Int).toNat a0.size, true)) else (none)) else (none)) else (some (a0, false)))
def strings_CutPrefix.f (a0 : ByteArray) (a1 : ByteArray) : Option (ByteArray × Bool) := (stringslite_CutPrefix.f a0 a1).bind fun bt116 => (some (bt116.1, bt116.2))
def num_digits.l0 : Nat → Int → List Int → Option ByteArray
  | 0, _, _ => none
  | k + 1, u, l => if l.length < 20 then (if 0 ≤ u then (if u < 18446744073709551616 then (if u / 10 = 0 then some (strOfNums ((48 + u % 10) :: l)) else num_digits.l0 k (u / 10) ((48 + u % 10) :: l)) else none) else none) else none
def num_digits.f (k : Nat) (a0 : Int) : Option ByteArray := num_digits.l0 k a0 []
theorem num_digits.mono_l : ∀ k u l, LeO (num_digits.l0 k u l) (num_digits.l0 (k + 1) u l)
  | 0 => fun _ _ r h => by simp [num_digits.l0] at h
  | k + 1 => by
    intro u l
    unfold num_digits.l0
    exact LeO.ite (LeO.ite (LeO.ite (LeO.ite (LeO.refl _) (num_digits.mono_l k _ _)) (LeO.none _)) (LeO.none _)) (LeO.none _)
theorem num_digits.mono : ∀ a0 k, LeO (num_digits.f k a0) (num_digits.f (k + 1) a0) := fun a0 k => num_digits.mono_l k a0 []
def num_Tell.f (k : Nat) (a0 : Int) : Option (ByteArray) := if a0 < 0 then ((num_digits.f k (IntKind.u64.wrap (-(IntKind.u64.wrap (a0))))).bind fun t118 => (if 1 + t118.size ≤ 9223372036854775807 then (some ((⟨#[45]⟩ : ByteArray) ++ t118)) else (none))) else ((num_digits.f k (IntKind.u64.wrap (a0))).bind fun t119 => (some t119))
theorem num_Tell.mono : ∀ a0 k, LeO (num_Tell.f k a0) (num_Tell.f (k + 1) a0) := by
  intro a0 k
  unfold num_Tell.f
  repeat' first
      | (with_reducible exact num_digits.mono _ _)
      | (with_reducible exact LeO.refl _)
      | (with_reducible exact LeO.none _)
      | (with_reducible refine LeO.ite ?_ ?_)
      | (with_reducible refine LeO.bind ?_ (fun _ => ?_))
      | exact num_digits.mono _ _
      | exact LeO.none _
      | refine LeO.ite ?_ ?_
      | refine LeO.bind ?_ (fun _ => ?_)
def fix_Size.f (a0 : Int) : Option (Int) := if a0 < 0 then (some (IntKind.u64.wrap (-(IntKind.u64.wrap (a0))))) else (some (IntKind.u64.wrap (a0)))
def bits_Len64.j0 : Nat → Int → Int → Option (Int)
  | 0, _, _ => none
  | k + 1, x0, x2 => if x0 ≥ 65536 then (if (x0 / 65536) ≥ 256 then (if 0 ≤ (((x0 / 65536) / 256) % 256) then (if (((x0 / 65536) / 256) % 256) < 256 then (some (wrap64 ((wrap64 ((wrap64 (x2 + 16)) + 8)) + (wrap64 (bt (⟨#[0, 1, 2, 2, 3, 3, 3, 3, 4, 4, 4, 4, 4, 4, 4, 4, 5, 5, 5, 5, 5, 5, 5, 5, 5, 5, 5, 5, 5, 5, 5, 5, 6, 6, 6, 6, 6, 6, 6, 6, 6, 6, 6, 6, 6, 6, 6, 6, 6, 6, 6, 6, 6, 6, 6, 6, 6, 6, 6, 6, 6, 6, 6, 6, 7, 7, 7, 7, 7, 7, 7, 7, 7, 7, 7, 7, 7, 7, 7, 7, 7, 7, 7, 7, 7, 7, 7, 7, 7, 7, 7, 7, 7, 7, 7, 7, 7, 7, 7, 7, 7, 7, 7, 7, 7, 7, 7, 7, 7, 7, 7, 7, 7, 7, 7, 7, 7, 7, 7, 7, 7, 7, 7, 7, 7, 7, 7, 7, 8, 8, 8, 8, 8, 8, 8, 8, 8, 8, 8, 8, 8, 8, 8, 8, 8, 8, 8, 8, 8, 8, 8, 8, 8, 8, 8, 8, 8, 8, 8, 8, 8, 8, 8, 8, 8, 8, 8, 8, 8, 8, 8, 8, 8, 8, 8, 8, 8, 8, 8, 8, 8, 8, 8, 8, 8, 8, 8, 8, 8, 8, 8, 8, 8, 8, 8, 8, 8, 8, 8, 8, 8, 8, 8, 8, 8, 8, 8, 8, 8, 8, 8, 8, 8, 8, 8, 8, 8, 8, 8, 8, 8, 8, 8, 8, 8, 8, 8, 8, 8, 8, 8, 8, 8, 8, 8, 8, 8, 8, 8, 8, 8, 8, 8, 8, 8, 8, 8, 8, 8, 8, 8, 8, 8, 8, 8, 8]⟩ : ByteArray) (((x0 / 65536) / 256) % 256)))))) else (none)) else (none)) else (if 0 ≤ ((x0 / 65536) % 256) then (if ((x0 / 65536) % 256) < 256 then (some (wrap64 ((wrap64 (x2 + 16)) + (wrap64 (bt (⟨#[0, 1, 2, 2, 3, 3, 3, 3, 4, 4, 4, 4, 4, 4, 4, 4, 5, 5, 5, 5, 5, 5, 5, 5, 5, 5, 5, 5, 5, 5, 5, 5, 6, 6, 6, 6, 6, 6, 6, 6, 6, 6, 6, 6, 6, 6, 6, 6, 6, 6, 6, 6, 6, 6, 6, 6, 6, 6, 6, 6, 6, 6, 6, 6, 7, 7, 7, 7, 7, 7, 7, 7, 7, 7, 7, 7, 7, 7, 7, 7, 7, 7, 7, 7, 7, 7, 7, 7, 7, 7, 7, 7, 7, 7, 7, 7, 7, 7, 7, 7, 7, 7, 7, 7, 7, 7, 7, 7, 7, 7, 7, 7, 7, 7, 7, 7, 7, 7, 7, 7, 7, 7, 7, 7, 7, 7, 7, 7, 8, 8, 8, 8, 8, 8, 8, 8, 8, 8, 8, 8, 8, 8, 8, 8, 8, 8, 8, 8, 8, 8, 8, 8, 8, 8, 8, 8, 8, 8, 8, 8, 8, 8, 8, 8, 8, 8, 8, 8, 8, 8, 8, 8, 8, 8, 8, 8, 8, 8, 8, 8, 8, 8, 8, 8, 8, 8, 8, 8, 8, 8, 8, 8, 8, 8, 8, 8, 8, 8, 8, 8, 8, 8, 8, 8, 8, 8, 8, 8, 8, 8, 8, 8, 8, 8, 8, 8, 8, 8, 8, 8, 8, 8, 8, 8, 8, 8, 8, 8, 8, 8, 8, 8, 8, 8, 8, 8, 8, 8, 8, 8, 8, 8, 8, 8, 8, 8, 8, 8, 8, 8, 8, 8, 8, 8, 8, 8]⟩ : ByteArray) ((x0 / 65536) % 256)))))) else (none)) else (none))) else (if x0 ≥ 256 then (if 0 ≤ ((x0 / 256) % 256) then (if ((x0 / 256) % 256) < 256 then (some (wrap64 ((wrap64 (x2 + 8)) + (wrap64 (bt (⟨#[0, 1, 2, 2, 3, 3, 3, 3, 4, 4, 4, 4, 4, 4, 4, 4, 5, 5, 5, 5, 5, 5, 5, 5, 5, 5, 5, 5, 5, 5, 5, 5, 6, 6, 6, 6, 6, 6, 6, 6, 6, 6, 6, 6, 6, 6, 6, 6, 6, 6, 6, 6, 6, 6, 6, 6, 6, 6, 6, 6, 6, 6, 6, 6, 7, 7, 7, 7, 7, 7, 7, 7, 7, 7, 7, 7, 7, 7, 7, 7, 7, 7, 7, 7, 7, 7, 7, 7, 7, 7, 7, 7, 7, 7, 7, 7, 7, 7, 7, 7, 7, 7, 7, 7, 7, 7, 7, 7, 7, 7, 7, 7, 7, 7, 7, 7, 7, 7, 7, 7, 7, 7, 7, 7, 7, 7, 7, 7, 8, 8, 8, 8, 8, 8, 8, 8, 8, 8, 8, 8, 8, 8, 8, 8, 8, 8, 8, 8, 8, 8, 8, 8, 8, 8, 8, 8, 8, 8, 8, 8, 8, 8, 8, 8, 8, 8, 8, 8, 8, 8, 8, 8, 8, 8, 8, 8, 8, 8, 8, 8, 8, 8, 8, 8, 8, 8, 8, 8, 8, 8, 8, 8, 8, 8, 8, 8, 8, 8, 8, 8, 8, 8, 8, 8, 8, 8, 8, 8, 8, 8, 8, 8, 8, 8, 8, 8, 8, 8, 8, 8, 8, 8, 8, 8, 8, 8, 8, 8, 8, 8, 8, 8, 8, 8, 8, 8, 8, 8, 8, 8, 8, 8, 8, 8, 8, 8, 8, 8, 8, 8, 8, 8, 8, 8, 8, 8]⟩ : ByteArray) ((x0 / 256) % 256)))))) else (none)) else (none)) else (if 0 ≤ ((x0) % 256) then (if ((x0) % 256) < 256 then (some (wrap64 (x2 + (wrap64 (bt (⟨#[0, 1, 2, 2, 3, 3, 3, 3, 4, 4, 4, 4, 4, 4, 4, 4, 5, 5, 5, 5, 5, 5, 5, 5, 5, 5, 5, 5, 5, 5, 5, 5, 6, 6, 6, 6, 6, 6, 6, 6, 6, 6, 6, 6, 6, 6, 6, 6, 6, 6, 6, 6, 6, 6, 6, 6, 6, 6, 6, 6, 6, 6, 6, 6, 7, 7, 7, 7, 7, 7, 7, 7, 7, 7, 7, 7, 7, 7, 7, 7, 7, 7, 7, 7, 7, 7, 7, 7, 7, 7, 7, 7, 7, 7, 7, 7, 7, 7, 7, 7, 7, 7, 7, 7, 7, 7, 7, 7, 7, 7, 7, 7, 7, 7, 7, 7, 7, 7, 7, 7, 7, 7, 7, 7, 7, 7, 7, 7, 8, 8, 8, 8, 8, 8, 8, 8, 8, 8, 8, 8, 8, 8, 8, 8, 8, 8, 8, 8, 8, 8, 8, 8, 8, 8, 8, 8, 8, 8, 8, 8, 8, 8, 8, 8, 8, 8, 8, 8, 8, 8, 8, 8, 8, 8, 8, 8, 8, 8, 8, 8, 8, 8, 8, 8, 8, 8, 8, 8, 8, 8, 8, 8, 8, 8, 8, 8, 8, 8, 8, 8, 8, 8, 8, 8, 8, 8, 8, 8, 8, 8, 8, 8, 8, 8, 8, 8, 8, 8, 8, 8, 8, 8, 8, 8, 8, 8, 8, 8, 8, 8, 8, 8, 8, 8, 8, 8, 8, 8, 8, 8, 8, 8, 8, 8, 8, 8, 8, 8, 8, 8, 8, 8, 8, 8, 8, 8]⟩ : ByteArray) ((x0) % 256)))))) else (none)) else (none)))
def bits_Len64.f (k : Nat) (a0 : Int) : Option (Int) := if a0 ≥ 4294967296 then (bits_Len64.j0 k (a0 / 4294967296) 32) else (bits_Len64.j0 k a0 0)
theorem bits_Len64.mono_l : ∀ k, (∀ y0 y1, LeO (bits_Len64.j0 k y0 y1) (bits_Len64.j0 (k + 1) y0 y1))
  | 0 => fun _ _ r h => by simp [bits_Len64.j0] at h
  | k + 1 => by
    have ih0 := bits_Len64.mono_l k
    · intro y0 y1
      unfold bits_Len64.j0
      repeat' first
      | (with_reducible exact ih0 _ _)
      | (with_reducible exact LeO.refl _)
      | (with_reducible exact LeO.none _)
      | (with_reducible refine LeO.ite ?_ ?_)
      | (with_reducible refine LeO.bind ?_ (fun _ => ?_))
      | exact ih0 _ _
      | exact LeO.none _
      | refine LeO.ite ?_ ?_
      | refine LeO.bind ?_ (fun _ => ?_)
theorem bits_Len64.mono : ∀ a0 k, LeO (bits_Len64.f k a0) (bits_Len64.f (k + 1) a0) := by
  intro a0 k
  have ih0 := bits_Len64.mono_l k
  unfold bits_Len64.f
  repeat' first
      | (with_reducible exact ih0 _ _)
      | (with_reducible exact LeO.refl _)
      | (with_reducible exact LeO.none _)
      | (with_reducible refine LeO.ite ?_ ?_)
      | (with_reducible refine LeO.bind ?_ (fun _ => ?_))
      | exact ih0 _ _
      | exact LeO.none _
      | refine LeO.ite ?_ ?_
      | refine LeO.bind ?_ (fun _ => ?_)
def bits_LeadingZeros64.f (k : Nat) (a0 : Int) : Option (Int) := (bits_Len64.f k a0).bind fun t120 => (some (wrap64 (64 - t120)))
theorem bits_LeadingZeros64.mono : ∀ a0 k, LeO (bits_LeadingZeros64.f k a0) (bits_LeadingZeros64.f (k + 1) a0) := by
  intro a0 k
  unfold bits_LeadingZeros64.f
  repeat' first
      | (with_reducible exact bits_Len64.mono _ _)
      | (with_reducible exact LeO.refl _)
      | (with_reducible exact LeO.none _)
      | (with_reducible refine LeO.ite ?_ ?_)
      | (with_reducible refine LeO.bind ?_ (fun _ => ?_))
      | exact bits_Len64.mono _ _
      | exact LeO.none _
      | refine LeO.ite ?_ ?_
      | refine LeO.bind ?_ (fun _ => ?_)
mutual
def bits_Div64.j2 : Nat → Int → Int → Int → Int → Int → Int → Int → Int → Option (Int × Int)
  | 0, _, _, _, _, _, _, _, _ => none
  | k + 1, x2, x8, x9, x10, x11, x13, x14, x15 => if x9 = 0 then (none) else (bits_Div64.l1 k x2 x8 x9 x10 x14 x15 (IntKind.u64.wrap ((IntKind.u64.wrap ((IntKind.u64.wrap ((IntKind.u64.wrap (x11 * 4294967296)) + x13)) - (IntKind.u64.wrap (x15 * x2)))) - (IntKind.u64.wrap ((IntKind.u64.wrap (Int.tdiv (IntKind.u64.wrap ((IntKind.u64.wrap ((IntKind.u64.wrap (x11 * 4294967296)) + x13)) - (IntKind.u64.wrap (x15 * x2)))) x9)) * x9)))) (IntKind.u64.wrap ((IntKind.u64.wrap ((IntKind.u64.wrap (x11 * 4294967296)) + x13)) - (IntKind.u64.wrap (x15 * x2)))) (IntKind.u64.wrap (Int.tdiv (IntKind.u64.wrap ((IntKind.u64.wrap ((IntKind.u64.wrap (x11 * 4294967296)) + x13)) - (IntKind.u64.wrap (x15 * x2)))) x9)))
def bits_Div64.l1 : Nat → Int → Int → Int → Int → Int → Int → Int → Int → Int → Option (Int × Int)
  | 0, _, _, _, _, _, _, _, _, _ => none
  | k + 1, x2, x8, x9, x10, x14, x15, x16, x17, x18 => if x18 ≥ 4294967296 then (bits_Div64.j4 k x2 x8 x9 x10 x14 x15 x16 x17 x18 true) else (bits_Div64.j4 k x2 x8 x9 x10 x14 x15 x16 x17 x18 (decide ((IntKind.u64.wrap (x18 * x10)) > (IntKind.u64.wrap ((IntKind.u64.wrap (4294967296 * x16)) + x14)))))
def bits_Div64.j4 : Nat → Int → Int → Int → Int → Int → Int → Int → Int → Int → Bool → Option (Int × Int)
  | 0, _, _, _, _, _, _, _, _, _, _ => none
  | k + 1, x2, x8, x9, x10, x14, x15, x16, x17, x18, x113 => if x113 = true then (if (IntKind.u64.wrap (x16 + x9)) ≥ 4294967296 then (if 0 ≤ x8 then (some (IntKind.u64.wrap ((IntKind.u64.wrap (x15 * 4294967296)) + (IntKind.u64.wrap (x18 - 1))), shr .u64 (IntKind.u64.wrap ((IntKind.u64.wrap ((IntKind.u64.wrap (x17 * 4294967296)) + x14)) - (IntKind.u64.wrap ((IntKind.u64.wrap (x18 - 1)) * x2)))) x8)) else (none)) else (bits_Div64.l1 k x2 x8 x9 x10 x14 x15 (IntKind.u64.wrap (x16 + x9)) x17 (IntKind.u64.wrap (x18 - 1)))) else (if 0 ≤ x8 then (some (IntKind.u64.wrap ((IntKind.u64.wrap (x15 * 4294967296)) + x18), shr .u64 (IntKind.u64.wrap ((IntKind.u64.wrap ((IntKind.u64.wrap (x17 * 4294967296)) + x14)) - (IntKind.u64.wrap (x18 * x2)))) x8)) else (none))
def bits_Div64.l0 : Nat → Int → Int → Int → Int → Int → Int → Int → Int → Int → Option (Int × Int)
  | 0, _, _, _, _, _, _, _, _, _ => none
  | k + 1, x2, x8, x9, x10, x11, x13, x14, x15, x16 => if x15 ≥ 4294967296 then (bits_Div64.j1 k x2 x8 x9 x10 x11 x13 x14 x15 x16 true) else (bits_Div64.j1 k x2 x8 x9 x10 x11 x13 x14 x15 x16 (decide ((IntKind.u64.wrap (x15 * x10)) > (IntKind.u64.wrap ((IntKind.u64.wrap (4294967296 * x16)) + x13)))))
def bits_Div64.j1 : Nat → Int → Int → Int → Int → Int → Int → Int → Int → Int → Bool → Option (Int × Int)
  | 0, _, _, _, _, _, _, _, _, _, _ => none
  | k + 1, x2, x8, x9, x10, x11, x13, x14, x15, x16, x78 => if x78 = true then (if (IntKind.u64.wrap (x16 + x9)) ≥ 4294967296 then (bits_Div64.j2 k x2 x8 x9 x10 x11 x13 x14 (IntKind.u64.wrap (x15 - 1))) else (bits_Div64.l0 k x2 x8 x9 x10 x11 x13 x14 (IntKind.u64.wrap (x15 - 1)) (IntKind.u64.wrap (x16 + x9)))) else (bits_Div64.j2 k x2 x8 x9 x10 x11 x13 x14 x15)
end
def bits_Div64.f (k : Nat) (a0 : Int) (a1 : Int) (a2 : Int) : Option (Int × Int) := if a2 = 0 then (none) else (if a2 ≤ a0 then (none) else (if a0 = 0 then (some (IntKind.u64.wrap (Int.tdiv a1 a2), Int.tmod a1 a2)) else ((bits_LeadingZeros64.f k a2).bind fun t121 => (if 0 ≤ (IntKind.u64.wrap (t121)) then (if 0 ≤ (IntKind.u64.wrap (64 - (IntKind.u64.wrap (t121)))) then (if ((shl .u64 a2 (IntKind.u64.wrap (t121))) / 4294967296) = 0 then (none) else (bits_Div64.l0 k (shl .u64 a2 (IntKind.u64.wrap (t121))) (IntKind.u64.wrap (t121)) ((shl .u64 a2 (IntKind.u64.wrap (t121))) / 4294967296) (Go.bits .and .u64 (shl .u64 a2 (IntKind.u64.wrap (t121))) 4294967295) (Go.bits .or .u64 (shl .u64 a0 (IntKind.u64.wrap (t121))) (shr .u64 a1 (IntKind.u64.wrap (64 - (IntKind.u64.wrap (t121)))))) ((shl .u64 a1 (IntKind.u64.wrap (t121))) / 4294967296) (Go.bits .and .u64 (shl .u64 a1 (IntKind.u64.wrap (t121))) 4294967295) (IntKind.u64.wrap (Int.tdiv (Go.bits .or .u64 (shl .u64 a0 (IntKind.u64.wrap (t121))) (shr .u64 a1 (IntKind.u64.wrap (64 - (IntKind.u64.wrap (t121)))))) ((shl .u64 a2 (IntKind.u64.wrap (t121))) / 4294967296))) (IntKind.u64.wrap ((Go.bits .or .u64 (shl .u64 a0 (IntKind.u64.wrap (t121))) (shr .u64 a1 (IntKind.u64.wrap (64 - (IntKind.u64.wrap (t121)))))) - (IntKind.u64.wrap ((IntKind.u64.wrap (Int.tdiv (Go.bits .or .u64 (shl .u64 a0 (IntKind.u64.wrap (t121))) (shr .u64 a1 (IntKind.u64.wrap (64 - (IntKind.u64.wrap (t121)))))) ((shl .u64 a2 (IntKind.u64.wrap (t121))) / 4294967296))) * ((shl .u64 a2 (IntKind.u64.wrap (t121))) / 4294967296))))))) else (none)) else (none)))))
theorem bits_Div64.mono_l : ∀ k, (∀ y0 y1 y2 y3 y4 y5 y6 y7, LeO (bits_Div64.j2 k y0 y1 y2 y3 y4 y5 y6 y7) (bits_Div64.j2 (k + 1) y0 y1 y2 y3 y4 y5 y6 y7)) ∧ (∀ y0 y1 y2 y3 y4 y5 y6 y7 y8, LeO (bits_Div64.l1 k y0 y1 y2 y3 y4 y5 y6 y7 y8) (bits_Div64.l1 (k + 1) y0 y1 y2 y3 y4 y5 y6 y7 y8)) ∧ (∀ y0 y1 y2 y3 y4 y5 y6 y7 y8 y9, LeO (bits_Div64.j4 k y0 y1 y2 y3 y4 y5 y6 y7 y8 y9) (bits_Div64.j4 (k + 1) y0 y1 y2 y3 y4 y5 y6 y7 y8 y9)) ∧ (∀ y0 y1 y2 y3 y4 y5 y6 y7 y8, LeO (bits_Div64.l0 k y0 y1 y2 y3 y4 y5 y6 y7 y8) (bits_Div64.l0 (k + 1) y0 y1 y2 y3 y4 y5 y6 y7 y8)) ∧ (∀ y0 y1 y2 y3 y4 y5 y6 y7 y8 y9, LeO (bits_Div64.j1 k y0 y1 y2 y3 y4 y5 y6 y7 y8 y9) (bits_Div64.j1 (k + 1) y0 y1 y2 y3 y4 y5 y6 y7 y8 y9))
  | 0 => ⟨fun _ _ _ _ _ _ _ _ r h => by simp [bits_Div64.j2] at h, fun _ _ _ _ _ _ _ _ _ r h => by simp [bits_Div64.l1] at h, fun _ _ _ _ _ _ _ _ _ _ r h => by simp [bits_Div64.j4] at h, fun _ _ _ _ _ _ _ _ _ r h => by simp [bits_Div64.l0] at h, fun _ _ _ _ _ _ _ _ _ _ r h => by simp [bits_Div64.j1] at h⟩
  | k + 1 => by
    obtain ⟨ih0, ih1, ih2, ih3, ih4⟩ := bits_Div64.mono_l k
    refine ⟨?_, ?_, ?_, ?_, ?_⟩
    · intro y0 y1 y2 y3 y4 y5 y6 y7
      unfold bits_Div64.j2
      repeat' first
      | (with_reducible exact ih0 _ _ _ _ _ _ _ _)
      | (with_reducible exact ih1 _ _ _ _ _ _ _ _ _)
      | (with_reducible exact ih2 _ _ _ _ _ _ _ _ _ _)
      | (with_reducible exact ih3 _ _ _ _ _ _ _ _ _)
      | (with_reducible exact ih4 _ _ _ _ _ _ _ _ _ _)
      | (with_reducible exact bits_LeadingZeros64.mono _ _)
      | (with_reducible exact LeO.refl _)
      | (with_reducible exact LeO.none _)
      | (with_reducible refine LeO.ite ?_ ?_)
      | (with_reducible refine LeO.bind ?_ (fun _ => ?_))
      | exact ih0 _ _ _ _ _ _ _ _
      | exact ih1 _ _ _ _ _ _ _ _ _
      | exact ih2 _ _ _ _ _ _ _ _ _ _
      | exact ih3 _ _ _ _ _ _ _ _ _
      | exact ih4 _ _ _ _ _ _ _ _ _ _
      | exact bits_LeadingZeros64.mono _ _
      | exact LeO.none _
      | refine LeO.ite ?_ ?_
      | refine LeO.bind ?_ (fun _ => ?_)
    · intro y0 y1 y2 y3 y4 y5 y6 y7 y8
      unfold bits_Div64.l1
      repeat' first
      | (with_reducible exact ih0 _ _ _ _ _ _ _ _)
      | (with_reducible exact ih1 _ _ _ _ _ _ _ _ _)
      | (with_reducible exact ih2 _ _ _ _ _ _ _ _ _ _)
      | (with_reducible exact ih3 _ _ _ _ _ _ _ _ _)
      | (with_reducible exact ih4 _ _ _ _ _ _ _ _ _ _)
      | (with_reducible exact bits_LeadingZeros64.mono _ _)
      | (with_reducible exact LeO.refl _)
      | (with_reducible exact LeO.none _)
      | (with_reducible refine LeO.ite ?_ ?_)
      | (with_reducible refine LeO.bind ?_ (fun _ => ?_))
      | exact ih0 _ _ _ _ _ _ _ _
      | exact ih1 _ _ _ _ _ _ _ _ _
      | exact ih2 _ _ _ _ _ _ _ _ _ _
      | exact ih3 _ _ _ _ _ _ _ _ _
      | exact ih4 _ _ _ _ _ _ _ _ _ _
      | exact bits_LeadingZeros64.mono _ _
      | exact LeO.none _
      | refine LeO.ite ?_ ?_
      | refine LeO.bind ?_ (fun _ => ?_)
    · intro y0 y1 y2 y3 y4 y5 y6 y7 y8 y9
      unfold bits_Div64.j4
      repeat' first
      | (with_reducible exact ih0 _ _ _ _ _ _ _ _)
      | (with_reducible exact ih1 _ _ _ _ _ _ _ _ _)
      | (with_reducible exact ih2 _ _ _ _ _ _ _ _ _ _)
      | (with_reducible exact ih3 _ _ _ _ _ _ _ _ _)
      | (with_reducible exact ih4 _ _ _ _ _ _ _ _ _ _)
      | (with_reducible exact bits_LeadingZeros64.mono _ _)
      | (with_reducible exact LeO.refl _)
      | (with_reducible exact LeO.none _)
      | (with_reducible refine LeO.ite ?_ ?_)
      | (with_reducible refine LeO.bind ?_ (fun _ => ?_))
      | exact ih0 _ _ _ _ _ _ _ _
      | exact ih1 _ _ _ _ _ _ _ _ _
      | exact ih2 _ _ _ _ _ _ _ _ _ _
      | exact ih3 _ _ _ _ _ _ _ _ _
      | exact ih4 _ _ _ _ _ _ _ _ _ _
      | exact bits_LeadingZeros64.mono _ _
      | exact LeO.none _
      | refine LeO.ite ?_ ?_
      | refine LeO.bind ?_ (fun _ => ?_)
    · intro y0 y1 y2 y3 y4 y5 y6 y7 y8
      unfold bits_Div64.l0
      repeat' first
      | (with_reducible exact ih0 _ _ _ _ _ _ _ _)
      | (with_reducible exact ih1 _ _ _ _ _ _ _ _ _)
      | (with_reducible exact ih2 _ _ _ _ _ _ _ _ _ _)
      | (with_reducible exact ih3 _ _ _ _ _ _ _ _ _)
      | (with_reducible exact ih4 _ _ _ _ _ _ _ _ _ _)
      | (with_reducible exact bits_LeadingZeros64.mono _ _)
      | (with_reducible exact LeO.refl _)
      | (with_reducible exact LeO.none _)
      | (with_reducible refine LeO.ite ?_ ?_)
      | (with_reducible refine LeO.bind ?_ (fun _ => ?_))
      | exact ih0 _ _ _ _ _ _ _ _
      | exact ih1 _ _ _ _ _ _ _ _ _
      | exact ih2 _ _ _ _ _ _ _ _ _ _
      | exact ih3 _ _ _ _ _ _ _ _ _
      | exact ih4 _ _ _ _ _ _ _ _ _ _
      | exact bits_LeadingZeros64.mono _ _
      | exact LeO.none _
      | refine LeO.ite ?_ ?_
      | refine LeO.bind ?_ (fun _ => ?_)
    · intro y0 y1 y2 y3 y4 y5 y6 y7 y8 y9
      unfold bits_Div64.j1
      repeat' first
      | (with_reducible exact ih0 _ _ _ _ _ _ _ _)
      | (with_reducible exact ih1 _ _ _ _ _ _ _ _ _)
      | (with_reducible exact ih2 _ _ _ _ _ _ _ _ _ _)
      | (with_reducible exact ih3 _ _ _ _ _ _ _ _ _)
      | (with_reducible exact ih4 _ _ _ _ _ _ _ _ _ _)
      | (with_reducible exact bits_LeadingZeros64.mono _ _)
      | (with_reducible exact LeO.refl _)
      | (with_reducible exact LeO.none _)
      | (with_reducible refine LeO.ite ?_ ?_)
      | (with_reducible refine LeO.bind ?_ (fun _ => ?_))
      | exact ih0 _ _ _ _ _ _ _ _
      | exact ih1 _ _ _ _ _ _ _ _ _
      | exact ih2 _ _ _ _ _ _ _ _ _ _
      | exact ih3 _ _ _ _ _ _ _ _ _
      | exact ih4 _ _ _ _ _ _ _ _ _ _
      | exact bits_LeadingZeros64.mono _ _
      | exact LeO.none _
      | refine LeO.ite ?_ ?_
      | refine LeO.bind ?_ (fun _ => ?_)
theorem bits_Div64.mono : ∀ a0 a1 a2 k, LeO (bits_Div64.f k a0 a1 a2) (bits_Div64.f (k + 1) a0 a1 a2) := by
  intro a0 a1 a2 k
  obtain ⟨ih0, ih1, ih2, ih3, ih4⟩ := bits_Div64.mono_l k
  unfold bits_Div64.f
  repeat' first
      | (with_reducible exact ih0 _ _ _ _ _ _ _ _)
      | (with_reducible exact ih1 _ _ _ _ _ _ _ _ _)
      | (with_reducible exact ih2 _ _ _ _ _ _ _ _ _ _)
      | (with_reducible exact ih3 _ _ _ _ _ _ _ _ _)
      | (with_reducible exact ih4 _ _ _ _ _ _ _ _ _ _)
      | (with_reducible exact bits_LeadingZeros64.mono _ _)
      | (with_reducible exact LeO.refl _)
      | (with_reducible exact LeO.none _)
      | (with_reducible refine LeO.ite ?_ ?_)
      | (with_reducible refine LeO.bind ?_ (fun _ => ?_))
      | exact ih0 _ _ _ _ _ _ _ _
      | exact ih1 _ _ _ _ _ _ _ _ _
      | exact ih2 _ _ _ _ _ _ _ _ _ _
      | exact ih3 _ _ _ _ _ _ _ _ _
      | exact ih4 _ _ _ _ _ _ _ _ _ _
      | exact bits_LeadingZeros64.mono _ _
      | exact LeO.none _
      | refine LeO.ite ?_ ?_
      | refine LeO.bind ?_ (fun _ => ?_)
def half_Over.f (k : Nat) (a0_0 : Int) (a0_1 : Int) (a1 : Int) : Option (Int × Int × Int) := if a1 = 0 then (some (0, 0, 5)) else (if a0_0 ≥ a1 then (some (0, 0, 4)) else ((bits_Div64.f k a0_0 a0_1 a1).bind fun bt123 => (some (bt123.1, bt123.2, 0))))
theorem half_Over.mono : ∀ a0 a1 a2 k, LeO (half_Over.f k a0 a1 a2) (half_Over.f (k + 1) a0 a1 a2) := by
  intro a0 a1 a2 k
  unfold half_Over.f
  repeat' first
      | (with_reducible exact bits_Div64.mono _ _ _ _)
      | (with_reducible exact LeO.refl _)
      | (with_reducible exact LeO.none _)
      | (with_reducible refine LeO.ite ?_ ?_)
      | (with_reducible refine LeO.bind ?_ (fun _ => ?_))
      | exact bits_Div64.mono _ _ _ _
      | exact LeO.none _
      | refine LeO.ite ?_ ?_
      | refine LeO.bind ?_ (fun _ => ?_)
def half_up.f (a0 : Int) (a1 : Int) (a2 : Int) : Option (Bool) := if a1 > (IntKind.u64.wrap (a2 - a1)) then (some true) else (if a1 = (IntKind.u64.wrap (a2 - a1)) then (some ((Int.tmod a0 2) == 1)) else (some false))
def half_Near.j0 : Nat → Int → Int → Bool → Option (Int × Int)
  | 0, _, _, _ => none
  | k + 1, x6, x8, x24 => if x24 = true then (some (x6, x8)) else (if (IntKind.u64.wrap (x6 + 1)) = 0 then (some (0, 4)) else (some (IntKind.u64.wrap (x6 + 1), 0)))
def half_Near.f (k : Nat) (a0_0 : Int) (a0_1 : Int) (a1 : Int) : Option (Int × Int) := (half_Over.f k a0_0 a0_1 a1).bind fun bt126 => (if bt126.2.2 = 0 then ((half_up.f bt126.1 bt126.2.1 a1).bind fun t129 => (half_Near.j0 k bt126.1 bt126.2.2 (!t129))) else (half_Near.j0 k bt126.1 bt126.2.2 true))
theorem half_Near.mono_l : ∀ k, (∀ y0 y1 y2, LeO (half_Near.j0 k y0 y1 y2) (half_Near.j0 (k + 1) y0 y1 y2))
  | 0 => fun _ _ _ r h => by simp [half_Near.j0] at h
  | k + 1 => by
    have ih0 := half_Near.mono_l k
    · intro y0 y1 y2
      unfold half_Near.j0
      repeat' first
      | (with_reducible exact ih0 _ _ _)
      | (with_reducible exact half_Over.mono _ _ _ _)
      | (with_reducible exact LeO.refl _)
      | (with_reducible exact LeO.none _)
      | (with_reducible refine LeO.ite ?_ ?_)
      | (with_reducible refine LeO.bind ?_ (fun _ => ?_))
      | exact ih0 _ _ _
      | exact half_Over.mono _ _ _ _
      | exact LeO.none _
      | refine LeO.ite ?_ ?_
      | refine LeO.bind ?_ (fun _ => ?_)
theorem half_Near.mono : ∀ a0 a1 a2 k, LeO (half_Near.f k a0 a1 a2) (half_Near.f (k + 1) a0 a1 a2) := by
  intro a0 a1 a2 k
  have ih0 := half_Near.mono_l k
  unfold half_Near.f
  repeat' first
      | (with_reducible exact ih0 _ _ _)
      | (with_reducible exact half_Over.mono _ _ _ _)
      | (with_reducible exact LeO.refl _)
      | (with_reducible exact LeO.none _)
      | (with_reducible refine LeO.ite ?_ ?_)
      | (with_reducible refine LeO.bind ?_ (fun _ => ?_))
      | exact ih0 _ _ _
      | exact half_Over.mono _ _ _ _
      | exact LeO.none _
      | refine LeO.ite ?_ ?_
      | refine LeO.bind ?_ (fun _ => ?_)
def dec_power.l0 : Nat → Int → Int → Int → Option (Int)
  | 0, _, _, _ => none
  | k + 1, x3, x4, x5 => if x5 < x4 then (dec_power.l0 k (IntKind.u64.wrap (x3 * 10)) x4 (wrap64 (x5 + 1))) else (some x3)
def dec_power.f (k : Nat) (a0 : Int) : Option (Int) := dec_power.l0 k 1 a0 0
theorem dec_power.mono_l : ∀ k, (∀ y0 y1 y2, LeO (dec_power.l0 k y0 y1 y2) (dec_power.l0 (k + 1) y0 y1 y2))
  | 0 => fun _ _ _ r h => by simp [dec_power.l0] at h
  | k + 1 => by
    have ih0 := dec_power.mono_l k
    · intro y0 y1 y2
      unfold dec_power.l0
      repeat' first
      | (with_reducible exact ih0 _ _ _)
      | (with_reducible exact LeO.refl _)
      | (with_reducible exact LeO.none _)
      | (with_reducible refine LeO.ite ?_ ?_)
      | (with_reducible refine LeO.bind ?_ (fun _ => ?_))
      | exact ih0 _ _ _
      | exact LeO.none _
      | refine LeO.ite ?_ ?_
      | refine LeO.bind ?_ (fun _ => ?_)
theorem dec_power.mono : ∀ a0 k, LeO (dec_power.f k a0) (dec_power.f (k + 1) a0) := by
  intro a0 k
  have ih0 := dec_power.mono_l k
  unfold dec_power.f
  repeat' first
      | (with_reducible exact ih0 _ _ _)
      | (with_reducible exact LeO.refl _)
      | (with_reducible exact LeO.none _)
      | (with_reducible refine LeO.ite ?_ ?_)
      | (with_reducible refine LeO.bind ?_ (fun _ => ?_))
      | exact ih0 _ _ _
      | exact LeO.none _
      | refine LeO.ite ?_ ?_
      | refine LeO.bind ?_ (fun _ => ?_)
def pair_held.f (a0 : Int) : Option (Int) := some (mn (mx a0 0) 128)
def pair_Shr.f (a0_0 : Int) (a0_1 : Int) (a1 : Int) : Option (Int × Int) := (pair_held.f a1).bind fun t132 => (if (IntKind.u64.wrap (t132)) ≥ 64 then (if 0 ≤ (IntKind.u64.wrap ((IntKind.u64.wrap (t132)) - 64)) then (some (0, shr .u64 a0_0 (IntKind.u64.wrap ((IntKind.u64.wrap (t132)) - 64)))) else (none)) else (if 0 ≤ (IntKind.u64.wrap (t132)) then (if 0 ≤ (IntKind.u64.wrap (64 - (IntKind.u64.wrap (t132)))) then (some (shr .u64 a0_0 (IntKind.u64.wrap (t132)), Go.bits .or .u64 (shr .u64 a0_1 (IntKind.u64.wrap (t132))) (shl .u64 a0_0 (IntKind.u64.wrap (64 - (IntKind.u64.wrap (t132))))))) else (none)) else (none)))
def pair_Shl.f (a0_0 : Int) (a0_1 : Int) (a1 : Int) : Option (Int × Int × Bool) := (pair_held.f a1).bind fun t135 => (if 0 ≤ (IntKind.u64.wrap (t135)) then (if 0 ≤ (IntKind.u64.wrap (64 - (IntKind.u64.wrap (t135)))) then (if (IntKind.u64.wrap (t135)) ≥ 64 then (if 0 ≤ (IntKind.u64.wrap ((IntKind.u64.wrap (t135)) - 64)) then ((pair_Shr.f (shl .u64 a0_1 (IntKind.u64.wrap ((IntKind.u64.wrap (t135)) - 64))) 0 a1).bind fun bt137 => (some (shl .u64 a0_1 (IntKind.u64.wrap ((IntKind.u64.wrap (t135)) - 64)), 0, (bt137.1 == a0_0 && (bt137.2 == a0_1))))) else (none)) else ((pair_Shr.f (Go.bits .or .u64 (shl .u64 a0_0 (IntKind.u64.wrap (t135))) (shr .u64 a0_1 (IntKind.u64.wrap (64 - (IntKind.u64.wrap (t135)))))) (shl .u64 a0_1 (IntKind.u64.wrap (t135))) a1).bind fun bt139 => (some (Go.bits .or .u64 (shl .u64 a0_0 (IntKind.u64.wrap (t135))) (shr .u64 a0_1 (IntKind.u64.wrap (64 - (IntKind.u64.wrap (t135))))), shl .u64 a0_1 (IntKind.u64.wrap (t135)), (bt139.1 == a0_0 && (bt139.2 == a0_1)))))) else (none)) else (none))
def dec_fraction.f (k : Nat) (a0 : Int) (a1 : Int) : Option (Int) := (pair_Shl.f 0 a0 32).bind fun bt141 => ((dec_power.f k a1).bind fun t145 => ((half_Near.f k bt141.1 bt141.2.1 t145).bind fun bt146 => (some bt146.1)))
theorem dec_fraction.mono : ∀ a0 a1 k, LeO (dec_fraction.f k a0 a1) (dec_fraction.f (k + 1) a0 a1) := by
  intro a0 a1 k
  unfold dec_fraction.f
  repeat' first
      | (with_reducible exact dec_power.mono _ _)
      | (with_reducible exact half_Near.mono _ _ _ _)
      | (with_reducible exact LeO.refl _)
      | (with_reducible exact LeO.none _)
      | (with_reducible refine LeO.ite ?_ ?_)
      | (with_reducible refine LeO.bind ?_ (fun _ => ?_))
      | exact dec_power.mono _ _
      | exact half_Near.mono _ _ _ _
      | exact LeO.none _
      | refine LeO.ite ?_ ?_
      | refine LeO.bind ?_ (fun _ => ?_)
def half_Shift.f (k : Nat) (a0_0 : Int) (a0_1 : Int) (a1 : Int) : Option (Int × Int) := (pair_Shl.f 0 1 (mn (mx a1 0) 63)).bind fun bt149 => ((half_Near.f k a0_0 a0_1 bt149.2.1).bind fun bt153 => (some (bt153.1, bt153.2)))
theorem half_Shift.mono : ∀ a0 a1 a2 k, LeO (half_Shift.f k a0 a1 a2) (half_Shift.f (k + 1) a0 a1 a2) := by
  intro a0 a1 a2 k
  unfold half_Shift.f
  repeat' first
      | (with_reducible exact half_Near.mono _ _ _ _)
      | (with_reducible exact LeO.refl _)
      | (with_reducible exact LeO.none _)
      | (with_reducible refine LeO.ite ?_ ?_)
      | (with_reducible refine LeO.bind ?_ (fun _ => ?_))
      | exact half_Near.mono _ _ _ _
      | exact LeO.none _
      | refine LeO.ite ?_ ?_
      | refine LeO.bind ?_ (fun _ => ?_)
def pair_Mul.f (a0 : Int) (a1 : Int) : Option (Int × Int) := some (IntKind.u64.wrap ((IntKind.u64.wrap ((IntKind.u64.wrap ((IntKind.u64.wrap ((a0 / 4294967296) * (a1 / 4294967296))) + ((IntKind.u64.wrap ((a0 / 4294967296) * (Go.bits .and .u64 a1 4294967295))) / 4294967296))) + ((IntKind.u64.wrap ((Go.bits .and .u64 a0 4294967295) * (a1 / 4294967296))) / 4294967296))) + ((IntKind.u64.wrap ((IntKind.u64.wrap (((IntKind.u64.wrap ((Go.bits .and .u64 a0 4294967295) * (Go.bits .and .u64 a1 4294967295))) / 4294967296) + (Go.bits .and .u64 (IntKind.u64.wrap ((a0 / 4294967296) * (Go.bits .and .u64 a1 4294967295))) 4294967295))) + (Go.bits .and .u64 (IntKind.u64.wrap ((Go.bits .and .u64 a0 4294967295) * (a1 / 4294967296))) 4294967295))) / 4294967296)), Go.bits .or .u64 (IntKind.u64.wrap ((IntKind.u64.wrap ((IntKind.u64.wrap (((IntKind.u64.wrap ((Go.bits .and .u64 a0 4294967295) * (Go.bits .and .u64 a1 4294967295))) / 4294967296) + (Go.bits .and .u64 (IntKind.u64.wrap ((a0 / 4294967296) * (Go.bits .and .u64 a1 4294967295))) 4294967295))) + (Go.bits .and .u64 (IntKind.u64.wrap ((Go.bits .and .u64 a0 4294967295) * (a1 / 4294967296))) 4294967295))) * 4294967296)) (Go.bits .and .u64 (IntKind.u64.wrap ((Go.bits .and .u64 a0 4294967295) * (Go.bits .and .u64 a1 4294967295))) 4294967295))
def strings_Repeat.f (a0 : ByteArray) (a1 : Int) : Option ByteArray := if 0 ≤ a1 ∧ a1 ≤ 9223372036854775807 ∧ a0.size * a1.toNat ≤ 140737488355328 then some ⟨(Lib.repeatL a0.data.toList a1.toNat).toArray⟩ else none
def dec_behind.l0 : Nat → Int → Int → Option (ByteArray)
  | 0, _, _ => none
  | k + 1, x0, x3 => if x3 ≤ 10 then ((dec_power.f k x3).bind fun t156 => ((pair_Mul.f x0 t156).bind fun bt157 => ((half_Shift.f k bt157.1 bt157.2 32).bind fun bt159 => ((dec_fraction.f k bt159.1 x3).bind fun t161 => (if t161 = x0 then ((num_Tell.f k (wrap64 (bt159.1))).bind fun t162 => ((strings_Repeat.f (⟨#[48]⟩ : ByteArray) (wrap64 (x3 - (t162.size : Int)))).bind fun t163 => (if t163.size + t162.size ≤ 9223372036854775807 then (some (t163 ++ t162)) else (none)))) else (dec_behind.l0 k x0 (wrap64 (x3 + 1)))))))) else (some (⟨#[]⟩ : ByteArray))
def dec_behind.f (k : Nat) (a0 : Int) : Option (ByteArray) := dec_behind.l0 k a0 1
theorem dec_behind.mono_l : ∀ k, (∀ y0 y1, LeO (dec_behind.l0 k y0 y1) (dec_behind.l0 (k + 1) y0 y1))
  | 0 => fun _ _ r h => by simp [dec_behind.l0] at h
  | k + 1 => by
    have ih0 := dec_behind.mono_l k
    · intro y0 y1
      unfold dec_behind.l0
      repeat' first
      | (with_reducible exact ih0 _ _)
      | (with_reducible exact dec_fraction.mono _ _ _)
      | (with_reducible exact dec_power.mono _ _)
      | (with_reducible exact half_Shift.mono _ _ _ _)
      | (with_reducible exact num_Tell.mono _ _)
      | (with_reducible exact LeO.refl _)
      | (with_reducible exact LeO.none _)
      | (with_reducible refine LeO.ite ?_ ?_)
      | (with_reducible refine LeO.bind ?_ (fun _ => ?_))
      | exact ih0 _ _
      | exact dec_fraction.mono _ _ _
      | exact dec_power.mono _ _
      | exact half_Shift.mono _ _ _ _
      | exact num_Tell.mono _ _
      | exact LeO.none _
      | refine LeO.ite ?_ ?_
      | refine LeO.bind ?_ (fun _ => ?_)
theorem dec_behind.mono : ∀ a0 k, LeO (dec_behind.f k a0) (dec_behind.f (k + 1) a0) := by
  intro a0 k
  have ih0 := dec_behind.mono_l k
  unfold dec_behind.f
  repeat' first
      | (with_reducible exact ih0 _ _)
      | (with_reducible exact dec_fraction.mono _ _ _)
      | (with_reducible exact dec_power.mono _ _)
      | (with_reducible exact half_Shift.mono _ _ _ _)
      | (with_reducible exact num_Tell.mono _ _)
      | (with_reducible exact LeO.refl _)
      | (with_reducible exact LeO.none _)
      | (with_reducible refine LeO.ite ?_ ?_)
      | (with_reducible refine LeO.bind ?_ (fun _ => ?_))
      | exact ih0 _ _
      | exact dec_fraction.mono _ _ _
      | exact dec_power.mono _ _
      | exact half_Shift.mono _ _ _ _
      | exact num_Tell.mono _ _
      | exact LeO.none _
      | refine LeO.ite ?_ ?_
      | refine LeO.bind ?_ (fun _ => ?_)
def dec_Put.f (k : Nat) (a0 : Int) : Option (ByteArray) := (fix_Size.f a0).bind fun t164 => ((num_Tell.f k (wrap64 (t164 / 4294967296))).bind fun t165 => (if a0 < 0 then (if 1 + t165.size ≤ 9223372036854775807 then (if (Go.bits .and .u64 t164 4294967295) = 0 then (some ((⟨#[45]⟩ : ByteArray) ++ t165)) else ((dec_behind.f k (Go.bits .and .u64 t164 4294967295)).bind fun t166 => (if 1 + t166.size ≤ 9223372036854775807 then (if ((⟨#[45]⟩ : ByteArray) ++ t165).size + ((⟨#[46]⟩ : ByteArray) ++ t166).size ≤ 9223372036854775807 then (some (((⟨#[45]⟩ : ByteArray) ++ t165) ++ ((⟨#[46]⟩ : ByteArray) ++ t166))) else (none)) else (none)))) else (none)) else (if (Go.bits .and .u64 t164 4294967295) = 0 then (some t165) else ((dec_behind.f k (Go.bits .and .u64 t164 4294967295)).bind fun t167 => (if 1 + t167.size ≤ 9223372036854775807 then (if t165.size + ((⟨#[46]⟩ : ByteArray) ++ t167).size ≤ 9223372036854775807 then (some (t165 ++ ((⟨#[46]⟩ : ByteArray) ++ t167))) else (none)) else (none))))))
theorem dec_Put.mono : ∀ a0 k, LeO (dec_Put.f k a0) (dec_Put.f (k + 1) a0) := by
  intro a0 k
  unfold dec_Put.f
  repeat' first
      | (with_reducible exact dec_behind.mono _ _)
      | (with_reducible exact num_Tell.mono _ _)
      | (with_reducible exact LeO.refl _)
      | (with_reducible exact LeO.none _)
      | (with_reducible refine LeO.ite ?_ ?_)
      | (with_reducible refine LeO.bind ?_ (fun _ => ?_))
      | exact dec_behind.mono _ _
      | exact num_Tell.mono _ _
      | exact LeO.none _
      | refine LeO.ite ?_ ?_
      | refine LeO.bind ?_ (fun _ => ?_)
def fix_Signed.j0 : Nat → Int → Bool → Bool → Option (Int × Int)
  | 0, _, _, _ => none
  | k + 1, x0, x1, x6 => if x6 = true then (some (wrap64 (IntKind.u64.wrap (-x0)), 0)) else (if x1 = true then (some (0, 4)) else (if x0 < 9223372036854775808 then (some (wrap64 (x0), 0)) else (some (0, 4))))
def fix_Signed.f (k : Nat) (a0 : Int) (a1 : Bool) : Option (Int × Int) := if a1 = true then (fix_Signed.j0 k a0 a1 (decide (a0 ≤ 9223372036854775808))) else (fix_Signed.j0 k a0 a1 false)
theorem fix_Signed.mono_l : ∀ k, (∀ y0 y1 y2, LeO (fix_Signed.j0 k y0 y1 y2) (fix_Signed.j0 (k + 1) y0 y1 y2))
  | 0 => fun _ _ _ r h => by simp [fix_Signed.j0] at h
  | k + 1 => by
    have ih0 := fix_Signed.mono_l k
    · intro y0 y1 y2
      unfold fix_Signed.j0
      repeat' first
      | (with_reducible exact ih0 _ _ _)
      | (with_reducible exact LeO.refl _)
      | (with_reducible exact LeO.none _)
      | (with_reducible refine LeO.ite ?_ ?_)
      | (with_reducible refine LeO.bind ?_ (fun _ => ?_))
      | exact ih0 _ _ _
      | exact LeO.none _
      | refine LeO.ite ?_ ?_
      | refine LeO.bind ?_ (fun _ => ?_)
theorem fix_Signed.mono : ∀ a0 a1 k, LeO (fix_Signed.f k a0 a1) (fix_Signed.f (k + 1) a0 a1) := by
  intro a0 a1 k
  have ih0 := fix_Signed.mono_l k
  unfold fix_Signed.f
  repeat' first
      | (with_reducible exact ih0 _ _ _)
      | (with_reducible exact LeO.refl _)
      | (with_reducible exact LeO.none _)
      | (with_reducible refine LeO.ite ?_ ?_)
      | (with_reducible refine LeO.bind ?_ (fun _ => ?_))
      | exact ih0 _ _ _
      | exact LeO.none _
      | refine LeO.ite ?_ ?_
      | refine LeO.bind ?_ (fun _ => ?_)
def dec_parted.j0 : Nat → Bool → ByteArray → ByteArray → Bool → Option (Bool × ByteArray × ByteArray × Bool)
  | 0, _, _, _, _ => none
  | k + 1, x2, x3, x7, x32 => if x32 = true then (some (false, (⟨#[]⟩ : ByteArray), (⟨#[]⟩ : ByteArray), false)) else (if x7.toList = ([] : List UInt8) then (some (x2, x3, (⟨#[]⟩ : ByteArray), true)) else ((strings_CutPrefix.f x7 (⟨#[46]⟩ : ByteArray)).bind fun bt171 => (if bt171.2 = true then (if bt171.1.toList = ([] : List UInt8) then (some (false, (⟨#[]⟩ : ByteArray), (⟨#[]⟩ : ByteArray), false)) else ((num_Lead.f k bt171.1).bind fun t173 => (if t173 < (bt171.1.size : Int) then (some (false, (⟨#[]⟩ : ByteArray), (⟨#[]⟩ : ByteArray), false)) else (some (x2, x3, bt171.1, true))))) else (some (false, (⟨#[]⟩ : ByteArray), (⟨#[]⟩ : ByteArray), false)))))
def dec_parted.f (k : Nat) (a0 : ByteArray) : Option (Bool × ByteArray × ByteArray × Bool) := (strings_CutPrefix.f a0 (⟨#[45]⟩ : ByteArray)).bind fun bt168 => ((num_Lead.f k bt168.1).bind fun t170 => (if 0 ≤ t170 then (if t170 ≤ (bt168.1.size : Int) then (if t170 = 0 then (dec_parted.j0 k bt168.2 (bt168.1.extract 0 (t170 : Int).toNat) (bt168.1.extract (t170 : Int).toNat bt168.1.size) true) else (if t170 > 1 then (if 0 < (bt168.1.size : Int) then (dec_parted.j0 k bt168.2 (bt168.1.extract 0 (t170 : Int).toNat) (bt168.1.extract (t170 : Int).toNat bt168.1.size) ((bt bt168.1 0) == 48)) else (none)) else (dec_parted.j0 k bt168.2 (bt168.1.extract 0 (t170 : Int).toNat) (bt168.1.extract (t170 : Int).toNat bt168.1.size) false))) else (none)) else (none)))
theorem dec_parted.mono_l : ∀ k, (∀ y0 y1 y2 y3, LeO (dec_parted.j0 k y0 y1 y2 y3) (dec_parted.j0 (k + 1) y0 y1 y2 y3))
  | 0 => fun _ _ _ _ r h => by simp [dec_parted.j0] at h
  | k + 1 => by
    have ih0 := dec_parted.mono_l k
    · intro y0 y1 y2 y3
      unfold dec_parted.j0
      repeat' first
      | (with_reducible exact ih0 _ _ _ _)
      | (with_reducible exact num_Lead.mono _ _)
      | (with_reducible exact LeO.refl _)
      | (with_reducible exact LeO.none _)
      | (with_reducible refine LeO.ite ?_ ?_)
      | (with_reducible refine LeO.bind ?_ (fun _ => ?_))
      | exact ih0 _ _ _ _
      | exact num_Lead.mono _ _
      | exact LeO.none _
      | refine LeO.ite ?_ ?_
      | refine LeO.bind ?_ (fun _ => ?_)
theorem dec_parted.mono : ∀ a0 k, LeO (dec_parted.f k a0) (dec_parted.f (k + 1) a0) := by
  intro a0 k
  have ih0 := dec_parted.mono_l k
  unfold dec_parted.f
  repeat' first
      | (with_reducible exact ih0 _ _ _ _)
      | (with_reducible exact num_Lead.mono _ _)
      | (with_reducible exact LeO.refl _)
      | (with_reducible exact LeO.none _)
      | (with_reducible refine LeO.ite ?_ ?_)
      | (with_reducible refine LeO.bind ?_ (fun _ => ?_))
      | exact ih0 _ _ _ _
      | exact num_Lead.mono _ _
      | exact LeO.none _
      | refine LeO.ite ?_ ?_
      | refine LeO.bind ?_ (fun _ => ?_)
def dec_count.l0 : Nat → Int → List Int → Int → Int → Option (Int)
  | 0, _, _, _, _ => none
  | k + 1, x3, x7, x8, x9 => if x9 < x8 then (if 0 ≤ x9 then (if x9 < (x7.length : Int) then (dec_count.l0 k (IntKind.u64.wrap ((IntKind.u64.wrap (10 * x3)) + (((rd x7 x9) - 48) % 256))) x7 x8 (wrap64 (x9 + 1))) else (none)) else (none)) else (some x3)
def dec_count.g (k : Nat) (a0 : ByteArray) (l1 : List Int) : Option (Int) := dec_count.l0 k 0 l1 (l1.length : Int) 0
theorem dec_count.mono_l : ∀ k, (∀ y0 y1 y2 y3, LeO (dec_count.l0 k y0 y1 y2 y3) (dec_count.l0 (k + 1) y0 y1 y2 y3))
  | 0 => fun _ _ _ _ r h => by simp [dec_count.l0] at h
  | k + 1 => by
    have ih0 := dec_count.mono_l k
    · intro y0 y1 y2 y3
      unfold dec_count.l0
      repeat' first
      | (with_reducible exact ih0 _ _ _ _)
      | (with_reducible exact LeO.refl _)
      | (with_reducible exact LeO.none _)
      | (with_reducible refine LeO.ite ?_ ?_)
      | (with_reducible refine LeO.bind ?_ (fun _ => ?_))
      | exact ih0 _ _ _ _
      | exact LeO.none _
      | refine LeO.ite ?_ ?_
      | refine LeO.bind ?_ (fun _ => ?_)
theorem dec_count.gmono : ∀ a0 a1 k, LeO (dec_count.g k a0 a1) (dec_count.g (k + 1) a0 a1) := by
  intro a0 a1 k
  have ih0 := dec_count.mono_l k
  unfold dec_count.g
  repeat' first
      | (with_reducible exact ih0 _ _ _ _)
      | (with_reducible exact LeO.refl _)
      | (with_reducible exact LeO.none _)
      | (with_reducible refine LeO.ite ?_ ?_)
      | (with_reducible refine LeO.bind ?_ (fun _ => ?_))
      | exact ih0 _ _ _ _
      | exact LeO.none _
      | refine LeO.ite ?_ ?_
      | refine LeO.bind ?_ (fun _ => ?_)
def dec_count.f (k : Nat) (a0 : ByteArray) : Option (Int) := if a0.size ≤ 9223372036854775807 then dec_count.g k a0 (numsOf a0) else none
theorem dec_count.mono : ∀ a0 k, LeO (dec_count.f k a0) (dec_count.f (k + 1) a0) := by
  intro a0 k
  unfold dec_count.f
  exact LeO.ite (dec_count.gmono a0 (numsOf a0) k) (LeO.none _)
def dec_Get.f (k : Nat) (a0 : ByteArray) : Option (Int × Int) := (dec_parted.f k a0).bind fun bt175 => (if bt175.2.2.2 = true then (if (bt175.2.2.1.size : Int) > 19 then (some (0, 6)) else (if (bt175.2.1.size : Int) > 10 then (some (0, 3)) else ((dec_count.f k bt175.2.1).bind fun t179 => (if t179 > 2147483648 then (some (0, 3)) else ((dec_count.f k bt175.2.1).bind fun t180 => ((dec_count.f k bt175.2.2.1).bind fun t181 => ((dec_fraction.f k t181 (bt175.2.2.1.size : Int)).bind fun t182 => ((fix_Signed.f k (IntKind.u64.wrap ((IntKind.u64.wrap (t180 * 4294967296)) + t182)) bt175.1).bind fun bt183 => (if bt183.2 = 0 then (some (bt183.1, 0)) else (some (0, 3))))))))))) else (some (0, 2)))
theorem dec_Get.mono : ∀ a0 k, LeO (dec_Get.f k a0) (dec_Get.f (k + 1) a0) := by
  intro a0 k
  unfold dec_Get.f
  repeat' first
      | (with_reducible exact dec_count.mono _ _)
      | (with_reducible exact dec_fraction.mono _ _ _)
      | (with_reducible exact dec_parted.mono _ _)
      | (with_reducible exact fix_Signed.mono _ _ _)
      | (with_reducible exact LeO.refl _)
      | (with_reducible exact LeO.none _)
      | (with_reducible refine LeO.ite ?_ ?_)
      | (with_reducible refine LeO.bind ?_ (fun _ => ?_))
      | exact dec_count.mono _ _
      | exact dec_fraction.mono _ _ _
      | exact dec_parted.mono _ _
      | exact fix_Signed.mono _ _ _
      | exact LeO.none _
      | refine LeO.ite ?_ ?_
      | refine LeO.bind ?_ (fun _ => ?_)
def trace_value.f (k : Nat) (a0 : ByteArray) : Option (Int × Bool) := (dec_Get.f k a0).bind fun bt185 => (if bt185.2 = 0 then ((dec_Put.f k bt185.1).bind fun t187 => (some (bt185.1, (t187.toList == a0.toList)))) else (some (bt185.1, false)))
theorem trace_value.mono : ∀ a0 k, LeO (trace_value.f k a0) (trace_value.f (k + 1) a0) := by
  intro a0 k
  unfold trace_value.f
  repeat' first
      | (with_reducible exact dec_Get.mono _ _)
      | (with_reducible exact dec_Put.mono _ _)
      | (with_reducible exact LeO.refl _)
      | (with_reducible exact LeO.none _)
      | (with_reducible refine LeO.ite ?_ ?_)
      | (with_reducible refine LeO.bind ?_ (fun _ => ?_))
      | exact dec_Get.mono _ _
      | exact dec_Put.mono _ _
      | exact LeO.none _
      | refine LeO.ite ?_ ?_
      | refine LeO.bind ?_ (fun _ => ?_)
def events_Word.f (a0 : Int) : Option ByteArray := if 0 ≤ a0 ∧ a0 < 12 then some (rdOf ByteArray.empty ([(⟨#[]⟩ : ByteArray), (⟨#[112, 104, 97, 115, 101]⟩ : ByteArray), (⟨#[116, 104, 97, 119]⟩ : ByteArray), (⟨#[102, 114, 101, 101, 122, 101]⟩ : ByteArray), (⟨#[115, 119, 97]⟩ : ByteArray), (⟨#[102, 97, 105, 108]⟩ : ByteArray), (⟨#[109, 105, 115, 115]⟩ : ByteArray), (⟨#[107, 101, 101, 112]⟩ : ByteArray), (⟨#[100, 114, 111, 112]⟩ : ByteArray), (⟨#[99, 117, 116]⟩ : ByteArray), (⟨#[115, 116, 111, 112]⟩ : ByteArray), (⟨#[101, 110, 100]⟩ : ByteArray)] : List ByteArray) a0) else some ⟨#[]⟩
def stringslite_Cut.f (a0 : ByteArray) (a1 : ByteArray) : Option (ByteArray × ByteArray × Bool) := (stringslite_Index.f a0 a1).bind fun t193 => (if t193 ≥ 0 then (if 0 ≤ t193 then (if t193 ≤ (a0.size : Int) then (if 0 ≤ (wrap64 (t193 + (a1.size : Int))) then (if (wrap64 (t193 + (a1.size : Int))) ≤ (a0.size : Int) then (some (a0.extract 0 (t193 : Int).toNat, a0.extract ((wrap64 (t193 + (a1.size : Int))) : Int).toNat a0.size, true)) else (none)) else (none)) else (none)) else (none)) else (some (a0, (⟨#[]⟩ : ByteArray), false)))
def strings_Cut.f (a0 : ByteArray) (a1 : ByteArray) : Option (ByteArray × ByteArray × Bool) := (stringslite_Cut.f a0 a1).bind fun bt194 => (some (bt194.1, bt194.2.1, bt194.2.2))
mutual
def events_Parse.j0 : Nat → Int → ByteArray → Int → Bool → Option (Int × Int × Int × Bool)
  | 0, _, _, _, _ => none
  | k + 1, x0, x6, x9, x28 => if x28 = true then (some (0, 0, 0, false)) else (events_Parse.l0 k x0 x6 x9 1)
def events_Parse.l0 : Nat → Int → ByteArray → Int → Int → Option (Int × Int × Int × Bool)
  | 0, _, _, _, _ => none
  | k + 1, x0, x6, x9, x11 => if x11 ≤ 11 then ((events_Word.f x11).bind fun t203 => (if t203.toList = x6.toList then (some (x0, x11, x9, true)) else (events_Parse.l0 k x0 x6 x9 (wrap64 (x11 + 1))))) else (some (0, 0, 0, false))
end
def events_Parse.f (k : Nat) (a0 : Int) (a1 : ByteArray) : Option (Int × Int × Int × Bool) := (strings_Cut.f a1 (⟨#[32]⟩ : ByteArray)).bind fun bt198 => ((num_Get.f k bt198.2.1).bind fun bt201 => (if bt198.2.2 = true then (events_Parse.j0 k a0 bt198.1 bt201.1 (bt201.2 != 0)) else (events_Parse.j0 k a0 bt198.1 bt201.1 true)))
theorem events_Parse.mono_l : ∀ k, (∀ y0 y1 y2 y3, LeO (events_Parse.j0 k y0 y1 y2 y3) (events_Parse.j0 (k + 1) y0 y1 y2 y3)) ∧ (∀ y0 y1 y2 y3, LeO (events_Parse.l0 k y0 y1 y2 y3) (events_Parse.l0 (k + 1) y0 y1 y2 y3))
  | 0 => ⟨fun _ _ _ _ r h => by simp [events_Parse.j0] at h, fun _ _ _ _ r h => by simp [events_Parse.l0] at h⟩
  | k + 1 => by
    obtain ⟨ih0, ih1⟩ := events_Parse.mono_l k
    refine ⟨?_, ?_⟩
    · intro y0 y1 y2 y3
      unfold events_Parse.j0
      repeat' first
      | (with_reducible exact ih0 _ _ _ _)
      | (with_reducible exact ih1 _ _ _ _)
      | (with_reducible exact num_Get.mono _ _)
      | (with_reducible exact LeO.refl _)
      | (with_reducible exact LeO.none _)
      | (with_reducible refine LeO.ite ?_ ?_)
      | (with_reducible refine LeO.bind ?_ (fun _ => ?_))
      | exact ih0 _ _ _ _
      | exact ih1 _ _ _ _
      | exact num_Get.mono _ _
      | exact LeO.none _
      | refine LeO.ite ?_ ?_
      | refine LeO.bind ?_ (fun _ => ?_)
    · intro y0 y1 y2 y3
      unfold events_Parse.l0
      repeat' first
      | (with_reducible exact ih0 _ _ _ _)
      | (with_reducible exact ih1 _ _ _ _)
      | (with_reducible exact num_Get.mono _ _)
      | (with_reducible exact LeO.refl _)
      | (with_reducible exact LeO.none _)
      | (with_reducible refine LeO.ite ?_ ?_)
      | (with_reducible refine LeO.bind ?_ (fun _ => ?_))
      | exact ih0 _ _ _ _
      | exact ih1 _ _ _ _
      | exact num_Get.mono _ _
      | exact LeO.none _
      | refine LeO.ite ?_ ?_
      | refine LeO.bind ?_ (fun _ => ?_)
theorem events_Parse.mono : ∀ a0 a1 k, LeO (events_Parse.f k a0 a1) (events_Parse.f (k + 1) a0 a1) := by
  intro a0 a1 k
  obtain ⟨ih0, ih1⟩ := events_Parse.mono_l k
  unfold events_Parse.f
  repeat' first
      | (with_reducible exact ih0 _ _ _ _)
      | (with_reducible exact ih1 _ _ _ _)
      | (with_reducible exact num_Get.mono _ _)
      | (with_reducible exact LeO.refl _)
      | (with_reducible exact LeO.none _)
      | (with_reducible refine LeO.ite ?_ ?_)
      | (with_reducible refine LeO.bind ?_ (fun _ => ?_))
      | exact ih0 _ _ _ _
      | exact ih1 _ _ _ _
      | exact num_Get.mono _ _
      | exact LeO.none _
      | refine LeO.ite ?_ ?_
      | refine LeO.bind ?_ (fun _ => ?_)
def trace_event.f (k : Nat) (a0 : ByteArray) (a1 : Int) : Option (Int × Int × Int × Bool) := (strings_CutPrefix.f a0 (⟨#[32, 32]⟩ : ByteArray)).bind fun bt205 => (if bt205.2 = true then ((events_Parse.f k a1 bt205.1).bind fun bt207 => (some (bt207.1, bt207.2.1, bt207.2.2.1, bt207.2.2.2))) else (some (0, 0, 0, false)))
theorem trace_event.mono : ∀ a0 a1 k, LeO (trace_event.f k a0 a1) (trace_event.f (k + 1) a0 a1) := by
  intro a0 a1 k
  unfold trace_event.f
  repeat' first
      | (with_reducible exact events_Parse.mono _ _ _)
      | (with_reducible exact LeO.refl _)
      | (with_reducible exact LeO.none _)
      | (with_reducible refine LeO.ite ?_ ?_)
      | (with_reducible refine LeO.bind ?_ (fun _ => ?_))
      | exact events_Parse.mono _ _ _
      | exact LeO.none _
      | refine LeO.ite ?_ ?_
      | refine LeO.bind ?_ (fun _ => ?_)
def trace_count.f (a0 : Int) : Option (Bool) := if a0 ≥ 0 then (some (decide (a0 ≤ 1099511627776))) else (some false)
def regimenref01_Same.l0 : Nat → List Int → List Int → Int → Option (Bool)
  | 0, _, _, _ => none
  | k + 1, x0, x1, x5 => if x5 < (x0.length : Int) then (if 0 ≤ x5 then (if x5 < (x1.length : Int) then (if (rd x0 x5) = (rd x1 x5) then (regimenref01_Same.l0 k x0 x1 (wrap64 (x5 + 1))) else (some false)) else (none)) else (none)) else (some true)
def regimenref01_Same.f (k : Nat) (l0 : List Int) (l1 : List Int) : Option (Bool) := if (l0.length : Int) = (l1.length : Int) then (regimenref01_Same.l0 k l0 l1 0) else (some false)
def regimenref57_count.f (a0 : Int) : Option (Bool) := if a0 ≥ 0 then (some (decide (a0 ≤ 1099511627776))) else (some false)
def strings_Join.f (l0 : List ByteArray) (a1 : ByteArray) : Option ByteArray := if l0.length ≤ 140737488355328 ∧ (Lib.join (l0.map (·.data.toList)) a1.data.toList).length ≤ 140737488355328 then some ⟨(Lib.join (l0.map (·.data.toList)) a1.data.toList).toArray⟩ else none
def output_line.f (l0 : List ByteArray) : Option (ByteArray) := (strings_Join.f l0 (⟨#[32]⟩ : ByteArray)).bind fun t240 => (some t240)
def output_Word.f (a0 : Int) : Option (ByteArray) := if a0 = 0 then (some (⟨#[103, 111, 101, 115]⟩ : ByteArray)) else (if a0 = 1 then (some (⟨#[100, 111, 110, 101]⟩ : ByteArray)) else (if a0 = 2 then (some (⟨#[115, 116, 111, 112, 112, 101, 100]⟩ : ByteArray)) else (if a0 = 3 then (some (⟨#[102, 97, 105, 108, 101, 100]⟩ : ByteArray)) else (some (⟨#[63]⟩ : ByteArray)))))
def output_decimals.l0 : Nat → List ByteArray → List Int → Int → Int → Option (List ByteArray)
  | 0, _, _, _, _ => none
  | k + 1, x3, x6, x7, x8 => if x8 < x7 then (if 0 ≤ x8 then (if x8 < (x6.length : Int) then ((dec_Put.f k (rd x6 x8)).bind fun t242 => (if x3.length < 8796093022208 then (output_decimals.l0 k (x3 ++ [t242]) x6 x7 (wrap64 (x8 + 1))) else (none))) else (none)) else (none)) else (some x3)
def output_decimals.f (k : Nat) (l0 : List Int) : Option (List ByteArray) := output_decimals.l0 k ([] : List ByteArray) l0 (l0.length : Int) 0
def events_Line.f (k : Nat) (a0_0 : Int) (a0_1 : Int) (a0_2 : Int) : Option (ByteArray) := (events_Word.f a0_1).bind fun t266 => (if t266.toList = ([] : List UInt8) then (if 1 + 1 ≤ 9223372036854775807 then ((num_Tell.f k a0_2).bind fun t267 => (if ((⟨#[63]⟩ : ByteArray) ++ (⟨#[32]⟩ : ByteArray)).size + t267.size ≤ 9223372036854775807 then (some (((⟨#[63]⟩ : ByteArray) ++ (⟨#[32]⟩ : ByteArray)) ++ t267)) else (none))) else (none)) else (if t266.size + 1 ≤ 9223372036854775807 then ((num_Tell.f k a0_2).bind fun t268 => (if (t266 ++ (⟨#[32]⟩ : ByteArray)).size + t268.size ≤ 9223372036854775807 then (some ((t266 ++ (⟨#[32]⟩ : ByteArray)) ++ t268)) else (none))) else (none)))
def swa_Check.f (a0_0 : Int) (l0_1 : List Int) : Option (Int) := if a0_0 < 0 then (some 1) else (if a0_0 > 1048576 then (some 1) else (if a0_0 = 0 then (if (l0_1.length : Int) > 0 then (some 1) else (some 0)) else (some 0)))
def swa_Mean.l0 : Nat → List Int → List Int → Int → Int → Int → List Int → Option (List Int × Int)
  | 0, _, _, _, _, _, _ => none
  | k + 1, x5, x18, x19, x20, x292000, x292001 => if x20 < x19 then (if 0 ≤ x20 then (if x20 < (x18.length : Int) then ((fix_Size.f (rd x18 x20)).bind fun t294 => ((half_Near.f k 0 t294 (IntKind.u64.wrap (x292000))).bind fun bt295 => ((fix_Signed.f k bt295.1 (decide ((rd x18 x20) < 0))).bind fun bt297 => (if x5.length < 17592186044416 then (swa_Mean.l0 k (x5 ++ [bt297.1]) x18 x19 (wrap64 (x20 + 1)) x292000 x292001) else (none))))) else (none)) else (none)) else (some (x5, 0))
def swa_Mean.f (k : Nat) (a0_0 : Int) (l0_1 : List Int) : Option (List Int × Int) := (swa_Check.f a0_0 l0_1).bind fun t292 => (if t292 = 0 then (swa_Mean.l0 k ([] : List Int) l0_1 (l0_1.length : Int) 0 a0_0 l0_1) else (some (([] : List Int), t292)))
def regimenref01_Texts.l0 : Nat → List ByteArray → List ByteArray → Int → Option (Bool)
  | 0, _, _, _ => none
  | k + 1, x0, x1, x5 => if x5 < (x0.length : Int) then (if 0 ≤ x5 then (if x5 < (x1.length : Int) then (if (rdOf ByteArray.empty x0 x5).toList = (rdOf ByteArray.empty x1 x5).toList then (regimenref01_Texts.l0 k x0 x1 (wrap64 (x5 + 1))) else (some false)) else (none)) else (none)) else (some true)
def regimenref01_Texts.f (k : Nat) (l0 : List ByteArray) (l1 : List ByteArray) : Option (Bool) := if (l0.length : Int) = (l1.length : Int) then (regimenref01_Texts.l0 k l0 l1 0) else (some false)
def regimenref45_Word.f (a0 : Int) : Option (ByteArray) := if a0 < 0 then (some (⟨#[63]⟩ : ByteArray)) else (if a0 > 3 then (some (⟨#[63]⟩ : ByteArray)) else ((some (([(⟨#[103, 111, 101, 115]⟩ : ByteArray), (⟨#[100, 111, 110, 101]⟩ : ByteArray), (⟨#[115, 116, 111, 112, 112, 101, 100]⟩ : ByteArray), (⟨#[102, 97, 105, 108, 101, 100]⟩ : ByteArray)] : List ByteArray) : List ByteArray)).bind fun y360 => (if 0 ≤ a0 then (if a0 < (y360.length : Int) then (some (rdOf ByteArray.empty y360 a0)) else (none)) else (none))))
def regimenref01_Text.l0 : Nat → Int → ByteArray → ByteArray → Option (ByteArray)
  | 0, _, _, _ => none
  | k + 1, x0, x3, x4 => if x0 ≥ 10 then (if 0 ≤ (Int.tmod (wrap64 (Int.tdiv x0 10)) 10) then (if (Int.tmod (wrap64 (Int.tdiv x0 10)) 10) ≤ (wrap64 ((Int.tmod (wrap64 (Int.tdiv x0 10)) 10) + 1)) then (if (wrap64 ((Int.tmod (wrap64 (Int.tdiv x0 10)) 10) + 1)) ≤ (x3.size : Int) then (if (x3.extract ((Int.tmod (wrap64 (Int.tdiv x0 10)) 10) : Int).toNat ((wrap64 ((Int.tmod (wrap64 (Int.tdiv x0 10)) 10) + 1)) : Int).toNat).size + x4.size ≤ 9223372036854775807 then (regimenref01_Text.l0 k (wrap64 (Int.tdiv x0 10)) x3 ((x3.extract ((Int.tmod (wrap64 (Int.tdiv x0 10)) 10) : Int).toNat ((wrap64 ((Int.tmod (wrap64 (Int.tdiv x0 10)) 10) + 1)) : Int).toNat) ++ x4)) else (none)) else (none)) else (none)) else (none)) else (some x4)
def regimenref01_Text.f (k : Nat) (a0 : Int) : Option (ByteArray) := if 0 ≤ (Int.tmod a0 10) then (if (Int.tmod a0 10) ≤ (wrap64 ((Int.tmod a0 10) + 1)) then (if (wrap64 ((Int.tmod a0 10) + 1)) ≤ 10 then (regimenref01_Text.l0 k a0 (⟨#[48, 49, 50, 51, 52, 53, 54, 55, 56, 57]⟩ : ByteArray) ((⟨#[48, 49, 50, 51, 52, 53, 54, 55, 56, 57]⟩ : ByteArray).extract ((Int.tmod a0 10) : Int).toNat ((wrap64 ((Int.tmod a0 10) + 1)) : Int).toNat)) else (none)) else (none)) else (none)
def regimenref01_Tell.f (k : Nat) (a0 : Int) : Option (ByteArray) := if a0 ≥ 0 then ((regimenref01_Text.f k a0).bind fun t364 => (some t364)) else (if 0 ≤ (wrap64 (-(Int.tmod a0 10))) then (if (wrap64 (-(Int.tmod a0 10))) ≤ (wrap64 ((wrap64 (-(Int.tmod a0 10))) + 1)) then (if (wrap64 ((wrap64 (-(Int.tmod a0 10))) + 1)) ≤ 10 then (if (wrap64 (Int.tdiv a0 10)) = 0 then (if 1 + ((⟨#[48, 49, 50, 51, 52, 53, 54, 55, 56, 57]⟩ : ByteArray).extract ((wrap64 (-(Int.tmod a0 10))) : Int).toNat ((wrap64 ((wrap64 (-(Int.tmod a0 10))) + 1)) : Int).toNat).size ≤ 9223372036854775807 then (some ((⟨#[45]⟩ : ByteArray) ++ ((⟨#[48, 49, 50, 51, 52, 53, 54, 55, 56, 57]⟩ : ByteArray).extract ((wrap64 (-(Int.tmod a0 10))) : Int).toNat ((wrap64 ((wrap64 (-(Int.tmod a0 10))) + 1)) : Int).toNat))) else (none)) else ((regimenref01_Text.f k (wrap64 (-(wrap64 (Int.tdiv a0 10))))).bind fun t365 => (if t365.size + ((⟨#[48, 49, 50, 51, 52, 53, 54, 55, 56, 57]⟩ : ByteArray).extract ((wrap64 (-(Int.tmod a0 10))) : Int).toNat ((wrap64 ((wrap64 (-(Int.tmod a0 10))) + 1)) : Int).toNat).size ≤ 9223372036854775807 then (if 1 + (t365 ++ ((⟨#[48, 49, 50, 51, 52, 53, 54, 55, 56, 57]⟩ : ByteArray).extract ((wrap64 (-(Int.tmod a0 10))) : Int).toNat ((wrap64 ((wrap64 (-(Int.tmod a0 10))) + 1)) : Int).toNat)).size ≤ 9223372036854775807 then (some ((⟨#[45]⟩ : ByteArray) ++ (t365 ++ ((⟨#[48, 49, 50, 51, 52, 53, 54, 55, 56, 57]⟩ : ByteArray).extract ((wrap64 (-(Int.tmod a0 10))) : Int).toNat ((wrap64 ((wrap64 (-(Int.tmod a0 10))) + 1)) : Int).toNat)))) else (none)) else (none)))) else (none)) else (none)) else (none))
mutual
def regimenref02_Times.l0 : Nat → List Int → List Int → List Int → Int → Option (List Int)
  | 0, _, _, _, _ => none
  | k + 1, x0, x1, x5, x6 => if x6 < (x0.length : Int) then (regimenref02_Times.l1 k x0 x1 x5 x6 0 0) else (some x5)
def regimenref02_Times.l1 : Nat → List Int → List Int → List Int → Int → Int → Int → Option (List Int)
  | 0, _, _, _, _, _, _ => none
  | k + 1, x0, x1, x5, x6, x7, x8 => if x8 < (x1.length : Int) then (if 0 ≤ (wrap64 (x6 + x8)) then (if (wrap64 (x6 + x8)) < (x5.length : Int) then (if 0 ≤ x6 then (if x6 < (x0.length : Int) then (if 0 ≤ x8 then (regimenref02_Times.l1 k x0 x1 (x5.set ((wrap64 (x6 + x8)) : Int).toNat (Int.tmod (IntKind.u64.wrap ((IntKind.u64.wrap ((rd x5 (wrap64 (x6 + x8))) + (IntKind.u64.wrap ((rd x0 x6) * (rd x1 x8))))) + x7)) 65536)) x6 (IntKind.u64.wrap (Int.tdiv (IntKind.u64.wrap ((IntKind.u64.wrap ((rd x5 (wrap64 (x6 + x8))) + (IntKind.u64.wrap ((rd x0 x6) * (rd x1 x8))))) + x7)) 65536)) (wrap64 (x8 + 1))) else (none)) else (none)) else (none)) else (none)) else (none)) else (if 0 ≤ (wrap64 (x6 + (x1.length : Int))) then (if (wrap64 (x6 + (x1.length : Int))) < (x5.length : Int) then (regimenref02_Times.l0 k x0 x1 (x5.set ((wrap64 (x6 + (x1.length : Int))) : Int).toNat (IntKind.u64.wrap ((rd x5 (wrap64 (x6 + (x1.length : Int)))) + x7))) (wrap64 (x6 + 1))) else (none)) else (none))
end
def regimenref02_Times.f (k : Nat) (l0 : List Int) (l1 : List Int) : Option (List Int) := if 0 ≤ (wrap64 ((l0.length : Int) + (l1.length : Int))) then (if (wrap64 ((l0.length : Int) + (l1.length : Int)) : Int).toNat ≤ 35184372088832 then (regimenref02_Times.l0 k l0 l1 (List.replicate (wrap64 ((l0.length : Int) + (l1.length : Int)) : Int).toNat 0) 0) else (none)) else (none)
theorem regimenref02_Times.mono_l : ∀ k, (∀ y0 y1 y2 y3, LeO (regimenref02_Times.l0 k y0 y1 y2 y3) (regimenref02_Times.l0 (k + 1) y0 y1 y2 y3)) ∧ (∀ y0 y1 y2 y3 y4 y5, LeO (regimenref02_Times.l1 k y0 y1 y2 y3 y4 y5) (regimenref02_Times.l1 (k + 1) y0 y1 y2 y3 y4 y5))
  | 0 => ⟨fun _ _ _ _ r h => by simp [regimenref02_Times.l0] at h, fun _ _ _ _ _ _ r h => by simp [regimenref02_Times.l1] at h⟩
  | k + 1 => by
    obtain ⟨ih0, ih1⟩ := regimenref02_Times.mono_l k
    refine ⟨?_, ?_⟩
    · intro y0 y1 y2 y3
      unfold regimenref02_Times.l0
      repeat' first
      | (with_reducible exact ih0 _ _ _ _)
      | (with_reducible exact ih1 _ _ _ _ _ _)
      | (with_reducible exact LeO.refl _)
      | (with_reducible exact LeO.none _)
      | (with_reducible refine LeO.ite ?_ ?_)
      | (with_reducible refine LeO.bind ?_ (fun _ => ?_))
      | exact ih0 _ _ _ _
      | exact ih1 _ _ _ _ _ _
      | exact LeO.none _
      | refine LeO.ite ?_ ?_
      | refine LeO.bind ?_ (fun _ => ?_)
    · intro y0 y1 y2 y3 y4 y5
      unfold regimenref02_Times.l1
      repeat' first
      | (with_reducible exact ih0 _ _ _ _)
      | (with_reducible exact ih1 _ _ _ _ _ _)
      | (with_reducible exact LeO.refl _)
      | (with_reducible exact LeO.none _)
      | (with_reducible refine LeO.ite ?_ ?_)
      | (with_reducible refine LeO.bind ?_ (fun _ => ?_))
      | exact ih0 _ _ _ _
      | exact ih1 _ _ _ _ _ _
      | exact LeO.none _
      | refine LeO.ite ?_ ?_
      | refine LeO.bind ?_ (fun _ => ?_)
theorem regimenref02_Times.mono : ∀ a0 a1 k, LeO (regimenref02_Times.f k a0 a1) (regimenref02_Times.f (k + 1) a0 a1) := by
  intro a0 a1 k
  obtain ⟨ih0, ih1⟩ := regimenref02_Times.mono_l k
  unfold regimenref02_Times.f
  repeat' first
      | (with_reducible exact ih0 _ _ _ _)
      | (with_reducible exact ih1 _ _ _ _ _ _)
      | (with_reducible exact LeO.refl _)
      | (with_reducible exact LeO.none _)
      | (with_reducible refine LeO.ite ?_ ?_)
      | (with_reducible refine LeO.bind ?_ (fun _ => ?_))
      | exact ih0 _ _ _ _
      | exact ih1 _ _ _ _ _ _
      | exact LeO.none _
      | refine LeO.ite ?_ ?_
      | refine LeO.bind ?_ (fun _ => ?_)
def regimenref02_digit.f (l0 : List Int) (a1 : Int) : Option (Int) := if a1 < (l0.length : Int) then (if 0 ≤ a1 then (some (rd l0 a1)) else (none)) else (some 0)
mutual
def regimenref02_Plus.l0 : Nat → List Int → List Int → List Int → Int → Int → Option (List Int)
  | 0, _, _, _, _, _ => none
  | k + 1, x0, x1, x5, x6, x7 => if x7 < (x0.length : Int) then (regimenref02_Plus.j1 k x0 x1 x5 x6 x7 true) else (if x7 < (x1.length : Int) then (regimenref02_Plus.j1 k x0 x1 x5 x6 x7 true) else (regimenref02_Plus.j1 k x0 x1 x5 x6 x7 (decide (x6 > 0))))
def regimenref02_Plus.j1 : Nat → List Int → List Int → List Int → Int → Int → Bool → Option (List Int)
  | 0, _, _, _, _, _, _ => none
  | k + 1, x0, x1, x5, x6, x7, x23 => if x23 = true then ((regimenref02_digit.f x0 x7).bind fun t379 => ((regimenref02_digit.f x1 x7).bind fun t380 => (if x5.length < 17592186044416 then (regimenref02_Plus.l0 k x0 x1 (x5 ++ [Int.tmod (IntKind.u64.wrap ((IntKind.u64.wrap (t379 + t380)) + x6)) 65536]) (IntKind.u64.wrap (Int.tdiv (IntKind.u64.wrap ((IntKind.u64.wrap (t379 + t380)) + x6)) 65536)) (wrap64 (x7 + 1))) else (none)))) else (some x5)
end
def regimenref02_Plus.f (k : Nat) (l0 : List Int) (l1 : List Int) : Option (List Int) := regimenref02_Plus.l0 k l0 l1 (([] : List Int)) 0 0
theorem regimenref02_Plus.mono_l : ∀ k, (∀ y0 y1 y2 y3 y4, LeO (regimenref02_Plus.l0 k y0 y1 y2 y3 y4) (regimenref02_Plus.l0 (k + 1) y0 y1 y2 y3 y4)) ∧ (∀ y0 y1 y2 y3 y4 y5, LeO (regimenref02_Plus.j1 k y0 y1 y2 y3 y4 y5) (regimenref02_Plus.j1 (k + 1) y0 y1 y2 y3 y4 y5))
  | 0 => ⟨fun _ _ _ _ _ r h => by simp [regimenref02_Plus.l0] at h, fun _ _ _ _ _ _ r h => by simp [regimenref02_Plus.j1] at h⟩
  | k + 1 => by
    obtain ⟨ih0, ih1⟩ := regimenref02_Plus.mono_l k
    refine ⟨?_, ?_⟩
    · intro y0 y1 y2 y3 y4
      unfold regimenref02_Plus.l0
      repeat' first
      | (with_reducible exact ih0 _ _ _ _ _)
      | (with_reducible exact ih1 _ _ _ _ _ _)
      | (with_reducible exact LeO.refl _)
      | (with_reducible exact LeO.none _)
      | (with_reducible refine LeO.ite ?_ ?_)
      | (with_reducible refine LeO.bind ?_ (fun _ => ?_))
      | exact ih0 _ _ _ _ _
      | exact ih1 _ _ _ _ _ _
      | exact LeO.none _
      | refine LeO.ite ?_ ?_
      | refine LeO.bind ?_ (fun _ => ?_)
    · intro y0 y1 y2 y3 y4 y5
      unfold regimenref02_Plus.j1
      repeat' first
      | (with_reducible exact ih0 _ _ _ _ _)
      | (with_reducible exact ih1 _ _ _ _ _ _)
      | (with_reducible exact LeO.refl _)
      | (with_reducible exact LeO.none _)
      | (with_reducible refine LeO.ite ?_ ?_)
      | (with_reducible refine LeO.bind ?_ (fun _ => ?_))
      | exact ih0 _ _ _ _ _
      | exact ih1 _ _ _ _ _ _
      | exact LeO.none _
      | refine LeO.ite ?_ ?_
      | refine LeO.bind ?_ (fun _ => ?_)
theorem regimenref02_Plus.mono : ∀ a0 a1 k, LeO (regimenref02_Plus.f k a0 a1) (regimenref02_Plus.f (k + 1) a0 a1) := by
  intro a0 a1 k
  obtain ⟨ih0, ih1⟩ := regimenref02_Plus.mono_l k
  unfold regimenref02_Plus.f
  repeat' first
      | (with_reducible exact ih0 _ _ _ _ _)
      | (with_reducible exact ih1 _ _ _ _ _ _)
      | (with_reducible exact LeO.refl _)
      | (with_reducible exact LeO.none _)
      | (with_reducible refine LeO.ite ?_ ?_)
      | (with_reducible refine LeO.bind ?_ (fun _ => ?_))
      | exact ih0 _ _ _ _ _
      | exact ih1 _ _ _ _ _ _
      | exact LeO.none _
      | refine LeO.ite ?_ ?_
      | refine LeO.bind ?_ (fun _ => ?_)
mutual
def regimenref02_Cmp.j0 : Nat → List Int → List Int → Int → Option (Int)
  | 0, _, _, _ => none
  | k + 1, x0, x1, x5 => regimenref02_Cmp.l0 k x0 x1 (wrap64 (x5 - 1))
def regimenref02_Cmp.l0 : Nat → List Int → List Int → Int → Option (Int)
  | 0, _, _, _ => none
  | k + 1, x0, x1, x6 => if x6 ≥ 0 then ((regimenref02_digit.f x0 x6).bind fun t384 => ((regimenref02_digit.f x1 x6).bind fun t385 => (if t384 < t385 then (some (-1)) else ((regimenref02_digit.f x0 x6).bind fun t386 => ((regimenref02_digit.f x1 x6).bind fun t387 => (if t386 > t387 then (some 1) else (regimenref02_Cmp.l0 k x0 x1 (wrap64 (x6 - 1))))))))) else (some 0)
end
def regimenref02_Cmp.f (k : Nat) (l0 : List Int) (l1 : List Int) : Option (Int) := if (l1.length : Int) > (l0.length : Int) then (regimenref02_Cmp.j0 k l0 l1 (l1.length : Int)) else (regimenref02_Cmp.j0 k l0 l1 (l0.length : Int))
theorem regimenref02_Cmp.mono_l : ∀ k, (∀ y0 y1 y2, LeO (regimenref02_Cmp.j0 k y0 y1 y2) (regimenref02_Cmp.j0 (k + 1) y0 y1 y2)) ∧ (∀ y0 y1 y2, LeO (regimenref02_Cmp.l0 k y0 y1 y2) (regimenref02_Cmp.l0 (k + 1) y0 y1 y2))
  | 0 => ⟨fun _ _ _ r h => by simp [regimenref02_Cmp.j0] at h, fun _ _ _ r h => by simp [regimenref02_Cmp.l0] at h⟩
  | k + 1 => by
    obtain ⟨ih0, ih1⟩ := regimenref02_Cmp.mono_l k
    refine ⟨?_, ?_⟩
    · intro y0 y1 y2
      unfold regimenref02_Cmp.j0
      repeat' first
      | (with_reducible exact ih0 _ _ _)
      | (with_reducible exact ih1 _ _ _)
      | (with_reducible exact LeO.refl _)
      | (with_reducible exact LeO.none _)
      | (with_reducible refine LeO.ite ?_ ?_)
      | (with_reducible refine LeO.bind ?_ (fun _ => ?_))
      | exact ih0 _ _ _
      | exact ih1 _ _ _
      | exact LeO.none _
      | refine LeO.ite ?_ ?_
      | refine LeO.bind ?_ (fun _ => ?_)
    · intro y0 y1 y2
      unfold regimenref02_Cmp.l0
      repeat' first
      | (with_reducible exact ih0 _ _ _)
      | (with_reducible exact ih1 _ _ _)
      | (with_reducible exact LeO.refl _)
      | (with_reducible exact LeO.none _)
      | (with_reducible refine LeO.ite ?_ ?_)
      | (with_reducible refine LeO.bind ?_ (fun _ => ?_))
      | exact ih0 _ _ _
      | exact ih1 _ _ _
      | exact LeO.none _
      | refine LeO.ite ?_ ?_
      | refine LeO.bind ?_ (fun _ => ?_)
theorem regimenref02_Cmp.mono : ∀ a0 a1 k, LeO (regimenref02_Cmp.f k a0 a1) (regimenref02_Cmp.f (k + 1) a0 a1) := by
  intro a0 a1 k
  obtain ⟨ih0, ih1⟩ := regimenref02_Cmp.mono_l k
  unfold regimenref02_Cmp.f
  repeat' first
      | (with_reducible exact ih0 _ _ _)
      | (with_reducible exact ih1 _ _ _)
      | (with_reducible exact LeO.refl _)
      | (with_reducible exact LeO.none _)
      | (with_reducible refine LeO.ite ?_ ?_)
      | (with_reducible refine LeO.bind ?_ (fun _ => ?_))
      | exact ih0 _ _ _
      | exact ih1 _ _ _
      | exact LeO.none _
      | refine LeO.ite ?_ ?_
      | refine LeO.bind ?_ (fun _ => ?_)
def regimenref02_Less.l0 : Nat → List Int → List Int → List Int → Int → Int → Option (List Int)
  | 0, _, _, _, _, _ => none
  | k + 1, x0, x1, x5, x6, x7 => if x7 < (x0.length : Int) then (if 0 ≤ x7 then ((regimenref02_digit.f x1 x7).bind fun t392 => (if x5.length < 17592186044416 then (regimenref02_Less.l0 k x0 x1 (x5 ++ [Int.tmod (IntKind.u64.wrap ((IntKind.u64.wrap ((IntKind.u64.wrap (65536 + (rd x0 x7))) - t392)) - x6)) 65536]) (IntKind.u64.wrap (1 - (IntKind.u64.wrap (Int.tdiv (IntKind.u64.wrap ((IntKind.u64.wrap ((IntKind.u64.wrap (65536 + (rd x0 x7))) - t392)) - x6)) 65536)))) (wrap64 (x7 + 1))) else (none))) else (none)) else (some x5)
def regimenref02_Less.f (k : Nat) (l0 : List Int) (l1 : List Int) : Option (List Int) := regimenref02_Less.l0 k l0 l1 (([] : List Int)) 0 0
theorem regimenref02_Less.mono_l : ∀ k, (∀ y0 y1 y2 y3 y4, LeO (regimenref02_Less.l0 k y0 y1 y2 y3 y4) (regimenref02_Less.l0 (k + 1) y0 y1 y2 y3 y4))
  | 0 => fun _ _ _ _ _ r h => by simp [regimenref02_Less.l0] at h
  | k + 1 => by
    have ih0 := regimenref02_Less.mono_l k
    · intro y0 y1 y2 y3 y4
      unfold regimenref02_Less.l0
      repeat' first
      | (with_reducible exact ih0 _ _ _ _ _)
      | (with_reducible exact LeO.refl _)
      | (with_reducible exact LeO.none _)
      | (with_reducible refine LeO.ite ?_ ?_)
      | (with_reducible refine LeO.bind ?_ (fun _ => ?_))
      | exact ih0 _ _ _ _ _
      | exact LeO.none _
      | refine LeO.ite ?_ ?_
      | refine LeO.bind ?_ (fun _ => ?_)
theorem regimenref02_Less.mono : ∀ a0 a1 k, LeO (regimenref02_Less.f k a0 a1) (regimenref02_Less.f (k + 1) a0 a1) := by
  intro a0 a1 k
  have ih0 := regimenref02_Less.mono_l k
  unfold regimenref02_Less.f
  repeat' first
      | (with_reducible exact ih0 _ _ _ _ _)
      | (with_reducible exact LeO.refl _)
      | (with_reducible exact LeO.none _)
      | (with_reducible refine LeO.ite ?_ ?_)
      | (with_reducible refine LeO.bind ?_ (fun _ => ?_))
      | exact ih0 _ _ _ _ _
      | exact LeO.none _
      | refine LeO.ite ?_ ?_
      | refine LeO.bind ?_ (fun _ => ?_)
mutual
def regimenref03_Quotient.l0 : Nat → List Int → List Int → List Int → List Int → Int → Option (List Int)
  | 0, _, _, _, _, _ => none
  | k + 1, x0, x1, x5, x6, x7 => if x7 ≥ 0 then (regimenref03_Quotient.l1 k x0 x1 x5 x6 x7 0) else (some x5)
def regimenref03_Quotient.l1 : Nat → List Int → List Int → List Int → List Int → Int → Int → Option (List Int)
  | 0, _, _, _, _, _, _ => none
  | k + 1, x0, x1, x5, x6, x7, x8 => if x8 < 16 then (if 0 ≤ x7 then (if x7 < (x0.length : Int) then (regimenref03_Quotient.l2 k x0 x1 x5 x6 x7 x8 (rd x0 x7) x8) else (none)) else (none)) else (regimenref03_Quotient.l0 k x0 x1 x5 x6 (wrap64 (x7 - 1)))
def regimenref03_Quotient.l2 : Nat → List Int → List Int → List Int → List Int → Int → Int → Int → Int → Option (List Int)
  | 0, _, _, _, _, _, _, _, _ => none
  | k + 1, x0, x1, x5, x6, x7, x8, x9, x10 => if x10 < 15 then (regimenref03_Quotient.l2 k x0 x1 x5 x6 x7 x8 (IntKind.u64.wrap (Int.tdiv x9 2)) (wrap64 (x10 + 1))) else ((regimenref02_Plus.f k x6 x6).bind fun t403 => ((regimenref02_Plus.f k t403 (([Int.tmod x9 2] : List Int))).bind fun t409 => ((regimenref02_Plus.f k x5 x5).bind fun t412 => ((regimenref02_Cmp.f k t409 x1).bind fun t415 => (if t415 ≥ 0 then ((regimenref02_Less.f k t409 x1).bind fun t416 => ((regimenref02_Plus.f k t412 (([1] : List Int))).bind fun t422 => (regimenref03_Quotient.l1 k x0 x1 t422 t416 x7 (wrap64 (x8 + 1))))) else (regimenref03_Quotient.l1 k x0 x1 t412 t409 x7 (wrap64 (x8 + 1))))))))
end
def regimenref03_Quotient.f (k : Nat) (l0 : List Int) (l1 : List Int) : Option (List Int) := regimenref03_Quotient.l0 k l0 l1 (([] : List Int)) (([] : List Int)) (wrap64 ((l0.length : Int) - 1))
theorem regimenref03_Quotient.mono_l : ∀ k, (∀ y0 y1 y2 y3 y4, LeO (regimenref03_Quotient.l0 k y0 y1 y2 y3 y4) (regimenref03_Quotient.l0 (k + 1) y0 y1 y2 y3 y4)) ∧ (∀ y0 y1 y2 y3 y4 y5, LeO (regimenref03_Quotient.l1 k y0 y1 y2 y3 y4 y5) (regimenref03_Quotient.l1 (k + 1) y0 y1 y2 y3 y4 y5)) ∧ (∀ y0 y1 y2 y3 y4 y5 y6 y7, LeO (regimenref03_Quotient.l2 k y0 y1 y2 y3 y4 y5 y6 y7) (regimenref03_Quotient.l2 (k + 1) y0 y1 y2 y3 y4 y5 y6 y7))
  | 0 => ⟨fun _ _ _ _ _ r h => by simp [regimenref03_Quotient.l0] at h, fun _ _ _ _ _ _ r h => by simp [regimenref03_Quotient.l1] at h, fun _ _ _ _ _ _ _ _ r h => by simp [regimenref03_Quotient.l2] at h⟩
  | k + 1 => by
    obtain ⟨ih0, ih1, ih2⟩ := regimenref03_Quotient.mono_l k
    refine ⟨?_, ?_, ?_⟩
    · intro y0 y1 y2 y3 y4
      unfold regimenref03_Quotient.l0
      repeat' first
      | (with_reducible exact ih0 _ _ _ _ _)
      | (with_reducible exact ih1 _ _ _ _ _ _)
      | (with_reducible exact ih2 _ _ _ _ _ _ _ _)
      | (with_reducible exact regimenref02_Cmp.mono _ _ _)
      | (with_reducible exact regimenref02_Less.mono _ _ _)
      | (with_reducible exact regimenref02_Plus.mono _ _ _)
      | (with_reducible exact LeO.refl _)
      | (with_reducible exact LeO.none _)
      | (with_reducible refine LeO.ite ?_ ?_)
      | (with_reducible refine LeO.bind ?_ (fun _ => ?_))
      | exact ih0 _ _ _ _ _
      | exact ih1 _ _ _ _ _ _
      | exact ih2 _ _ _ _ _ _ _ _
      | exact regimenref02_Cmp.mono _ _ _
      | exact regimenref02_Less.mono _ _ _
      | exact regimenref02_Plus.mono _ _ _
      | exact LeO.none _
      | refine LeO.ite ?_ ?_
      | refine LeO.bind ?_ (fun _ => ?_)
    · intro y0 y1 y2 y3 y4 y5
      unfold regimenref03_Quotient.l1
      repeat' first
      | (with_reducible exact ih0 _ _ _ _ _)
      | (with_reducible exact ih1 _ _ _ _ _ _)
      | (with_reducible exact ih2 _ _ _ _ _ _ _ _)
      | (with_reducible exact regimenref02_Cmp.mono _ _ _)
      | (with_reducible exact regimenref02_Less.mono _ _ _)
      | (with_reducible exact regimenref02_Plus.mono _ _ _)
      | (with_reducible exact LeO.refl _)
      | (with_reducible exact LeO.none _)
      | (with_reducible refine LeO.ite ?_ ?_)
      | (with_reducible refine LeO.bind ?_ (fun _ => ?_))
      | exact ih0 _ _ _ _ _
      | exact ih1 _ _ _ _ _ _
      | exact ih2 _ _ _ _ _ _ _ _
      | exact regimenref02_Cmp.mono _ _ _
      | exact regimenref02_Less.mono _ _ _
      | exact regimenref02_Plus.mono _ _ _
      | exact LeO.none _
      | refine LeO.ite ?_ ?_
      | refine LeO.bind ?_ (fun _ => ?_)
    · intro y0 y1 y2 y3 y4 y5 y6 y7
      unfold regimenref03_Quotient.l2
      repeat' first
      | (with_reducible exact ih0 _ _ _ _ _)
      | (with_reducible exact ih1 _ _ _ _ _ _)
      | (with_reducible exact ih2 _ _ _ _ _ _ _ _)
      | (with_reducible exact regimenref02_Cmp.mono _ _ _)
      | (with_reducible exact regimenref02_Less.mono _ _ _)
      | (with_reducible exact regimenref02_Plus.mono _ _ _)
      | (with_reducible exact LeO.refl _)
      | (with_reducible exact LeO.none _)
      | (with_reducible refine LeO.ite ?_ ?_)
      | (with_reducible refine LeO.bind ?_ (fun _ => ?_))
      | exact ih0 _ _ _ _ _
      | exact ih1 _ _ _ _ _ _
      | exact ih2 _ _ _ _ _ _ _ _
      | exact regimenref02_Cmp.mono _ _ _
      | exact regimenref02_Less.mono _ _ _
      | exact regimenref02_Plus.mono _ _ _
      | exact LeO.none _
      | refine LeO.ite ?_ ?_
      | refine LeO.bind ?_ (fun _ => ?_)
theorem regimenref03_Quotient.mono : ∀ a0 a1 k, LeO (regimenref03_Quotient.f k a0 a1) (regimenref03_Quotient.f (k + 1) a0 a1) := by
  intro a0 a1 k
  obtain ⟨ih0, ih1, ih2⟩ := regimenref03_Quotient.mono_l k
  unfold regimenref03_Quotient.f
  repeat' first
      | (with_reducible exact ih0 _ _ _ _ _)
      | (with_reducible exact ih1 _ _ _ _ _ _)
      | (with_reducible exact ih2 _ _ _ _ _ _ _ _)
      | (with_reducible exact regimenref02_Cmp.mono _ _ _)
      | (with_reducible exact regimenref02_Less.mono _ _ _)
      | (with_reducible exact regimenref02_Plus.mono _ _ _)
      | (with_reducible exact LeO.refl _)
      | (with_reducible exact LeO.none _)
      | (with_reducible refine LeO.ite ?_ ?_)
      | (with_reducible refine LeO.bind ?_ (fun _ => ?_))
      | exact ih0 _ _ _ _ _
      | exact ih1 _ _ _ _ _ _
      | exact ih2 _ _ _ _ _ _ _ _
      | exact regimenref02_Cmp.mono _ _ _
      | exact regimenref02_Less.mono _ _ _
      | exact regimenref02_Plus.mono _ _ _
      | exact LeO.none _
      | refine LeO.ite ?_ ?_
      | refine LeO.bind ?_ (fun _ => ?_)
def regimenref03_Odd.f (l0 : List Int) : Option (Bool) := if (l0.length : Int) > 0 then (if 0 < (l0.length : Int) then (some ((Int.tmod (rd l0 0) 2) == 1)) else (none)) else (some false)
def regimenref03_Rounded.f (k : Nat) (l0 : List Int) (l1 : List Int) : Option (List Int) := (regimenref03_Quotient.f k l0 l1).bind fun t426 => ((some (([] : List Int) : List Int)).bind fun y429 => (if y429.length + l0.length < 17592186044416 then ((some (y429 ++ l0 : List Int)).bind fun y432 => (if y432.length < 17592186044416 then ((regimenref02_Times.f k t426 l1).bind fun t438 => ((regimenref02_Less.f k (y432 ++ [0]) t438).bind fun t441 => ((regimenref02_Plus.f k t441 t441).bind fun t444 => ((regimenref02_Cmp.f k t444 l1).bind fun t447 => (if t447 > 0 then ((regimenref02_Plus.f k t426 (([1] : List Int))).bind fun t451 => (some t451)) else (if t447 = 0 then ((regimenref03_Odd.f t426).bind fun t454 => (if t454 = true then ((regimenref02_Plus.f k t426 (([1] : List Int))).bind fun t458 => (some t458)) else (some t426))) else (some t426))))))) else (none))) else (none)))
theorem regimenref03_Rounded.mono : ∀ a0 a1 k, LeO (regimenref03_Rounded.f k a0 a1) (regimenref03_Rounded.f (k + 1) a0 a1) := by
  intro a0 a1 k
  unfold regimenref03_Rounded.f
  repeat' first
      | (with_reducible exact regimenref02_Cmp.mono _ _ _)
      | (with_reducible exact regimenref02_Less.mono _ _ _)
      | (with_reducible exact regimenref02_Plus.mono _ _ _)
      | (with_reducible exact regimenref02_Times.mono _ _ _)
      | (with_reducible exact regimenref03_Quotient.mono _ _ _)
      | (with_reducible exact LeO.refl _)
      | (with_reducible exact LeO.none _)
      | (with_reducible refine LeO.ite ?_ ?_)
      | (with_reducible refine LeO.bind ?_ (fun _ => ?_))
      | exact regimenref02_Cmp.mono _ _ _
      | exact regimenref02_Less.mono _ _ _
      | exact regimenref02_Plus.mono _ _ _
      | exact regimenref02_Times.mono _ _ _
      | exact regimenref03_Quotient.mono _ _ _
      | exact LeO.none _
      | refine LeO.ite ?_ ?_
      | refine LeO.bind ?_ (fun _ => ?_)
def regimenref02_Twos.l0 : Nat → Int → List Int → Int → Option (List Int)
  | 0, _, _, _ => none
  | k + 1, x0, x3, x4 => if x4 < x0 then ((regimenref02_Plus.f k x3 x3).bind fun t464 => (regimenref02_Twos.l0 k x0 t464 (wrap64 (x4 + 1)))) else (some x3)
def regimenref02_Twos.f (k : Nat) (a0 : Int) : Option (List Int) := regimenref02_Twos.l0 k a0 (([1] : List Int)) 0
theorem regimenref02_Twos.mono_l : ∀ k, (∀ y0 y1 y2, LeO (regimenref02_Twos.l0 k y0 y1 y2) (regimenref02_Twos.l0 (k + 1) y0 y1 y2))
  | 0 => fun _ _ _ r h => by simp [regimenref02_Twos.l0] at h
  | k + 1 => by
    have ih0 := regimenref02_Twos.mono_l k
    · intro y0 y1 y2
      unfold regimenref02_Twos.l0
      repeat' first
      | (with_reducible exact ih0 _ _ _)
      | (with_reducible exact regimenref02_Plus.mono _ _ _)
      | (with_reducible exact LeO.refl _)
      | (with_reducible exact LeO.none _)
      | (with_reducible refine LeO.ite ?_ ?_)
      | (with_reducible refine LeO.bind ?_ (fun _ => ?_))
      | exact ih0 _ _ _
      | exact regimenref02_Plus.mono _ _ _
      | exact LeO.none _
      | refine LeO.ite ?_ ?_
      | refine LeO.bind ?_ (fun _ => ?_)
theorem regimenref02_Twos.mono : ∀ a0 k, LeO (regimenref02_Twos.f k a0) (regimenref02_Twos.f (k + 1) a0) := by
  intro a0 k
  have ih0 := regimenref02_Twos.mono_l k
  unfold regimenref02_Twos.f
  repeat' first
      | (with_reducible exact ih0 _ _ _)
      | (with_reducible exact regimenref02_Plus.mono _ _ _)
      | (with_reducible exact LeO.refl _)
      | (with_reducible exact LeO.none _)
      | (with_reducible refine LeO.ite ?_ ?_)
      | (with_reducible refine LeO.bind ?_ (fun _ => ?_))
      | exact ih0 _ _ _
      | exact regimenref02_Plus.mono _ _ _
      | exact LeO.none _
      | refine LeO.ite ?_ ?_
      | refine LeO.bind ?_ (fun _ => ?_)
def regimenref05_Tens.l0 : Nat → Int → List Int → Int → Option (List Int)
  | 0, _, _, _ => none
  | k + 1, x0, x3, x4 => if x4 < x0 then ((regimenref02_Times.f k x3 (([10] : List Int))).bind fun t473 => (regimenref05_Tens.l0 k x0 t473 (wrap64 (x4 + 1)))) else (some x3)
def regimenref05_Tens.f (k : Nat) (a0 : Int) : Option (List Int) := regimenref05_Tens.l0 k a0 (([1] : List Int)) 0
theorem regimenref05_Tens.mono_l : ∀ k, (∀ y0 y1 y2, LeO (regimenref05_Tens.l0 k y0 y1 y2) (regimenref05_Tens.l0 (k + 1) y0 y1 y2))
  | 0 => fun _ _ _ r h => by simp [regimenref05_Tens.l0] at h
  | k + 1 => by
    have ih0 := regimenref05_Tens.mono_l k
    · intro y0 y1 y2
      unfold regimenref05_Tens.l0
      repeat' first
      | (with_reducible exact ih0 _ _ _)
      | (with_reducible exact regimenref02_Times.mono _ _ _)
      | (with_reducible exact LeO.refl _)
      | (with_reducible exact LeO.none _)
      | (with_reducible refine LeO.ite ?_ ?_)
      | (with_reducible refine LeO.bind ?_ (fun _ => ?_))
      | exact ih0 _ _ _
      | exact regimenref02_Times.mono _ _ _
      | exact LeO.none _
      | refine LeO.ite ?_ ?_
      | refine LeO.bind ?_ (fun _ => ?_)
theorem regimenref05_Tens.mono : ∀ a0 k, LeO (regimenref05_Tens.f k a0) (regimenref05_Tens.f (k + 1) a0) := by
  intro a0 k
  have ih0 := regimenref05_Tens.mono_l k
  unfold regimenref05_Tens.f
  repeat' first
      | (with_reducible exact ih0 _ _ _)
      | (with_reducible exact regimenref02_Times.mono _ _ _)
      | (with_reducible exact LeO.refl _)
      | (with_reducible exact LeO.none _)
      | (with_reducible refine LeO.ite ?_ ?_)
      | (with_reducible refine LeO.bind ?_ (fun _ => ?_))
      | exact ih0 _ _ _
      | exact regimenref02_Times.mono _ _ _
      | exact LeO.none _
      | refine LeO.ite ?_ ?_
      | refine LeO.bind ?_ (fun _ => ?_)
def regimenref05_Read.f (k : Nat) (l0 : List Int) (a1 : Int) : Option (List Int) := (regimenref02_Twos.f k 32).bind fun t476 => ((regimenref02_Times.f k l0 t476).bind fun t479 => ((regimenref05_Tens.f k a1).bind fun t482 => ((regimenref03_Rounded.f k t479 t482).bind fun t485 => (some t485))))
theorem regimenref05_Read.mono : ∀ a0 a1 k, LeO (regimenref05_Read.f k a0 a1) (regimenref05_Read.f (k + 1) a0 a1) := by
  intro a0 a1 k
  unfold regimenref05_Read.f
  repeat' first
      | (with_reducible exact regimenref02_Times.mono _ _ _)
      | (with_reducible exact regimenref02_Twos.mono _ _)
      | (with_reducible exact regimenref03_Rounded.mono _ _ _)
      | (with_reducible exact regimenref05_Tens.mono _ _)
      | (with_reducible exact LeO.refl _)
      | (with_reducible exact LeO.none _)
      | (with_reducible refine LeO.ite ?_ ?_)
      | (with_reducible refine LeO.bind ?_ (fun _ => ?_))
      | exact regimenref02_Times.mono _ _ _
      | exact regimenref02_Twos.mono _ _
      | exact regimenref03_Rounded.mono _ _ _
      | exact regimenref05_Tens.mono _ _
      | exact LeO.none _
      | refine LeO.ite ?_ ?_
      | refine LeO.bind ?_ (fun _ => ?_)
def regimenref02_Word.f (a0 : Int) : Option (List Int) := some (([Int.tmod a0 65536, Int.tmod (IntKind.u64.wrap (Int.tdiv a0 65536)) 65536, Int.tmod (IntKind.u64.wrap (Int.tdiv a0 4294967296)) 65536, IntKind.u64.wrap (Int.tdiv a0 281474976710656)] : List Int))
def regimenref02_Size.f (a0 : Int) : Option (List Int) := if a0 < 0 then ((regimenref02_Word.f (IntKind.u64.wrap (-(IntKind.u64.wrap (a0))))).bind fun t491 => (some t491)) else ((regimenref02_Word.f (IntKind.u64.wrap (a0))).bind fun t494 => (some t494))
mutual
def regimenref05_Text.l0 : Nat → List Int → ByteArray → ByteArray → Option (ByteArray)
  | 0, _, _, _ => none
  | k + 1, x0, x3, x4 => if (x4.size : Int) = 0 then (regimenref05_Text.j1 k x0 x3 x4 true) else ((regimenref02_Cmp.f k x0 ([] : List Int)).bind fun t497 => (regimenref05_Text.j1 k x0 x3 x4 (decide (t497 > 0))))
def regimenref05_Text.j1 : Nat → List Int → ByteArray → ByteArray → Bool → Option (ByteArray)
  | 0, _, _, _, _ => none
  | k + 1, x0, x3, x4, x14 => if x14 = true then ((regimenref03_Quotient.f k x0 (([10] : List Int))).bind fun t501 => ((some (([] : List Int) : List Int)).bind fun y504 => (if y504.length + x0.length < 17592186044416 then ((some (y504 ++ x0 : List Int)).bind fun y507 => (if y507.length < 17592186044416 then ((regimenref02_Times.f k t501 (([10] : List Int))).bind fun t516 => ((regimenref02_Less.f k (y507 ++ [0]) t516).bind fun t519 => (if 0 < (t519.length : Int) then (if 0 ≤ (rd t519 0) then (if (rd t519 0) ≤ (IntKind.u64.wrap ((rd t519 0) + 1)) then (if (IntKind.u64.wrap ((rd t519 0) + 1)) ≤ (x3.size : Int) then (if (x3.extract ((rd t519 0) : Int).toNat ((IntKind.u64.wrap ((rd t519 0) + 1)) : Int).toNat).size + x4.size ≤ 9223372036854775807 then (regimenref05_Text.l0 k t501 x3 ((x3.extract ((rd t519 0) : Int).toNat ((IntKind.u64.wrap ((rd t519 0) + 1)) : Int).toNat) ++ x4)) else (none)) else (none)) else (none)) else (none)) else (none)))) else (none))) else (none)))) else (some x4)
end
def regimenref05_Text.f (k : Nat) (l0 : List Int) : Option (ByteArray) := regimenref05_Text.l0 k l0 (⟨#[48, 49, 50, 51, 52, 53, 54, 55, 56, 57]⟩ : ByteArray) (⟨#[]⟩ : ByteArray)
theorem regimenref05_Text.mono_l : ∀ k, (∀ y0 y1 y2, LeO (regimenref05_Text.l0 k y0 y1 y2) (regimenref05_Text.l0 (k + 1) y0 y1 y2)) ∧ (∀ y0 y1 y2 y3, LeO (regimenref05_Text.j1 k y0 y1 y2 y3) (regimenref05_Text.j1 (k + 1) y0 y1 y2 y3))
  | 0 => ⟨fun _ _ _ r h => by simp [regimenref05_Text.l0] at h, fun _ _ _ _ r h => by simp [regimenref05_Text.j1] at h⟩
  | k + 1 => by
    obtain ⟨ih0, ih1⟩ := regimenref05_Text.mono_l k
    refine ⟨?_, ?_⟩
    · intro y0 y1 y2
      unfold regimenref05_Text.l0
      repeat' first
      | (with_reducible exact ih0 _ _ _)
      | (with_reducible exact ih1 _ _ _ _)
      | (with_reducible exact regimenref02_Cmp.mono _ _ _)
      | (with_reducible exact regimenref02_Less.mono _ _ _)
      | (with_reducible exact regimenref02_Times.mono _ _ _)
      | (with_reducible exact regimenref03_Quotient.mono _ _ _)
      | (with_reducible exact LeO.refl _)
      | (with_reducible exact LeO.none _)
      | (with_reducible refine LeO.ite ?_ ?_)
      | (with_reducible refine LeO.bind ?_ (fun _ => ?_))
      | exact ih0 _ _ _
      | exact ih1 _ _ _ _
      | exact regimenref02_Cmp.mono _ _ _
      | exact regimenref02_Less.mono _ _ _
      | exact regimenref02_Times.mono _ _ _
      | exact regimenref03_Quotient.mono _ _ _
      | exact LeO.none _
      | refine LeO.ite ?_ ?_
      | refine LeO.bind ?_ (fun _ => ?_)
    · intro y0 y1 y2 y3
      unfold regimenref05_Text.j1
      repeat' first
      | (with_reducible exact ih0 _ _ _)
      | (with_reducible exact ih1 _ _ _ _)
      | (with_reducible exact regimenref02_Cmp.mono _ _ _)
      | (with_reducible exact regimenref02_Less.mono _ _ _)
      | (with_reducible exact regimenref02_Times.mono _ _ _)
      | (with_reducible exact regimenref03_Quotient.mono _ _ _)
      | (with_reducible exact LeO.refl _)
      | (with_reducible exact LeO.none _)
      | (with_reducible refine LeO.ite ?_ ?_)
      | (with_reducible refine LeO.bind ?_ (fun _ => ?_))
      | exact ih0 _ _ _
      | exact ih1 _ _ _ _
      | exact regimenref02_Cmp.mono _ _ _
      | exact regimenref02_Less.mono _ _ _
      | exact regimenref02_Times.mono _ _ _
      | exact regimenref03_Quotient.mono _ _ _
      | exact LeO.none _
      | refine LeO.ite ?_ ?_
      | refine LeO.bind ?_ (fun _ => ?_)
theorem regimenref05_Text.mono : ∀ a0 k, LeO (regimenref05_Text.f k a0) (regimenref05_Text.f (k + 1) a0) := by
  intro a0 k
  obtain ⟨ih0, ih1⟩ := regimenref05_Text.mono_l k
  unfold regimenref05_Text.f
  repeat' first
      | (with_reducible exact ih0 _ _ _)
      | (with_reducible exact ih1 _ _ _ _)
      | (with_reducible exact regimenref02_Cmp.mono _ _ _)
      | (with_reducible exact regimenref02_Less.mono _ _ _)
      | (with_reducible exact regimenref02_Times.mono _ _ _)
      | (with_reducible exact regimenref03_Quotient.mono _ _ _)
      | (with_reducible exact LeO.refl _)
      | (with_reducible exact LeO.none _)
      | (with_reducible refine LeO.ite ?_ ?_)
      | (with_reducible refine LeO.bind ?_ (fun _ => ?_))
      | exact ih0 _ _ _
      | exact ih1 _ _ _ _
      | exact regimenref02_Cmp.mono _ _ _
      | exact regimenref02_Less.mono _ _ _
      | exact regimenref02_Times.mono _ _ _
      | exact regimenref03_Quotient.mono _ _ _
      | exact LeO.none _
      | refine LeO.ite ?_ ?_
      | refine LeO.bind ?_ (fun _ => ?_)
mutual
def regimenref05_Put.j0 : Nat → List Int → ByteArray → Option (ByteArray)
  | 0, _, _ => none
  | k + 1, x3, x4 => regimenref05_Put.l0 k x3 x4 0
def regimenref05_Put.l0 : Nat → List Int → ByteArray → Int → Option (ByteArray)
  | 0, _, _, _ => none
  | k + 1, x3, x4, x5 => if x5 ≤ 10 then ((regimenref05_Tens.f k x5).bind fun t527 => ((regimenref02_Times.f k x3 t527).bind fun t530 => ((regimenref02_Twos.f k 32).bind fun t533 => ((regimenref03_Rounded.f k t530 t533).bind fun t536 => ((regimenref05_Read.f k t536 x5).bind fun t539 => ((regimenref02_Cmp.f k t539 x3).bind fun t542 => (if t542 = 0 then ((regimenref05_Text.f k t536).bind fun t543 => (regimenref05_Put.l1 k x4 x5 t543)) else (regimenref05_Put.l0 k x3 x4 (wrap64 (x5 + 1)))))))))) else (some (⟨#[]⟩ : ByteArray))
def regimenref05_Put.l1 : Nat → ByteArray → Int → ByteArray → Option (ByteArray)
  | 0, _, _, _ => none
  | k + 1, x4, x5, x7 => if (x7.size : Int) ≤ x5 then (if 1 + x7.size ≤ 9223372036854775807 then (regimenref05_Put.l1 k x4 x5 ((⟨#[48]⟩ : ByteArray) ++ x7)) else (none)) else (if x5 = 0 then (if x4.size + x7.size ≤ 9223372036854775807 then (some (x4 ++ x7)) else (none)) else (if 0 ≤ (wrap64 ((x7.size : Int) - x5)) then (if (wrap64 ((x7.size : Int) - x5)) ≤ (x7.size : Int) then (if x4.size + (x7.extract 0 ((wrap64 ((x7.size : Int) - x5)) : Int).toNat).size ≤ 9223372036854775807 then (if (x4 ++ (x7.extract 0 ((wrap64 ((x7.size : Int) - x5)) : Int).toNat)).size + 1 ≤ 9223372036854775807 then (if ((x4 ++ (x7.extract 0 ((wrap64 ((x7.size : Int) - x5)) : Int).toNat)) ++ (⟨#[46]⟩ : ByteArray)).size + (x7.extract ((wrap64 ((x7.size : Int) - x5)) : Int).toNat x7.size).size ≤ 9223372036854775807 then (some (((x4 ++ (x7.extract 0 ((wrap64 ((x7.size : Int) - x5)) : Int).toNat)) ++ (⟨#[46]⟩ : ByteArray)) ++ (x7.extract ((wrap64 ((x7.size : Int) - x5)) : Int).toNat x7.size))) else (none)) else (none)) else (none)) else (none)) else (none)))
end
def regimenref05_Put.f (k : Nat) (a0 : Int) : Option (ByteArray) := (regimenref02_Size.f a0).bind fun t524 => (if a0 < 0 then (regimenref05_Put.j0 k t524 (⟨#[45]⟩ : ByteArray)) else (regimenref05_Put.j0 k t524 (⟨#[]⟩ : ByteArray)))
theorem regimenref05_Put.mono_l : ∀ k, (∀ y0 y1, LeO (regimenref05_Put.j0 k y0 y1) (regimenref05_Put.j0 (k + 1) y0 y1)) ∧ (∀ y0 y1 y2, LeO (regimenref05_Put.l0 k y0 y1 y2) (regimenref05_Put.l0 (k + 1) y0 y1 y2)) ∧ (∀ y0 y1 y2, LeO (regimenref05_Put.l1 k y0 y1 y2) (regimenref05_Put.l1 (k + 1) y0 y1 y2))
  | 0 => ⟨fun _ _ r h => by simp [regimenref05_Put.j0] at h, fun _ _ _ r h => by simp [regimenref05_Put.l0] at h, fun _ _ _ r h => by simp [regimenref05_Put.l1] at h⟩
  | k + 1 => by
    obtain ⟨ih0, ih1, ih2⟩ := regimenref05_Put.mono_l k
    refine ⟨?_, ?_, ?_⟩
    · intro y0 y1
      unfold regimenref05_Put.j0
      repeat' first
      | (with_reducible exact ih0 _ _)
      | (with_reducible exact ih1 _ _ _)
      | (with_reducible exact ih2 _ _ _)
      | (with_reducible exact regimenref02_Cmp.mono _ _ _)
      | (with_reducible exact regimenref02_Times.mono _ _ _)
      | (with_reducible exact regimenref02_Twos.mono _ _)
      | (with_reducible exact regimenref03_Rounded.mono _ _ _)
      | (with_reducible exact regimenref05_Read.mono _ _ _)
      | (with_reducible exact regimenref05_Tens.mono _ _)
      | (with_reducible exact regimenref05_Text.mono _ _)
      | (with_reducible exact LeO.refl _)
      | (with_reducible exact LeO.none _)
      | (with_reducible refine LeO.ite ?_ ?_)
      | (with_reducible refine LeO.bind ?_ (fun _ => ?_))
      | exact ih0 _ _
      | exact ih1 _ _ _
      | exact ih2 _ _ _
      | exact regimenref02_Cmp.mono _ _ _
      | exact regimenref02_Times.mono _ _ _
      | exact regimenref02_Twos.mono _ _
      | exact regimenref03_Rounded.mono _ _ _
      | exact regimenref05_Read.mono _ _ _
      | exact regimenref05_Tens.mono _ _
      | exact regimenref05_Text.mono _ _
      | exact LeO.none _
      | refine LeO.ite ?_ ?_
      | refine LeO.bind ?_ (fun _ => ?_)
    · intro y0 y1 y2
      unfold regimenref05_Put.l0
      repeat' first
      | (with_reducible exact ih0 _ _)
      | (with_reducible exact ih1 _ _ _)
      | (with_reducible exact ih2 _ _ _)
      | (with_reducible exact regimenref02_Cmp.mono _ _ _)
      | (with_reducible exact regimenref02_Times.mono _ _ _)
      | (with_reducible exact regimenref02_Twos.mono _ _)
      | (with_reducible exact regimenref03_Rounded.mono _ _ _)
      | (with_reducible exact regimenref05_Read.mono _ _ _)
      | (with_reducible exact regimenref05_Tens.mono _ _)
      | (with_reducible exact regimenref05_Text.mono _ _)
      | (with_reducible exact LeO.refl _)
      | (with_reducible exact LeO.none _)
      | (with_reducible refine LeO.ite ?_ ?_)
      | (with_reducible refine LeO.bind ?_ (fun _ => ?_))
      | exact ih0 _ _
      | exact ih1 _ _ _
      | exact ih2 _ _ _
      | exact regimenref02_Cmp.mono _ _ _
      | exact regimenref02_Times.mono _ _ _
      | exact regimenref02_Twos.mono _ _
      | exact regimenref03_Rounded.mono _ _ _
      | exact regimenref05_Read.mono _ _ _
      | exact regimenref05_Tens.mono _ _
      | exact regimenref05_Text.mono _ _
      | exact LeO.none _
      | refine LeO.ite ?_ ?_
      | refine LeO.bind ?_ (fun _ => ?_)
    · intro y0 y1 y2
      unfold regimenref05_Put.l1
      repeat' first
      | (with_reducible exact ih0 _ _)
      | (with_reducible exact ih1 _ _ _)
      | (with_reducible exact ih2 _ _ _)
      | (with_reducible exact regimenref02_Cmp.mono _ _ _)
      | (with_reducible exact regimenref02_Times.mono _ _ _)
      | (with_reducible exact regimenref02_Twos.mono _ _)
      | (with_reducible exact regimenref03_Rounded.mono _ _ _)
      | (with_reducible exact regimenref05_Read.mono _ _ _)
      | (with_reducible exact regimenref05_Tens.mono _ _)
      | (with_reducible exact regimenref05_Text.mono _ _)
      | (with_reducible exact LeO.refl _)
      | (with_reducible exact LeO.none _)
      | (with_reducible refine LeO.ite ?_ ?_)
      | (with_reducible refine LeO.bind ?_ (fun _ => ?_))
      | exact ih0 _ _
      | exact ih1 _ _ _
      | exact ih2 _ _ _
      | exact regimenref02_Cmp.mono _ _ _
      | exact regimenref02_Times.mono _ _ _
      | exact regimenref02_Twos.mono _ _
      | exact regimenref03_Rounded.mono _ _ _
      | exact regimenref05_Read.mono _ _ _
      | exact regimenref05_Tens.mono _ _
      | exact regimenref05_Text.mono _ _
      | exact LeO.none _
      | refine LeO.ite ?_ ?_
      | refine LeO.bind ?_ (fun _ => ?_)
def regimenref45_tail.l0 : Nat → List Int → ByteArray → Int → Option (ByteArray)
  | 0, _, _, _ => none
  | k + 1, x0, x3, x4 => if x4 < (x0.length : Int) then (if x3.size + 1 ≤ 9223372036854775807 then (if 0 ≤ x4 then ((regimenref05_Put.f k (rd x0 x4)).bind fun t545 => (if (x3 ++ (⟨#[32]⟩ : ByteArray)).size + t545.size ≤ 9223372036854775807 then (regimenref45_tail.l0 k x0 ((x3 ++ (⟨#[32]⟩ : ByteArray)) ++ t545) (wrap64 (x4 + 1))) else (none))) else (none)) else (none)) else (some x3)
def regimenref45_tail.f (k : Nat) (l0 : List Int) : Option (ByteArray) := regimenref45_tail.l0 k l0 (⟨#[]⟩ : ByteArray) 0
def regimenref34_May.f (a0_0 : Int) (l0_1 : List Int) : Option (Bool) := if a0_0 ≥ 0 then (if a0_0 ≤ 1048576 then (if a0_0 > 0 then (some true) else (some ((l0_1.length : Int) == 0))) else (some false)) else (some false)
def regimenref02_Mod.l0 : Nat → List Int → Int → Int → Int → Option (Int × Int)
  | 0, _, _, _, _ => none
  | k + 1, x0, x4, x549000, x549001 => if x4 ≥ 0 then (if x4 ≥ 4 then ((regimenref02_digit.f x0 x4).bind fun t549 => (regimenref02_Mod.l0 k x0 (wrap64 (x4 - 1)) (IntKind.u64.wrap ((IntKind.u64.wrap (x549000 * 65536)) + t549)) x549001)) else ((regimenref02_digit.f x0 x4).bind fun t550 => (regimenref02_Mod.l0 k x0 (wrap64 (x4 - 1)) x549000 (IntKind.u64.wrap ((IntKind.u64.wrap (x549001 * 65536)) + t550))))) else (some (x549000, x549001))
def regimenref02_Mod.f (k : Nat) (l0 : List Int) : Option (Int × Int) := regimenref02_Mod.l0 k l0 7 0 0
theorem regimenref02_Mod.mono_l : ∀ k, (∀ y0 y1 y2 y3, LeO (regimenref02_Mod.l0 k y0 y1 y2 y3) (regimenref02_Mod.l0 (k + 1) y0 y1 y2 y3))
  | 0 => fun _ _ _ _ r h => by simp [regimenref02_Mod.l0] at h
  | k + 1 => by
    have ih0 := regimenref02_Mod.mono_l k
    · intro y0 y1 y2 y3
      unfold regimenref02_Mod.l0
      repeat' first
      | (with_reducible exact ih0 _ _ _ _)
      | (with_reducible exact LeO.refl _)
      | (with_reducible exact LeO.none _)
      | (with_reducible refine LeO.ite ?_ ?_)
      | (with_reducible refine LeO.bind ?_ (fun _ => ?_))
      | exact ih0 _ _ _ _
      | exact LeO.none _
      | refine LeO.ite ?_ ?_
      | refine LeO.bind ?_ (fun _ => ?_)
theorem regimenref02_Mod.mono : ∀ a0 k, LeO (regimenref02_Mod.f k a0) (regimenref02_Mod.f (k + 1) a0) := by
  intro a0 k
  have ih0 := regimenref02_Mod.mono_l k
  unfold regimenref02_Mod.f
  repeat' first
      | (with_reducible exact ih0 _ _ _ _)
      | (with_reducible exact LeO.refl _)
      | (with_reducible exact LeO.none _)
      | (with_reducible refine LeO.ite ?_ ?_)
      | (with_reducible refine LeO.bind ?_ (fun _ => ?_))
      | exact ih0 _ _ _ _
      | exact LeO.none _
      | refine LeO.ite ?_ ?_
      | refine LeO.bind ?_ (fun _ => ?_)
def regimenref04_Signed.j0 : Nat → List Int → Bool → Bool → Option (Int × Int)
  | 0, _, _, _ => none
  | k + 1, x0, x1, x20 => if x20 = true then (some (0, 4)) else ((regimenref02_Mod.f k x0).bind fun bt555 => (if x1 = true then (some (wrap64 (IntKind.u64.wrap (-bt555.2)), 0)) else (some (wrap64 (bt555.2), 0))))
def regimenref04_Signed.f (k : Nat) (l0 : List Int) (a1 : Bool) : Option (Int × Int) := (regimenref02_Twos.f k 63).bind fun t551 => ((regimenref02_Cmp.f k l0 t551).bind fun t554 => (if t554 > 0 then (regimenref04_Signed.j0 k l0 a1 true) else (if t554 = 0 then (regimenref04_Signed.j0 k l0 a1 (!a1)) else (regimenref04_Signed.j0 k l0 a1 false))))
theorem regimenref04_Signed.mono_l : ∀ k, (∀ y0 y1 y2, LeO (regimenref04_Signed.j0 k y0 y1 y2) (regimenref04_Signed.j0 (k + 1) y0 y1 y2))
  | 0 => fun _ _ _ r h => by simp [regimenref04_Signed.j0] at h
  | k + 1 => by
    have ih0 := regimenref04_Signed.mono_l k
    · intro y0 y1 y2
      unfold regimenref04_Signed.j0
      repeat' first
      | (with_reducible exact ih0 _ _ _)
      | (with_reducible exact regimenref02_Cmp.mono _ _ _)
      | (with_reducible exact regimenref02_Mod.mono _ _)
      | (with_reducible exact regimenref02_Twos.mono _ _)
      | (with_reducible exact LeO.refl _)
      | (with_reducible exact LeO.none _)
      | (with_reducible refine LeO.ite ?_ ?_)
      | (with_reducible refine LeO.bind ?_ (fun _ => ?_))
      | exact ih0 _ _ _
      | exact regimenref02_Cmp.mono _ _ _
      | exact regimenref02_Mod.mono _ _
      | exact regimenref02_Twos.mono _ _
      | exact LeO.none _
      | refine LeO.ite ?_ ?_
      | refine LeO.bind ?_ (fun _ => ?_)
def regimenref34_Mean.l0 : Nat → List Int → Int → Int → List Int → Option (List Int)
  | 0, _, _, _, _ => none
  | k + 1, x3, x4, x558000, x558001 => if x4 < (x558001.length : Int) then (if 0 ≤ x4 then ((regimenref02_Size.f (rd x558001 x4)).bind fun t562 => ((regimenref02_Size.f x558000).bind fun t565 => ((regimenref03_Rounded.f k t562 t565).bind fun t568 => ((regimenref04_Signed.f k t568 (decide ((rd x558001 x4) < 0))).bind fun bt572 => (if x3.length < 17592186044416 then (regimenref34_Mean.l0 k (x3 ++ [bt572.1]) (wrap64 (x4 + 1)) x558000 x558001) else (none)))))) else (none)) else (some x3)
def regimenref34_Mean.f (k : Nat) (a0_0 : Int) (l0_1 : List Int) : Option (List Int) := regimenref34_Mean.l0 k (([] : List Int)) 0 a0_0 l0_1
end Go.Proofs.YtcgdhpnobgimfaaGreatDoor.PB
end
