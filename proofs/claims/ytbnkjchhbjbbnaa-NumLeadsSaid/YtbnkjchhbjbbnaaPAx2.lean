/- Go functions of this seat as plain Lean functions, each with a proof that its call comes to just what that function says, wherever that function says anything: written by a program of this session. -/
import Derived.Test.YtbnkjchhbjbbnaaPAx0
import Derived.Test.YtbnkjchhbjbbnaaPAx1
namespace Go.Proofs.Ytbnkjchhbjbbnaa.PA
open Go.RowKit Go.Proofs.YtbnkjchhbjbbnaaW.PrintWords Go.Proofs.YtbnkjchhbjbbnaaW.PrintLast Go.Proofs.YtbnkjchhbjbbnaaW.PrintMore
attribute [local go_sem] max2_int min2_int max_two min_two max_three min_three max_four min_four   -- for this text's walks alone
set_option linter.unusedVariables false
set_option linter.unusedSimpArgs false

/-! ### num_Get: function 30 -/
mutual
def num_Get.j0 : Nat → List Int → Bool → Option (Int × Int)
  | 0, _, _ => none
  | k + 1, x1, x25 => if x25 = true then (some (0, 2)) else (num_Get.l0 k 0 x1 (x1.length : Int) 0)
def num_Get.l0 : Nat → Int → List Int → Int → Int → Option (Int × Int)
  | 0, _, _, _, _ => none
  | k + 1, x4, x27, x28, x29 => if x29 < x28 then (if 0 ≤ x29 then (if x29 < (x27.length : Int) then (if (wrap64 ((wrap64 (10 * x4)) + (((rd x27 x29) - 48) % 256))) > 1099511627776 then (some (0, 3)) else (num_Get.l0 k (wrap64 ((wrap64 (10 * x4)) + (((rd x27 x29) - 48) % 256))) x27 x28 (wrap64 (x29 + 1)))) else (none)) else (none)) else (some (x4, 0))
end
def num_Get.g (k : Nat) (a0 : ByteArray) (l1 : List Int) : Option (Int × Int) := if a0.toList = ([] : List UInt8) then (num_Get.j0 k l1 true) else ((num_Lead.f k a0).bind fun t107 => (if t107 < (a0.size : Int) then (num_Get.j0 k l1 true) else (if 0 < (a0.size : Int) then (if (bt a0 0) = 48 then (num_Get.j0 k l1 (decide ((a0.size : Int) > 1))) else (num_Get.j0 k l1 false)) else (none))))
theorem num_Get.mono_l : ∀ k, (∀ y0 y1, LeO (num_Get.j0 k y0 y1) (num_Get.j0 (k + 1) y0 y1)) ∧ (∀ y0 y1 y2 y3, LeO (num_Get.l0 k y0 y1 y2 y3) (num_Get.l0 (k + 1) y0 y1 y2 y3))
  | 0 => ⟨fun _ _ r h => by simp [num_Get.j0] at h, fun _ _ _ _ r h => by simp [num_Get.l0] at h⟩
  | k + 1 => by
    obtain ⟨ih0, ih1⟩ := num_Get.mono_l k
    refine ⟨?_, ?_⟩
    · intro y0 y1
      unfold num_Get.j0
      repeat' first
      | (with_reducible exact ih0 _ _)
      | (with_reducible exact ih1 _ _ _ _)
      | (with_reducible exact num_Lead.mono _ _)
      | (with_reducible exact LeO.refl _)
      | (with_reducible exact LeO.none _)
      | (with_reducible refine LeO.ite ?_ ?_)
      | (with_reducible refine LeO.bind ?_ (fun _ => ?_))
      | exact ih0 _ _
      | exact ih1 _ _ _ _
      | exact num_Lead.mono _ _
      | exact LeO.none _
      | refine LeO.ite ?_ ?_
      | refine LeO.bind ?_ (fun _ => ?_)
    · intro y0 y1 y2 y3
      unfold num_Get.l0
      repeat' first
      | (with_reducible exact ih0 _ _)
      | (with_reducible exact ih1 _ _ _ _)
      | (with_reducible exact num_Lead.mono _ _)
      | (with_reducible exact LeO.refl _)
      | (with_reducible exact LeO.none _)
      | (with_reducible refine LeO.ite ?_ ?_)
      | (with_reducible refine LeO.bind ?_ (fun _ => ?_))
      | exact ih0 _ _
      | exact ih1 _ _ _ _
      | exact num_Lead.mono _ _
      | exact LeO.none _
      | refine LeO.ite ?_ ?_
      | refine LeO.bind ?_ (fun _ => ?_)
theorem num_Get.gmono : ∀ a0 a1 k, LeO (num_Get.g k a0 a1) (num_Get.g (k + 1) a0 a1) := by
  intro a0 a1 k
  obtain ⟨ih0, ih1⟩ := num_Get.mono_l k
  unfold num_Get.g
  repeat' first
      | (with_reducible exact ih0 _ _)
      | (with_reducible exact ih1 _ _ _ _)
      | (with_reducible exact num_Lead.mono _ _)
      | (with_reducible exact LeO.refl _)
      | (with_reducible exact LeO.none _)
      | (with_reducible refine LeO.ite ?_ ?_)
      | (with_reducible refine LeO.bind ?_ (fun _ => ?_))
      | exact ih0 _ _
      | exact ih1 _ _ _ _
      | exact num_Lead.mono _ _
      | exact LeO.none _
      | refine LeO.ite ?_ ?_
      | refine LeO.bind ?_ (fun _ => ?_)
/-- What []byte(s) comes to: the string's bytes, as numbers. -/
def num_Get.f (k : Nat) (a0 : ByteArray) : Option (Int × Int) := if a0.size ≤ 9223372036854775807 then num_Get.g k a0 (numsOf a0) else none
theorem num_Get.mono : ∀ a0 k, LeO (num_Get.f k a0) (num_Get.f (k + 1) a0) := by
  intro a0 k
  unfold num_Get.f
  exact LeO.ite (num_Get.gmono a0 (numsOf a0) k) (LeO.none _)
set_option maxHeartbeats 8000000 in
set_option maxRecDepth 100000 in
theorem num_Get.calls (k : Nat) (a0 : ByteArray) (r1 : Int) (r2 : Int) (w : World) (h : num_Get.f k a0 = some (r1, r2)) :
    Calls Try.prog 30 #[.string a0] w fun e w' => e = .returned (.tuple #[.int .i64 r1, .int .i64 r2]) ∧ Below w.heap.size w w' := by
  obtain ⟨hz, h⟩ : a0.size ≤ 9223372036854775807 ∧ num_Get.g k a0 (numsOf a0) = _ := by
    unfold num_Get.f at h
    split at h
    · exact ⟨by assumption, h⟩
    · cases h
  have HZ := Aside0.mk hz
  clear hz
  obtain ⟨l1, hl1⟩ : ∃ l_, l_ = numsOf a0 := ⟨_, rfl⟩
  rw [← hl1] at h
  have HL1 := Aside0.mk hl1
  clear hl1
  have HB := Aside0.mk (Below.refl w.heap.size w)
  have H : (if a0.toList = ([] : List UInt8) then (num_Get.j0 k l1 true) else ((num_Lead.f k a0).bind fun t107 => (if t107 < (a0.size : Int) then (num_Get.j0 k l1 true) else (if 0 < (a0.size : Int) then (if (bt a0 0) = 48 then (num_Get.j0 k l1 (decide ((a0.size : Int) > 1))) else (num_Get.j0 k l1 false)) else (none))))) = some (r1, r2) := h
  clear h
  have HC3 := Aside0.mk H
  clear H
  go_enter Try.func30, Try.ntmps30
  go_upto_region 1 with (fail)
  go_cut [25] (fun v25 wc => ∃ (kq : Nat) (x25_2 : Bool), v25 = .bool x25_2 ∧ Aside0 (num_Get.j0 kq l1 x25_2 = some (r1, r2)) ∧ Aside0 (kq ≤ k) ∧ Aside0 (Below w.heap.size w wc))
  case first =>
    have H := HC3.out
    clear HC3
    by_cases c4 : a0.toList = ([] : List UInt8)
    · rw [if_pos c4] at H
      have c4b0 : (a0.toList == ([] : List UInt8)) = true := beq_iff_eq.mpr c4
      have c4b1 : (a0.toList != ([] : List UInt8)) = false := bne_eq_false_iff_eq.mpr c4
      clear c4
      (first | rw [c4b0] | rw [c4b1] | (simp only [i64_w, i32_w]; rw [c4b0]) | skip)
      have H' := Aside0.mk H
      clear H
      go_wp2_with (first | ((with_reducible refine gate_dst (N := 27) rfl ?_); refine conv_event (N := 27) (e := 5) (s := a0) (l := l1) ?hg ?hd ?hl ?hz ?hr ?_; (case hd => rfl); (case hg => rfl); (case hl => exact HL1.out); (case hz => exact HZ.out); (case hr => first | (go_simp; rw [Lib.run_convert_string_bytes _ 9 70 5 a0 Try.underlying9 Try.underlying70 Try.underlying5]; rfl) | (go_simp; done)); intro A1 c1 w hC hc hb; have HB0 := Aside0.mk (below_step (by repeat (first | (with_reducible first | exact HB.out | apply below_alloc | apply pw_below_drewN | apply below_drew1) | exact HB.out)) hb); clear HB hb; have HB := Aside0.mk (Below.refl w.heap.size w); have HR1 := Aside0.mk hC; have HC1 := Aside0.mk hc; clear hC hc))
      go_meet
      case rel => exact ⟨_, (true), (by first | rfl | (simp; done) | (simp [*]; done)), H', ⟨by first | omega | exact Nat.le_refl _⟩, ⟨by repeat (first | (with_reducible first | exact HB.out | apply below_alloc | apply pw_below_drewN | apply below_drew1) | exact HB.out)⟩⟩
    · rw [if_neg c4] at H
      have c4b0 : (a0.toList == ([] : List UInt8)) = false := beq_eq_false_iff_ne.mpr c4
      have c4b1 : (a0.toList != ([] : List UInt8)) = true := bne_iff_ne.mpr c4
      (first | rw [c4b0] | rw [c4b1] | (simp only [i64_w, i32_w]; rw [c4b0]) | skip)
      replace H := Option.bind_eq_some_iff.mp H
      obtain ⟨t107, A50, H⟩ := H
      replace H : (if t107 < (a0.size : Int) then (num_Get.j0 k l1 true) else (if 0 < (a0.size : Int) then (if (bt a0 0) = 48 then (num_Get.j0 k l1 (decide ((a0.size : Int) > 1))) else (num_Get.j0 k l1 false)) else (none))) = some (r1, r2) := H
      have A5 := Aside0.mk A50
      clear A50
      by_cases c6 : t107 < (a0.size : Int)
      · rw [if_pos c6] at H
        have c6b0 : decide (t107 < (a0.size : Int)) = true := decide_eq_true c6
        clear c6
        have H' := Aside0.mk H
        clear H
        go_wp2_with (first | ((with_reducible refine gate_dst (N := 27) rfl ?_); refine conv_event (N := 27) (e := 5) (s := a0) (l := l1) ?hg ?hd ?hl ?hz ?hr ?_; (case hd => rfl); (case hg => rfl); (case hl => exact HL1.out); (case hz => exact HZ.out); (case hr => first | (go_simp; rw [Lib.run_convert_string_bytes _ 9 70 5 a0 Try.underlying9 Try.underlying70 Try.underlying5]; rfl) | (go_simp; done)); intro A1 c1 w hC hc hb; have HB0 := Aside0.mk (below_step (by repeat (first | (with_reducible first | exact HB.out | apply below_alloc | apply pw_below_drewN | apply below_drew1) | exact HB.out)) hb); clear HB hb; have HB := Aside0.mk (Below.refl w.heap.size w); have HR1 := Aside0.mk hC; have HC1 := Aside0.mk hc; clear hC hc) | (go_at_call 33; (with_reducible refine (num_Lead.calls k a0 t107 _ A5.out).mono ?_); rintro e w7 ⟨rfl, hb⟩; have n0_ := Aside0.mk (below_step (by repeat (first | (with_reducible first | exact HB.out | apply below_alloc | apply pw_below_drewN | apply below_drew1) | exact HB.out)) hb); clear HB; have HB := n0_; clear n0_; (try clear hb); (try clear hb2); (try clear hk); (try clear hi)))
        go_meet
        case rel => exact ⟨_, (true), (by first | rfl | (simp; done) | (simp [*]; done)), H', ⟨by first | omega | exact Nat.le_refl _⟩, ⟨by repeat (first | (with_reducible first | exact HB.out | apply below_alloc | apply pw_below_drewN | apply below_drew1) | exact HB.out)⟩⟩
      · rw [if_neg c6] at H
        have c6b0 : decide (t107 < (a0.size : Int)) = false := decide_eq_false c6
        clear c6
        by_cases c8 : 0 < (a0.size : Int)
        · rw [if_pos c8] at H
          have c8b0 : decide (0 < (a0.size : Int)) = true := decide_eq_true c8
          have c8b1 : decide (0 < a0.size) = true := decide_eq_true (by omega)
          clear c8
          by_cases c10 : (bt a0 0) = 48
          · rw [if_pos c10] at H
            have c10b0 : ((bt a0 0) == 48) = true := beq_iff_eq.mpr c10
            have c10b1 : ((bt a0 0) != 48) = false := bne_eq_false_iff_eq.mpr c10
            clear c10
            have H' := Aside0.mk H
            clear H
            go_wp2_with (first | ((with_reducible refine gate_dst (N := 27) rfl ?_); refine conv_event (N := 27) (e := 5) (s := a0) (l := l1) ?hg ?hd ?hl ?hz ?hr ?_; (case hd => rfl); (case hg => rfl); (case hl => exact HL1.out); (case hz => exact HZ.out); (case hr => first | (go_simp; rw [Lib.run_convert_string_bytes _ 9 70 5 a0 Try.underlying9 Try.underlying70 Try.underlying5]; rfl) | (go_simp; done)); intro A1 c1 w hC hc hb; have HB0 := Aside0.mk (below_step (by repeat (first | (with_reducible first | exact HB.out | apply below_alloc | apply pw_below_drewN | apply below_drew1) | exact HB.out)) hb); clear HB hb; have HB := Aside0.mk (Below.refl w.heap.size w); have HR1 := Aside0.mk hC; have HC1 := Aside0.mk hc; clear hC hc) | (go_at_call 33; (with_reducible refine (num_Lead.calls k a0 t107 _ A5.out).mono ?_); rintro e w11 ⟨rfl, hb⟩; have n0_ := Aside0.mk (below_step (by repeat (first | (with_reducible first | exact HB.out | apply below_alloc | apply pw_below_drewN | apply below_drew1) | exact HB.out)) hb); clear HB; have HB := n0_; clear n0_; (try clear hb); (try clear hb2); (try clear hk); (try clear hi); have p9 : 0 ≤ (0 : Int) := (by omega); have q9 : 0 < a0.size := (by have : (0 : Int) < (a0.size : Int) := of_decide_eq_true (by first | (with_reducible assumption) | assumption); omega); have hx9 : ∀ h : 0 < a0.size, ((a0[0]'h).toNat : Int) = bt a0 0 := bt_at a0 0; clear p9; have qi9 : (0 < (a0.size : Int)) = True := eq_true (of_decide_eq_true (by first | (with_reducible assumption) | assumption)); replace q9 := eq_true q9))
            go_meet
            case rel => exact ⟨_, (decide ((a0.size : Int) > 1)), (by first | rfl | (simp; done) | (simp [*]; done)), H', ⟨by first | omega | exact Nat.le_refl _⟩, ⟨by repeat (first | (with_reducible first | exact HB.out | apply below_alloc | apply pw_below_drewN | apply below_drew1) | exact HB.out)⟩⟩
          · rw [if_neg c10] at H
            have c10b0 : ((bt a0 0) == 48) = false := beq_eq_false_iff_ne.mpr c10
            have c10b1 : ((bt a0 0) != 48) = true := bne_iff_ne.mpr c10
            have H' := Aside0.mk H
            clear H
            go_wp2_with (first | ((with_reducible refine gate_dst (N := 27) rfl ?_); refine conv_event (N := 27) (e := 5) (s := a0) (l := l1) ?hg ?hd ?hl ?hz ?hr ?_; (case hd => rfl); (case hg => rfl); (case hl => exact HL1.out); (case hz => exact HZ.out); (case hr => first | (go_simp; rw [Lib.run_convert_string_bytes _ 9 70 5 a0 Try.underlying9 Try.underlying70 Try.underlying5]; rfl) | (go_simp; done)); intro A1 c1 w hC hc hb; have HB0 := Aside0.mk (below_step (by repeat (first | (with_reducible first | exact HB.out | apply below_alloc | apply pw_below_drewN | apply below_drew1) | exact HB.out)) hb); clear HB hb; have HB := Aside0.mk (Below.refl w.heap.size w); have HR1 := Aside0.mk hC; have HC1 := Aside0.mk hc; clear hC hc) | (go_at_call 33; (with_reducible refine (num_Lead.calls k a0 t107 _ A5.out).mono ?_); rintro e w12 ⟨rfl, hb⟩; have n0_ := Aside0.mk (below_step (by repeat (first | (with_reducible first | exact HB.out | apply below_alloc | apply pw_below_drewN | apply below_drew1) | exact HB.out)) hb); clear HB; have HB := n0_; clear n0_; (try clear hb); (try clear hb2); (try clear hk); (try clear hi); have p9 : 0 ≤ (0 : Int) := (by omega); have q9 : 0 < a0.size := (by have : (0 : Int) < (a0.size : Int) := of_decide_eq_true (by first | (with_reducible assumption) | assumption); omega); have hx9 : ∀ h : 0 < a0.size, ((a0[0]'h).toNat : Int) = bt a0 0 := bt_at a0 0; clear p9; have qi9 : (0 < (a0.size : Int)) = True := eq_true (of_decide_eq_true (by first | (with_reducible assumption) | assumption)); replace q9 := eq_true q9))
            go_meet
            case rel => exact ⟨_, (false), (by first | rfl | (simp; done) | (simp [*]; done)), H', ⟨by first | omega | exact Nat.le_refl _⟩, ⟨by repeat (first | (with_reducible first | exact HB.out | apply below_alloc | apply pw_below_drewN | apply below_drew1) | exact HB.out)⟩⟩
        · rw [if_neg c8] at H
          exact absurd H (by simp)
  case rest =>
    clear HC3
    try clear c1
    try clear p2
    try clear c3
    try clear c4
    try clear c4b0
    try clear c4b1
    try clear c6
    try clear c6b0
    try clear c8
    try clear c8b0
    try clear c8b1
    try clear p9
    try clear q9
    try clear hx9
    try clear qi9
    try clear c10
    try clear c10b0
    try clear c10b1
    try clear p9
    try clear q9
    obtain ⟨kq, x25_2, rfl, HA, HJ2, HB⟩ := hcut
    cases kq with
    | zero => exact absurd HA.out (by simp [num_Get.j0])
    | succ kj2 =>
      have H := HA.out
      clear HA
      simp only [num_Get.j0] at H
      by_cases c13 : x25_2 = true
      · subst c13
        have H1 : (some (0, 2)) = some (r1, r2) := by rw [if_pos rfl] at H; exact H
        clear H
        have H := H1
        clear H1
        simp only [Option.some.injEq, Prod.mk.injEq] at H
        obtain ⟨rfl, rfl⟩ := H
        go_wp2_with (first | ((with_reducible refine gate_dst (N := 27) rfl ?_); refine conv_event (N := 27) (e := 5) (s := a0) (l := l1) ?hg ?hd ?hl ?hz ?hr ?_; (case hd => rfl); (case hg => rfl); (case hl => exact HL1.out); (case hz => exact HZ.out); (case hr => first | (go_simp; rw [Lib.run_convert_string_bytes _ 9 70 5 a0 Try.underlying9 Try.underlying70 Try.underlying5]; rfl) | (go_simp; done)); intro A1 c1 w hC hc hb; have HB0 := Aside0.mk (below_step (by repeat (first | (with_reducible first | exact HB.out | apply below_alloc | apply pw_below_drewN | apply below_drew1) | exact HB.out)) hb); clear HB hb; have HB := Aside0.mk (Below.refl w.heap.size w); have HR1 := Aside0.mk hC; have HC1 := Aside0.mk hc; clear hC hc))
        go_ret2
        first | exact ⟨by first | rfl | (simp [errW_none, errW_some] <;> rfl) | (simp [*, errW_none, errW_some] <;> rfl), below_step HB0.out (by repeat (first | (with_reducible first | exact HB.out | apply below_alloc | apply pw_below_drewN | apply below_drew1) | exact HB.out))⟩ | exact ⟨by first | rfl | (simp [errW_none, errW_some] <;> rfl) | (simp [*, errW_none, errW_some] <;> rfl), by repeat (first | (with_reducible first | exact HB.out | apply below_alloc | apply pw_below_drewN | apply below_drew1) | exact HB.out)⟩
      · replace c13 := Bool.eq_false_iff.mpr c13
        subst c13
        have H1 : (num_Get.l0 kj2 0 l1 (l1.length : Int) 0) = some (r1, r2) := by rw [if_neg (show ¬ (false = true) by decide)] at H; exact H
        clear H
        have H := H1
        clear H1
        have H' := Aside0.mk H
        clear H
        go_wp2_with (first | ((with_reducible refine gate_dst (N := 27) rfl ?_); refine conv_event (N := 27) (e := 5) (s := a0) (l := l1) ?hg ?hd ?hl ?hz ?hr ?_; (case hd => rfl); (case hg => rfl); (case hl => exact HL1.out); (case hz => exact HZ.out); (case hr => first | (go_simp; rw [Lib.run_convert_string_bytes _ 9 70 5 a0 Try.underlying9 Try.underlying70 Try.underlying5]; rfl) | (go_simp; done)); intro A1 c1 w hC hc hb; have HB0 := Aside0.mk (below_step (by repeat (first | (with_reducible first | exact HB.out | apply below_alloc | apply pw_below_drewN | apply below_drew1) | exact HB.out)) hb); clear HB hb; have HB := Aside0.mk (Below.refl w.heap.size w); have HR1 := Aside0.mk hC; have HC1 := Aside0.mk hc; clear hC hc))
        go_loopg [4, 29] kj2 (fun kq v4 v29 w' => ∃ (x4_2 : Int) (x29_2 : Int), v4 = .int .i64 x4_2 ∧ v29 = .int .i64 x29_2 ∧ Aside0 (num_Get.l0 kq x4_2 l1 (l1.length : Int) x29_2 = some (r1, r2)) ∧ Aside0 (kq ≤ kj2) ∧ Aside0 (Below w.heap.size w w'))
        case atStart => exact ⟨(0), (0), (by first | rfl | (simp; done) | (simp [*]; done)), (by first | rfl | (simp; done) | (simp [*]; done)), H', ⟨Nat.le_refl _⟩, ⟨by repeat (first | (with_reducible first | exact HB.out | apply below_alloc | apply pw_below_drewN | apply below_drew1) | exact HB.out)⟩⟩
        case round =>
          clear H'
          try clear c1
          try clear p2
          try clear c3
          try clear c4
          try clear c4b0
          try clear c4b1
          try clear c6
          try clear c6b0
          try clear c8
          try clear c8b0
          try clear c8b1
          try clear p9
          try clear q9
          try clear hx9
          try clear qi9
          try clear c10
          try clear c10b0
          try clear c10b1
          try clear c13
          try clear p2
          try clear p9
          try clear q9
          obtain ⟨x4_2, x29_2, rfl, rfl, HA, HK2, HB⟩ := hrel
          cases gk with
          | zero => exact absurd HA.out (by simp [num_Get.l0])
          | succ k2 =>
            have H := HA.out
            clear HA
            simp only [num_Get.l0] at H
            by_cases c14 : x29_2 < (l1.length : Int)
            · rw [if_pos c14] at H
              have c14b0 : decide (x29_2 < (l1.length : Int)) = true := decide_eq_true c14
              clear c14
              by_cases c15 : 0 ≤ x29_2
              · rw [if_pos c15] at H
                have c15b0 : decide (0 ≤ x29_2) = true := decide_eq_true c15
                clear c15
                by_cases c16 : x29_2 < (l1.length : Int)
                · rw [if_pos c16] at H
                  have c16b0 : decide (x29_2 < (l1.length : Int)) = true := decide_eq_true c16
                  clear c16
                  by_cases c17 : (wrap64 ((wrap64 (10 * x4_2)) + (((rd l1 x29_2) - 48) % 256))) > 1099511627776
                  · rw [if_pos c17] at H
                    have c17b0 : decide (1099511627776 < (wrap64 ((wrap64 (10 * x4_2)) + (((rd l1 x29_2) - 48) % 256)))) = true := decide_eq_true c17
                    clear c17
                    simp only [Option.some.injEq, Prod.mk.injEq] at H
                    obtain ⟨rfl, rfl⟩ := H
                    have p108 : 0 ≤ (x29_2 : Int) := of_decide_eq_true (by first | (with_reducible assumption) | assumption)
                    have q108 : x29_2 < (l1.length : Int) := of_decide_eq_true (by first | (with_reducible assumption) | assumption)
                    obtain ⟨ad108, e108, hx108_0⟩ := Kd.at_int HR1.out x29_2 p108 q108
                    cases e108
                    replace hx108_0 := (HB.out.cell (World.block_lt_of_cell? w _ hx108_0)).trans hx108_0
                    replace p108 := eq_true p108
                    replace q108 := eq_true q108
                    go_wp2_with (first | ((with_reducible refine gate_dst (N := 27) rfl ?_); refine conv_event (N := 27) (e := 5) (s := a0) (l := l1) ?hg ?hd ?hl ?hz ?hr ?_; (case hd => rfl); (case hg => rfl); (case hl => exact HL1.out); (case hz => exact HZ.out); (case hr => first | (go_simp; rw [Lib.run_convert_string_bytes _ 9 70 5 a0 Try.underlying9 Try.underlying70 Try.underlying5]; rfl) | (go_simp; done)); intro A1 c1 w hC hc hb; have HB0 := Aside0.mk (below_step (by repeat (first | (with_reducible first | exact HB.out | apply below_alloc | apply pw_below_drewN | apply below_drew1) | exact HB.out)) hb); clear HB hb; have HB := Aside0.mk (Below.refl w.heap.size w); have HR1 := Aside0.mk hC; have HC1 := Aside0.mk hc; clear hC hc))
                    go_ret2
                    first | exact ⟨by first | rfl | (simp [errW_none, errW_some] <;> rfl) | (simp [*, errW_none, errW_some] <;> rfl), below_step HB0.out (by repeat (first | (with_reducible first | exact HB.out | apply below_alloc | apply pw_below_drewN | apply below_drew1) | exact HB.out))⟩ | exact ⟨by first | rfl | (simp [errW_none, errW_some] <;> rfl) | (simp [*, errW_none, errW_some] <;> rfl), by repeat (first | (with_reducible first | exact HB.out | apply below_alloc | apply pw_below_drewN | apply below_drew1) | exact HB.out)⟩
                  · rw [if_neg c17] at H
                    have c17b0 : decide (1099511627776 < (wrap64 ((wrap64 (10 * x4_2)) + (((rd l1 x29_2) - 48) % 256)))) = false := decide_eq_false c17
                    clear c17
                    have H' := Aside0.mk H
                    clear H
                    have p108 : 0 ≤ (x29_2 : Int) := of_decide_eq_true (by first | (with_reducible assumption) | assumption)
                    have q108 : x29_2 < (l1.length : Int) := of_decide_eq_true (by first | (with_reducible assumption) | assumption)
                    obtain ⟨ad108, e108, hx108_0⟩ := Kd.at_int HR1.out x29_2 p108 q108
                    cases e108
                    replace hx108_0 := (HB.out.cell (World.block_lt_of_cell? w _ hx108_0)).trans hx108_0
                    replace p108 := eq_true p108
                    replace q108 := eq_true q108
                    go_wp2_with (first | ((with_reducible refine gate_dst (N := 27) rfl ?_); refine conv_event (N := 27) (e := 5) (s := a0) (l := l1) ?hg ?hd ?hl ?hz ?hr ?_; (case hd => rfl); (case hg => rfl); (case hl => exact HL1.out); (case hz => exact HZ.out); (case hr => first | (go_simp; rw [Lib.run_convert_string_bytes _ 9 70 5 a0 Try.underlying9 Try.underlying70 Try.underlying5]; rfl) | (go_simp; done)); intro A1 c1 w hC hc hb; have HB0 := Aside0.mk (below_step (by repeat (first | (with_reducible first | exact HB.out | apply below_alloc | apply pw_below_drewN | apply below_drew1) | exact HB.out)) hb); clear HB hb; have HB := Aside0.mk (Below.refl w.heap.size w); have HR1 := Aside0.mk hC; have HC1 := Aside0.mk hc; clear hC hc))
                    go_roundg k2
                    case measure => have := HJ2.out; have := HK2.out; omega
                    case rel => exact ⟨(wrap64 ((wrap64 (10 * x4_2)) + (((rd l1 x29_2) - 48) % 256))), (wrap64 (x29_2 + 1)), (by first | rfl | (simp; done) | (simp [*]; done)), (by first | rfl | (simp; done) | (simp [*]; done)), H', ⟨by have := HJ2.out; have := HK2.out; omega⟩, ⟨by repeat (first | (with_reducible first | exact HB.out | apply below_alloc | apply pw_below_drewN | apply below_drew1) | exact HB.out)⟩⟩
                · rw [if_neg c16] at H
                  exact absurd H (by simp)
              · rw [if_neg c15] at H
                exact absurd H (by simp)
            · rw [if_neg c14] at H
              have c14b0 : decide (x29_2 < (l1.length : Int)) = false := decide_eq_false c14
              clear c14
              simp only [Option.some.injEq, Prod.mk.injEq] at H
              obtain ⟨rfl, rfl⟩ := H
              go_wp2_with (first | ((with_reducible refine gate_dst (N := 27) rfl ?_); refine conv_event (N := 27) (e := 5) (s := a0) (l := l1) ?hg ?hd ?hl ?hz ?hr ?_; (case hd => rfl); (case hg => rfl); (case hl => exact HL1.out); (case hz => exact HZ.out); (case hr => first | (go_simp; rw [Lib.run_convert_string_bytes _ 9 70 5 a0 Try.underlying9 Try.underlying70 Try.underlying5]; rfl) | (go_simp; done)); intro A1 c1 w hC hc hb; have HB0 := Aside0.mk (below_step (by repeat (first | (with_reducible first | exact HB.out | apply below_alloc | apply pw_below_drewN | apply below_drew1) | exact HB.out)) hb); clear HB hb; have HB := Aside0.mk (Below.refl w.heap.size w); have HR1 := Aside0.mk hC; have HC1 := Aside0.mk hc; clear hC hc))
              go_ret2
              first | exact ⟨by first | rfl | (simp [errW_none, errW_some] <;> rfl) | (simp [*, errW_none, errW_some] <;> rfl), below_step HB0.out (by repeat (first | (with_reducible first | exact HB.out | apply below_alloc | apply pw_below_drewN | apply below_drew1) | exact HB.out))⟩ | exact ⟨by first | rfl | (simp [errW_none, errW_some] <;> rfl) | (simp [*, errW_none, errW_some] <;> rfl), by repeat (first | (with_reducible first | exact HB.out | apply below_alloc | apply pw_below_drewN | apply below_drew1) | exact HB.out)⟩

/-! ### regimenlaw01_awake: function 29 -/
def regimenlaw01_awake.f (k : Nat)  : Option (Bool) := (num_Put.f k 105).bind fun bt109 => ((num_Get.f k (⟨#[49, 48, 53]⟩ : ByteArray)).bind fun bt111 => ((num_Get.f k (⟨#[48, 53]⟩ : ByteArray)).bind fun bt113 => (if bt109.1.toList = ([49, 48, 53] : List UInt8) then (if bt109.2 = 0 then (if bt111.1 = 105 then (if bt111.2 = 0 then (if bt113.2 = 2 then ((num_Lead.f k (⟨#[49, 50, 97, 98]⟩ : ByteArray)).bind fun t115 => (if t115 = 2 then ((num_Tell.f k (-7)).bind fun t116 => (some (t116.toList == ([45, 55] : List UInt8)))) else (none))) else (none)) else (none)) else (none)) else (none)) else (none))))
theorem regimenlaw01_awake.mono : ∀ k, LeO (regimenlaw01_awake.f k ) (regimenlaw01_awake.f (k + 1) ) := by
  intro  k
  unfold regimenlaw01_awake.f
  repeat' first
      | (with_reducible exact num_Get.mono _ _)
      | (with_reducible exact num_Lead.mono _ _)
      | (with_reducible exact num_Put.mono _ _)
      | (with_reducible exact num_Tell.mono _ _)
      | (with_reducible exact LeO.refl _)
      | (with_reducible exact LeO.none _)
      | (with_reducible refine LeO.ite ?_ ?_)
      | (with_reducible refine LeO.bind ?_ (fun _ => ?_))
      | exact num_Get.mono _ _
      | exact num_Lead.mono _ _
      | exact num_Put.mono _ _
      | exact num_Tell.mono _ _
      | exact LeO.none _
      | refine LeO.ite ?_ ?_
      | refine LeO.bind ?_ (fun _ => ?_)
set_option maxHeartbeats 8000000 in
set_option maxRecDepth 100000 in
theorem regimenlaw01_awake.calls (k : Nat)  (r : Bool) (w : World) (h : regimenlaw01_awake.f k  = some r) :
    Calls Try.prog 29 #[] w fun e w' => e = .returned (.bool r) ∧ Below w.heap.size w w' := by
  have HB := Aside0.mk (Below.refl w.heap.size w)
  have H : ((num_Put.f k 105).bind fun bt109 => ((num_Get.f k (⟨#[49, 48, 53]⟩ : ByteArray)).bind fun bt111 => ((num_Get.f k (⟨#[48, 53]⟩ : ByteArray)).bind fun bt113 => (if bt109.1.toList = ([49, 48, 53] : List UInt8) then (if bt109.2 = 0 then (if bt111.1 = 105 then (if bt111.2 = 0 then (if bt113.2 = 2 then ((num_Lead.f k (⟨#[49, 50, 97, 98]⟩ : ByteArray)).bind fun t115 => (if t115 = 2 then ((num_Tell.f k (-7)).bind fun t116 => (some (t116.toList == ([45, 55] : List UInt8)))) else (none))) else (none)) else (none)) else (none)) else (none)) else (none))))) = some r := h
  clear h
  replace H := Option.bind_eq_some_iff.mp H
  obtain ⟨⟨t109, t110⟩, A10, H⟩ := H
  replace H : ((num_Get.f k (⟨#[49, 48, 53]⟩ : ByteArray)).bind fun bt111 => ((num_Get.f k (⟨#[48, 53]⟩ : ByteArray)).bind fun bt113 => (if t109.toList = ([49, 48, 53] : List UInt8) then (if t110 = 0 then (if bt111.1 = 105 then (if bt111.2 = 0 then (if bt113.2 = 2 then ((num_Lead.f k (⟨#[49, 50, 97, 98]⟩ : ByteArray)).bind fun t115 => (if t115 = 2 then ((num_Tell.f k (-7)).bind fun t116 => (some (t116.toList == ([45, 55] : List UInt8)))) else (none))) else (none)) else (none)) else (none)) else (none)) else (none)))) = some r := H
  have A1 := Aside0.mk A10
  clear A10
  replace H := Option.bind_eq_some_iff.mp H
  obtain ⟨⟨t111, t112⟩, A20, H⟩ := H
  replace H : ((num_Get.f k (⟨#[48, 53]⟩ : ByteArray)).bind fun bt113 => (if t109.toList = ([49, 48, 53] : List UInt8) then (if t110 = 0 then (if t111 = 105 then (if t112 = 0 then (if bt113.2 = 2 then ((num_Lead.f k (⟨#[49, 50, 97, 98]⟩ : ByteArray)).bind fun t115 => (if t115 = 2 then ((num_Tell.f k (-7)).bind fun t116 => (some (t116.toList == ([45, 55] : List UInt8)))) else (none))) else (none)) else (none)) else (none)) else (none)) else (none))) = some r := H
  have A2 := Aside0.mk A20
  clear A20
  replace H := Option.bind_eq_some_iff.mp H
  obtain ⟨⟨t113, t114⟩, A30, H⟩ := H
  replace H : (if t109.toList = ([49, 48, 53] : List UInt8) then (if t110 = 0 then (if t111 = 105 then (if t112 = 0 then (if t114 = 2 then ((num_Lead.f k (⟨#[49, 50, 97, 98]⟩ : ByteArray)).bind fun t115 => (if t115 = 2 then ((num_Tell.f k (-7)).bind fun t116 => (some (t116.toList == ([45, 55] : List UInt8)))) else (none))) else (none)) else (none)) else (none)) else (none)) else (none)) = some r := H
  have A3 := Aside0.mk A30
  clear A30
  by_cases c4 : t109.toList = ([49, 48, 53] : List UInt8)
  · rw [if_pos c4] at H
    have c4b0 : (t109.toList == ([49, 48, 53] : List UInt8)) = true := beq_iff_eq.mpr c4
    have c4b1 : (t109.toList != ([49, 48, 53] : List UInt8)) = false := bne_eq_false_iff_eq.mpr c4
    clear c4
    by_cases c5 : t110 = 0
    · rw [if_pos c5] at H
      have c5b0 : (t110 == 0) = true := beq_iff_eq.mpr c5
      have c5b1 : (t110 != 0) = false := bne_eq_false_iff_eq.mpr c5
      clear c5
      by_cases c6 : t111 = 105
      · rw [if_pos c6] at H
        have c6b0 : (t111 == 105) = true := beq_iff_eq.mpr c6
        have c6b1 : (t111 != 105) = false := bne_eq_false_iff_eq.mpr c6
        clear c6
        by_cases c7 : t112 = 0
        · rw [if_pos c7] at H
          have c7b0 : (t112 == 0) = true := beq_iff_eq.mpr c7
          have c7b1 : (t112 != 0) = false := bne_eq_false_iff_eq.mpr c7
          clear c7
          by_cases c8 : t114 = 2
          · rw [if_pos c8] at H
            have c8b0 : (t114 == 2) = true := beq_iff_eq.mpr c8
            have c8b1 : (t114 != 2) = false := bne_eq_false_iff_eq.mpr c8
            clear c8
            replace H := Option.bind_eq_some_iff.mp H
            obtain ⟨t115, A90, H⟩ := H
            replace H : (if t115 = 2 then ((num_Tell.f k (-7)).bind fun t116 => (some (t116.toList == ([45, 55] : List UInt8)))) else (none)) = some r := H
            have A9 := Aside0.mk A90
            clear A90
            by_cases c10 : t115 = 2
            · rw [if_pos c10] at H
              have c10b0 : (t115 == 2) = true := beq_iff_eq.mpr c10
              have c10b1 : (t115 != 2) = false := bne_eq_false_iff_eq.mpr c10
              clear c10
              replace H := Option.bind_eq_some_iff.mp H
              obtain ⟨t116, A110, H⟩ := H
              replace H : (some (t116.toList == ([45, 55] : List UInt8))) = some r := H
              have A11 := Aside0.mk A110
              clear A110
              obtain rfl := Option.some.inj H
              go_enter Try.func29, Try.ntmps29
              go_wp2_with (first | ((with_reducible refine gate_callee (f := 26) rfl ?_); refine goesL_ (some 8) rfl rfl Try.func26 (by kernel_rfl) rfl #[.int .i64 105] rfl (by (try simp only [List.map_toArray, List.map_cons, List.map_nil]); first | done | rfl | (simp only [List.length_drop, List.length_take]; rfl)) ?_; (with_reducible refine (num_Put.calls k 105 t109 t110 _ A1.out).mono ?_); rintro e w12 ⟨rfl, hb⟩; refine ⟨_, rfl, ?_⟩; have n0_ := Aside0.mk (below_step (by repeat (first | (with_reducible first | exact HB.out | apply below_alloc | apply pw_below_drewN | apply below_drew1) | exact HB.out)) hb); clear HB; have HB := n0_; clear n0_; (try clear hb); (try clear hb2); (try clear hk); (try clear hi)) | ((with_reducible refine gate_callee (f := 30) rfl ?_); refine goesL_ (some 12) rfl rfl Try.func30 (by kernel_rfl) rfl #[.string (⟨#[49, 48, 53]⟩ : ByteArray)] rfl (by (try simp only [List.map_toArray, List.map_cons, List.map_nil]); first | done | rfl | (simp only [List.length_drop, List.length_take]; rfl)) ?_; (with_reducible refine (num_Get.calls k (⟨#[49, 48, 53]⟩ : ByteArray) t111 t112 _ A2.out).mono ?_); rintro e w13 ⟨rfl, hb⟩; refine ⟨_, rfl, ?_⟩; have n0_ := Aside0.mk (below_step (by repeat (first | (with_reducible first | exact HB.out | apply below_alloc | apply pw_below_drewN | apply below_drew1) | exact HB.out)) hb); clear HB; have HB := n0_; clear n0_; (try clear hb); (try clear hb2); (try clear hk); (try clear hi)) | ((with_reducible refine gate_callee (f := 30) rfl ?_); refine goesL_ (some 16) rfl rfl Try.func30 (by kernel_rfl) rfl #[.string (⟨#[48, 53]⟩ : ByteArray)] rfl (by (try simp only [List.map_toArray, List.map_cons, List.map_nil]); first | done | rfl | (simp only [List.length_drop, List.length_take]; rfl)) ?_; (with_reducible refine (num_Get.calls k (⟨#[48, 53]⟩ : ByteArray) t113 t114 _ A3.out).mono ?_); rintro e w14 ⟨rfl, hb⟩; refine ⟨_, rfl, ?_⟩; have n0_ := Aside0.mk (below_step (by repeat (first | (with_reducible first | exact HB.out | apply below_alloc | apply pw_below_drewN | apply below_drew1) | exact HB.out)) hb); clear HB; have HB := n0_; clear n0_; (try clear hb); (try clear hb2); (try clear hk); (try clear hi)) | (go_at_call 33; (with_reducible refine (num_Lead.calls k (⟨#[49, 50, 97, 98]⟩ : ByteArray) t115 _ A9.out).mono ?_); rintro e w15 ⟨rfl, hb⟩; have n0_ := Aside0.mk (below_step (by repeat (first | (with_reducible first | exact HB.out | apply below_alloc | apply pw_below_drewN | apply below_drew1) | exact HB.out)) hb); clear HB; have HB := n0_; clear n0_; (try clear hb); (try clear hb2); (try clear hk); (try clear hi)) | (go_at_call 27; (with_reducible refine (num_Tell.calls k (-7) t116 _ A11.out).mono ?_); rintro e w16 ⟨rfl, hb⟩; have n0_ := Aside0.mk (below_step (by repeat (first | (with_reducible first | exact HB.out | apply below_alloc | apply pw_below_drewN | apply below_drew1) | exact HB.out)) hb); clear HB; have HB := n0_; clear n0_; (try clear hb); (try clear hb2); (try clear hk); (try clear hi)))
              go_ret
              exact ⟨by first | rfl | (simp [errW_none, errW_some] <;> rfl) | (simp [*, errW_none, errW_some] <;> rfl), by repeat (first | (with_reducible first | exact HB.out | apply below_alloc | apply pw_below_drewN | apply below_drew1) | exact HB.out)⟩
            · rw [if_neg c10] at H
              exact absurd H (by simp)
          · rw [if_neg c8] at H
            exact absurd H (by simp)
        · rw [if_neg c7] at H
          exact absurd H (by simp)
      · rw [if_neg c6] at H
        exact absurd H (by simp)
    · rw [if_neg c5] at H
      exact absurd H (by simp)
  · rw [if_neg c4] at H
    exact absurd H (by simp)

/-! ### regimenref01_Get: function 32 -/
mutual
def regimenref01_Get.l0 : Nat → ByteArray → Int → Option (Int × Int)
  | 0, _, _ => none
  | k + 1, x0, x4 => if x4 < (x0.size : Int) then (if 0 ≤ x4 then (if (bt x0 x4) < 48 then (some (0, 2)) else (if (bt x0 x4) > 57 then (some (0, 2)) else (regimenref01_Get.l0 k x0 (wrap64 (x4 + 1))))) else (none)) else (if (x0.size : Int) = 0 then (regimenref01_Get.j1 k x0 true) else (if (x0.size : Int) > 1 then (if 0 < (x0.size : Int) then (regimenref01_Get.j1 k x0 ((bt x0 0) == 48)) else (none)) else (regimenref01_Get.j1 k x0 false)))
def regimenref01_Get.j1 : Nat → ByteArray → Bool → Option (Int × Int)
  | 0, _, _ => none
  | k + 1, x0, x35 => if x35 = true then (some (0, 2)) else (if (x0.size : Int) > 13 then (some (0, 3)) else (regimenref01_Get.l1 k x0 0 0))
def regimenref01_Get.l1 : Nat → ByteArray → Int → Int → Option (Int × Int)
  | 0, _, _, _ => none
  | k + 1, x0, x5, x6 => if x6 < (x0.size : Int) then (if 0 ≤ x6 then (regimenref01_Get.l1 k x0 (wrap64 ((wrap64 (10 * x5)) + (((bt x0 x6) - 48) % 256))) (wrap64 (x6 + 1))) else (none)) else (if x5 > 1099511627776 then (some (0, 3)) else (some (x5, 0)))
end
def regimenref01_Get.f (k : Nat) (a0 : ByteArray) : Option (Int × Int) := regimenref01_Get.l0 k a0 0
theorem regimenref01_Get.mono_l : ∀ k, (∀ y0 y1, LeO (regimenref01_Get.l0 k y0 y1) (regimenref01_Get.l0 (k + 1) y0 y1)) ∧ (∀ y0 y1, LeO (regimenref01_Get.j1 k y0 y1) (regimenref01_Get.j1 (k + 1) y0 y1)) ∧ (∀ y0 y1 y2, LeO (regimenref01_Get.l1 k y0 y1 y2) (regimenref01_Get.l1 (k + 1) y0 y1 y2))
  | 0 => ⟨fun _ _ r h => by simp [regimenref01_Get.l0] at h, fun _ _ r h => by simp [regimenref01_Get.j1] at h, fun _ _ _ r h => by simp [regimenref01_Get.l1] at h⟩
  | k + 1 => by
    obtain ⟨ih0, ih1, ih2⟩ := regimenref01_Get.mono_l k
    refine ⟨?_, ?_, ?_⟩
    · intro y0 y1
      unfold regimenref01_Get.l0
      repeat' first
      | (with_reducible exact ih0 _ _)
      | (with_reducible exact ih1 _ _)
      | (with_reducible exact ih2 _ _ _)
      | (with_reducible exact LeO.refl _)
      | (with_reducible exact LeO.none _)
      | (with_reducible refine LeO.ite ?_ ?_)
      | (with_reducible refine LeO.bind ?_ (fun _ => ?_))
      | exact ih0 _ _
      | exact ih1 _ _
      | exact ih2 _ _ _
      | exact LeO.none _
      | refine LeO.ite ?_ ?_
      | refine LeO.bind ?_ (fun _ => ?_)
    · intro y0 y1
      unfold regimenref01_Get.j1
      repeat' first
      | (with_reducible exact ih0 _ _)
      | (with_reducible exact ih1 _ _)
      | (with_reducible exact ih2 _ _ _)
      | (with_reducible exact LeO.refl _)
      | (with_reducible exact LeO.none _)
      | (with_reducible refine LeO.ite ?_ ?_)
      | (with_reducible refine LeO.bind ?_ (fun _ => ?_))
      | exact ih0 _ _
      | exact ih1 _ _
      | exact ih2 _ _ _
      | exact LeO.none _
      | refine LeO.ite ?_ ?_
      | refine LeO.bind ?_ (fun _ => ?_)
    · intro y0 y1 y2
      unfold regimenref01_Get.l1
      repeat' first
      | (with_reducible exact ih0 _ _)
      | (with_reducible exact ih1 _ _)
      | (with_reducible exact ih2 _ _ _)
      | (with_reducible exact LeO.refl _)
      | (with_reducible exact LeO.none _)
      | (with_reducible refine LeO.ite ?_ ?_)
      | (with_reducible refine LeO.bind ?_ (fun _ => ?_))
      | exact ih0 _ _
      | exact ih1 _ _
      | exact ih2 _ _ _
      | exact LeO.none _
      | refine LeO.ite ?_ ?_
      | refine LeO.bind ?_ (fun _ => ?_)
theorem regimenref01_Get.mono : ∀ a0 k, LeO (regimenref01_Get.f k a0) (regimenref01_Get.f (k + 1) a0) := by
  intro a0 k
  obtain ⟨ih0, ih1, ih2⟩ := regimenref01_Get.mono_l k
  unfold regimenref01_Get.f
  repeat' first
      | (with_reducible exact ih0 _ _)
      | (with_reducible exact ih1 _ _)
      | (with_reducible exact ih2 _ _ _)
      | (with_reducible exact LeO.refl _)
      | (with_reducible exact LeO.none _)
      | (with_reducible refine LeO.ite ?_ ?_)
      | (with_reducible refine LeO.bind ?_ (fun _ => ?_))
      | exact ih0 _ _
      | exact ih1 _ _
      | exact ih2 _ _ _
      | exact LeO.none _
      | refine LeO.ite ?_ ?_
      | refine LeO.bind ?_ (fun _ => ?_)
set_option maxHeartbeats 8000000 in
set_option maxRecDepth 100000 in
theorem regimenref01_Get.calls (k : Nat) (a0 : ByteArray) (r1 : Int) (r2 : Int) (w : World) (h : regimenref01_Get.f k a0 = some (r1, r2)) :
    Calls Try.prog 32 #[.string a0] w fun e w' => e = .returned (.tuple #[.int .i64 r1, .int .i64 r2]) ∧ Drawn0 w w' := by
  have H : (regimenref01_Get.l0 k a0 0) = some (r1, r2) := h
  clear h
  have H' := Aside0.mk H
  clear H
  go_enter Try.func32, Try.ntmps32
  go_wp2
  go_loopg [4] k (fun kq v4 w' => ∃ (x4_1 : Int), v4 = .int .i64 x4_1 ∧ Aside0 (regimenref01_Get.l0 kq a0 x4_1 = some (r1, r2)) ∧ Aside0 (kq ≤ k) ∧ Drawn0 w w')
  case atStart => exact ⟨(0), (by first | rfl | (simp; done) | (simp [*]; done)), H', ⟨Nat.le_refl _⟩, by repeat (first | exact Drawn0.refl _ | apply Drawn0.step)⟩
  case round =>
    clear H'
    obtain ⟨x4_1, rfl, HA, HK1, ⟨m1, rfl⟩⟩ := hrel
    cases gk with
    | zero => exact absurd HA.out (by simp [regimenref01_Get.l0])
    | succ k1 =>
      have H := HA.out
      clear HA
      simp only [regimenref01_Get.l0] at H
      by_cases c2 : x4_1 < (a0.size : Int)
      · rw [if_pos c2] at H
        have c2b0 : decide (x4_1 < (a0.size : Int)) = true := decide_eq_true c2
        clear c2
        by_cases c3 : 0 ≤ x4_1
        · rw [if_pos c3] at H
          have c3b0 : decide (0 ≤ x4_1) = true := decide_eq_true c3
          clear c3
          by_cases c5 : (bt a0 x4_1) < 48
          · rw [if_pos c5] at H
            have c5b0 : decide ((bt a0 x4_1) < 48) = true := decide_eq_true c5
            clear c5
            simp only [Option.some.injEq, Prod.mk.injEq] at H
            obtain ⟨rfl, rfl⟩ := H
            have p4 : 0 ≤ (x4_1 : Int) := of_decide_eq_true (by first | (with_reducible assumption) | assumption)
            have q4 : x4_1 < (a0.size : Int) := of_decide_eq_true (by first | (with_reducible assumption) | assumption)
            have hx4 := bt_at a0 x4_1
            replace p4 := eq_true p4
            replace q4 := eq_true q4
            go_wp2
            go_ret2
            exact ⟨by first | rfl | (simp; done) | (simp [*]; done), by repeat (first | exact Drawn0.refl _ | apply Drawn0.step)⟩
          · rw [if_neg c5] at H
            have c5b0 : decide ((bt a0 x4_1) < 48) = false := decide_eq_false c5
            clear c5
            by_cases c7 : (bt a0 x4_1) > 57
            · rw [if_pos c7] at H
              have c7b0 : decide (57 < (bt a0 x4_1)) = true := decide_eq_true c7
              clear c7
              simp only [Option.some.injEq, Prod.mk.injEq] at H
              obtain ⟨rfl, rfl⟩ := H
              have p4 : 0 ≤ (x4_1 : Int) := of_decide_eq_true (by first | (with_reducible assumption) | assumption)
              have q4 : x4_1 < (a0.size : Int) := of_decide_eq_true (by first | (with_reducible assumption) | assumption)
              have hx4 := bt_at a0 x4_1
              replace p4 := eq_true p4
              replace q4 := eq_true q4
              have p6 : 0 ≤ (x4_1 : Int) := of_decide_eq_true (by first | (with_reducible assumption) | assumption)
              have q6 : x4_1 < (a0.size : Int) := of_decide_eq_true (by first | (with_reducible assumption) | assumption)
              have hx6 := bt_at a0 x4_1
              replace p6 := eq_true p6
              replace q6 := eq_true q6
              go_wp2
              go_ret2
              exact ⟨by first | rfl | (simp; done) | (simp [*]; done), by repeat (first | exact Drawn0.refl _ | apply Drawn0.step)⟩
            · rw [if_neg c7] at H
              have c7b0 : decide (57 < (bt a0 x4_1)) = false := decide_eq_false c7
              clear c7
              have H' := Aside0.mk H
              clear H
              have p4 : 0 ≤ (x4_1 : Int) := of_decide_eq_true (by first | (with_reducible assumption) | assumption)
              have q4 : x4_1 < (a0.size : Int) := of_decide_eq_true (by first | (with_reducible assumption) | assumption)
              have hx4 := bt_at a0 x4_1
              replace p4 := eq_true p4
              replace q4 := eq_true q4
              have p6 : 0 ≤ (x4_1 : Int) := of_decide_eq_true (by first | (with_reducible assumption) | assumption)
              have q6 : x4_1 < (a0.size : Int) := of_decide_eq_true (by first | (with_reducible assumption) | assumption)
              have hx6 := bt_at a0 x4_1
              replace p6 := eq_true p6
              replace q6 := eq_true q6
              go_wp2
              go_roundg k1
              case measure => have := HK1.out; omega
              case rel => exact ⟨(wrap64 (x4_1 + 1)), (by first | rfl | (simp; done) | (simp [*]; done)), H', ⟨by have := HK1.out; omega⟩, by repeat (first | exact Drawn0.refl _ | apply Drawn0.step)⟩
        · rw [if_neg c3] at H
          exact absurd H (by simp)
      · rw [if_neg c2] at H
        have c2b0 : decide (x4_1 < (a0.size : Int)) = false := decide_eq_false c2
        clear c2
        have HC8 := Aside0.mk H
        clear H
        go_upto_region 6 with (fail)
        go_cut [35] (fun v35 wc => ∃ (kq : Nat) (x35_7 : Bool), v35 = .bool x35_7 ∧ Aside0 (regimenref01_Get.j1 kq a0 x35_7 = some (r1, r2)) ∧ Aside0 (kq ≤ k1) ∧ Drawn0 w wc)
        case first =>
          have H := HC8.out
          clear HC8
          by_cases c9 : (a0.size : Int) = 0
          · rw [if_pos c9] at H
            have c9b0 : ((a0.size : Int) == 0) = true := beq_iff_eq.mpr c9
            have c9b1 : ((a0.size : Int) != 0) = false := bne_eq_false_iff_eq.mpr c9
            clear c9
            (first | rw [c9b0] | rw [c9b1] | (simp only [i64_w, i32_w]; rw [c9b0]) | skip)
            have H' := Aside0.mk H
            clear H
            go_wp2
            go_meet
            case rel => exact ⟨_, (true), (by first | rfl | (simp; done) | (simp [*]; done)), H', ⟨by have := HK1.out; first | omega | exact Nat.le_refl _⟩, by repeat (first | exact Drawn0.refl _ | apply Drawn0.step)⟩
          · rw [if_neg c9] at H
            have c9b0 : ((a0.size : Int) == 0) = false := beq_eq_false_iff_ne.mpr c9
            have c9b1 : ((a0.size : Int) != 0) = true := bne_iff_ne.mpr c9
            (first | rw [c9b0] | rw [c9b1] | (simp only [i64_w, i32_w]; rw [c9b0]) | skip)
            by_cases c10 : (a0.size : Int) > 1
            · rw [if_pos c10] at H
              have c10b0 : decide (1 < (a0.size : Int)) = true := decide_eq_true c10
              have c10b1 : decide (1 < a0.size) = true := decide_eq_true (by omega)
              clear c10
              by_cases c11 : 0 < (a0.size : Int)
              · rw [if_pos c11] at H
                have c11b0 : decide (0 < (a0.size : Int)) = true := decide_eq_true c11
                have c11b1 : decide (0 < a0.size) = true := decide_eq_true (by omega)
                clear c11
                have H' := Aside0.mk H
                clear H
                have p12 : 0 ≤ (0 : Int) := (by omega)
                have q12 : 0 < a0.size := (by have : (0 : Int) < (a0.size : Int) := of_decide_eq_true (by first | (with_reducible assumption) | assumption); omega)
                have hx12 : ∀ h : 0 < a0.size, ((a0[0]'h).toNat : Int) = bt a0 0 := bt_at a0 0
                clear p12
                have qi12 : (0 < (a0.size : Int)) = True := eq_true (of_decide_eq_true (by first | (with_reducible assumption) | assumption))
                replace q12 := eq_true q12
                go_wp2
                go_meet
                case rel => exact ⟨_, (((bt a0 0) == 48)), (by first | rfl | (simp; done) | (simp [*]; done)), H', ⟨by have := HK1.out; first | omega | exact Nat.le_refl _⟩, by repeat (first | exact Drawn0.refl _ | apply Drawn0.step)⟩
              · rw [if_neg c11] at H
                exact absurd H (by simp)
            · rw [if_neg c10] at H
              have c10b0 : decide (1 < (a0.size : Int)) = false := decide_eq_false c10
              have c10b1 : decide (1 < a0.size) = false := decide_eq_false (by omega)
              clear c10
              have H' := Aside0.mk H
              clear H
              go_wp2
              go_meet
              case rel => exact ⟨_, (false), (by first | rfl | (simp; done) | (simp [*]; done)), H', ⟨by have := HK1.out; first | omega | exact Nat.le_refl _⟩, by repeat (first | exact Drawn0.refl _ | apply Drawn0.step)⟩
        case rest =>
          clear HC8
          try clear c1
          try clear p1
          try clear q1
          try clear hx1
          try clear qi1
          try clear c2
          try clear c2b0
          try clear p2
          try clear c3
          try clear c3b0
          try clear p4
          try clear q4
          try clear hx4
          try clear c5
          try clear c5b0
          try clear p6
          try clear q6
          try clear hx6
          try clear c7
          try clear c7b0
          try clear c9
          try clear c9b0
          try clear c9b1
          try clear c10
          try clear c10b0
          try clear c10b1
          try clear c11
          try clear c11b0
          try clear c11b1
          try clear p12
          try clear q12
          try clear hx12
          try clear qi12
          try clear p12
          try clear p4
          try clear p6
          try clear q12
          try clear q4
          try clear q6
          obtain ⟨kq, x35_7, rfl, HA, HJ7, ⟨mc7, rfl⟩⟩ := hcut
          cases kq with
          | zero => exact absurd HA.out (by simp [regimenref01_Get.j1])
          | succ kj7 =>
            have H := HA.out
            clear HA
            simp only [regimenref01_Get.j1] at H
            by_cases c13 : x35_7 = true
            · subst c13
              have H1 : (some (0, 2)) = some (r1, r2) := by rw [if_pos rfl] at H; exact H
              clear H
              have H := H1
              clear H1
              simp only [Option.some.injEq, Prod.mk.injEq] at H
              obtain ⟨rfl, rfl⟩ := H
              go_wp2
              go_ret2
              exact ⟨by first | rfl | (simp; done) | (simp [*]; done), by repeat (first | exact Drawn0.refl _ | apply Drawn0.step)⟩
            · replace c13 := Bool.eq_false_iff.mpr c13
              subst c13
              have H1 : (if (a0.size : Int) > 13 then (some (0, 3)) else (regimenref01_Get.l1 kj7 a0 0 0)) = some (r1, r2) := by rw [if_neg (show ¬ (false = true) by decide)] at H; exact H
              clear H
              have H := H1
              clear H1
              by_cases c14 : (a0.size : Int) > 13
              · rw [if_pos c14] at H
                have c14b0 : decide (13 < (a0.size : Int)) = true := decide_eq_true c14
                have c14b1 : decide (13 < a0.size) = true := decide_eq_true (by omega)
                clear c14
                simp only [Option.some.injEq, Prod.mk.injEq] at H
                obtain ⟨rfl, rfl⟩ := H
                go_wp2
                go_ret2
                exact ⟨by first | rfl | (simp; done) | (simp [*]; done), by repeat (first | exact Drawn0.refl _ | apply Drawn0.step)⟩
              · rw [if_neg c14] at H
                have c14b0 : decide (13 < (a0.size : Int)) = false := decide_eq_false c14
                have c14b1 : decide (13 < a0.size) = false := decide_eq_false (by omega)
                clear c14
                have H' := Aside0.mk H
                clear H
                go_wp2
                go_loopg [5, 6] kj7 (fun kq v5 v6 w' => ∃ (x5_3 : Int) (x6_3 : Int), v5 = .int .i64 x5_3 ∧ v6 = .int .i64 x6_3 ∧ Aside0 (regimenref01_Get.l1 kq a0 x5_3 x6_3 = some (r1, r2)) ∧ Aside0 (kq ≤ kj7) ∧ Drawn0 w w')
                case atStart => exact ⟨(0), (0), (by first | rfl | (simp; done) | (simp [*]; done)), (by first | rfl | (simp; done) | (simp [*]; done)), H', ⟨Nat.le_refl _⟩, by repeat (first | exact Drawn0.refl _ | apply Drawn0.step)⟩
                case round =>
                  clear H'
                  try clear c1
                  try clear p1
                  try clear q1
                  try clear hx1
                  try clear qi1
                  try clear c2
                  try clear c2b0
                  try clear p2
                  try clear c3
                  try clear c3b0
                  try clear p4
                  try clear q4
                  try clear hx4
                  try clear c5
                  try clear c5b0
                  try clear p6
                  try clear q6
                  try clear hx6
                  try clear c7
                  try clear c7b0
                  try clear c9
                  try clear c9b0
                  try clear c9b1
                  try clear c10
                  try clear c10b0
                  try clear c10b1
                  try clear c11
                  try clear c11b0
                  try clear c11b1
                  try clear p12
                  try clear q12
                  try clear hx12
                  try clear qi12
                  try clear c13
                  try clear c14
                  try clear c14b0
                  try clear c14b1
                  try clear p1
                  try clear p12
                  try clear p2
                  try clear p4
                  try clear p6
                  try clear q1
                  try clear q12
                  try clear q4
                  try clear q6
                  obtain ⟨x5_3, x6_3, rfl, rfl, HA, HK3, ⟨m3, rfl⟩⟩ := hrel
                  cases gk with
                  | zero => exact absurd HA.out (by simp [regimenref01_Get.l1])
                  | succ k3 =>
                    have H := HA.out
                    clear HA
                    simp only [regimenref01_Get.l1] at H
                    by_cases c15 : x6_3 < (a0.size : Int)
                    · rw [if_pos c15] at H
                      have c15b0 : decide (x6_3 < (a0.size : Int)) = true := decide_eq_true c15
                      clear c15
                      by_cases c16 : 0 ≤ x6_3
                      · rw [if_pos c16] at H
                        have c16b0 : decide (0 ≤ x6_3) = true := decide_eq_true c16
                        clear c16
                        have H' := Aside0.mk H
                        clear H
                        have p17 : 0 ≤ (x6_3 : Int) := of_decide_eq_true (by first | (with_reducible assumption) | assumption)
                        have q17 : x6_3 < (a0.size : Int) := of_decide_eq_true (by first | (with_reducible assumption) | assumption)
                        have hx17 := bt_at a0 x6_3
                        replace p17 := eq_true p17
                        replace q17 := eq_true q17
                        go_wp2
                        go_roundg k3
                        case measure => have := HK1.out; have := HJ7.out; have := HK3.out; omega
                        case rel => exact ⟨(wrap64 ((wrap64 (10 * x5_3)) + (((bt a0 x6_3) - 48) % 256))), (wrap64 (x6_3 + 1)), (by first | rfl | (simp; done) | (simp [*]; done)), (by first | rfl | (simp; done) | (simp [*]; done)), H', ⟨by have := HK1.out; have := HJ7.out; have := HK3.out; omega⟩, by repeat (first | exact Drawn0.refl _ | apply Drawn0.step)⟩
                      · rw [if_neg c16] at H
                        exact absurd H (by simp)
                    · rw [if_neg c15] at H
                      have c15b0 : decide (x6_3 < (a0.size : Int)) = false := decide_eq_false c15
                      clear c15
                      by_cases c18 : x5_3 > 1099511627776
                      · rw [if_pos c18] at H
                        have c18b0 : decide (1099511627776 < x5_3) = true := decide_eq_true c18
                        clear c18
                        simp only [Option.some.injEq, Prod.mk.injEq] at H
                        obtain ⟨rfl, rfl⟩ := H
                        go_wp2
                        go_ret2
                        exact ⟨by first | rfl | (simp; done) | (simp [*]; done), by repeat (first | exact Drawn0.refl _ | apply Drawn0.step)⟩
                      · rw [if_neg c18] at H
                        have c18b0 : decide (1099511627776 < x5_3) = false := decide_eq_false c18
                        clear c18
                        simp only [Option.some.injEq, Prod.mk.injEq] at H
                        obtain ⟨rfl, rfl⟩ := H
                        go_wp2
                        go_ret2
                        exact ⟨by first | rfl | (simp; done) | (simp [*]; done), by repeat (first | exact Drawn0.refl _ | apply Drawn0.step)⟩

end Go.Proofs.Ytbnkjchhbjbbnaa.PA
